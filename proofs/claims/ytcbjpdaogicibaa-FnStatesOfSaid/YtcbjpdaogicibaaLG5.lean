/- Part 5 of what is common to several claims of this seat: StatesOfL. -/
import Derived.Test.YtcbjpdaogicibaaLG4
import Derived.Below
import Derived.Deep.Draws
import Derived.Deep.AppendLies
import Derived.Maps.AppendAt
import Derived.OwnWalk
import Derived.Laws.BytesArg
import Derived.Laws.MakeOwn
import Derived.Laws.OwnMore
import Derived.Deep.OwnRows
import Derived.Tactics
import Derived.Lib.ConvBytes
import Derived.Laws.Slices
import Derived.WalkKit
import Derived.KernelRfl
import Derived.RowKit3
import Derived.Deep.LoopGhost
import Derived.Deep.QuietTactic
import Derived.BigQuiet
import Derived.WideLaws
import Derived.Deep.DeepCutAuto
import Derived.Deep.CutBlock
import Derived.Deep.RegionHeld3
import Derived.Laws.Rows
import Derived.Lib.AppendStr
import Derived.ArgAppend
import Derived.Laws.IdiomCopy
import Derived.RowKit
import Derived.OrdersHeld
import Derived.Laws.BitsLemmas
import Derived.Test.YtcbjpdaogicibaaProg
set_option linter.all false
section
namespace Go.Proofs.Ytcbjpdaogicibaa.Print
open Go.RowKit Go.Proofs.YtcbjpdaogicibaaW.PrintWords Go.Proofs.YtcbjpdaogicibaaW.PrintLast Go.Proofs.YtcbjpdaogicibaaW.PrintMore
section
attribute [local go_sem] max2_int min2_int max_two min_two max_three min_three max_four min_four
mutual
def spec_l20Logic.j2 : Nat → Int → List Int → Int → List (List Int) → List Int → Option ((List (List Int)) × List Int × Int)
 | 0, _, _, _, _, _ => none
 | k + 1, x1, x1000, x1001, x241000, x241001 => spec_l20Logic.l0 k x1 (([] : List Int)) 0 x1000 x1001 x241000 x241001
def spec_l20Logic.l0 : Nat → Int → List Int → Int → List Int → Int → List (List Int) → List Int → Option ((List (List Int)) × List Int × Int)
 | 0, _, _, _, _, _, _, _ => none
 | k + 1, x1, x6, x7, x1000, x1001, x241000, x241001 => if x7 < (x241001.length : Int) then ((spec_l20Rd_pick.f k x1000 x1001 (wrap64 (x7 + 1))).bind fun bt350 => (if x6.length < 17592186044416 then (spec_l20Logic.l1 k x1 (x6 ++ [x7]) x7 bt350.1 x7 x1000 bt350.2 x241000 x241001) else (none))) else ((spec_l20Rd_pick.f k x1000 x1001 2).bind fun bt358 => (if bt358.1 = 0 then ((spec_l20Rename.f k x241000 x241001 x6).bind fun bt360 => (spec_l20Logic.j5 k x1 x1000 bt358.2 bt360.1 bt360.2)) else (spec_l20Logic.j5 k x1 x1000 bt358.2 x241000 x241001)))
def spec_l20Logic.l1 : Nat → Int → List Int → Int → Int → Int → List Int → Int → List (List Int) → List Int → Option ((List (List Int)) × List Int × Int)
 | 0, _, _, _, _, _, _, _, _, _ => none
 | k + 1, x1, x6, x7, x8, x9, x1000, x1001, x241000, x241001 => if x9 > x8 then (if 0 ≤ (wrap64 (x9 - 1)) then (if (wrap64 (x9 - 1)) < (x6.length : Int) then (if 0 ≤ x9 then (if x9 < (x6.length : Int) then (spec_l20Logic.l1 k x1 (x6.set (x9 : Int).toNat (rd x6 (wrap64 (x9 - 1)))) x7 x8 (wrap64 (x9 - 1)) x1000 x1001 x241000 x241001) else (none)) else (none)) else (none)) else (none)) else (if 0 ≤ x8 then (if x8 < (x6.length : Int) then (spec_l20Logic.l0 k x1 (x6.set (x8 : Int).toNat x7) (wrap64 (x7 + 1)) x1000 x1001 x241000 x241001) else (none)) else (none))
def spec_l20Logic.j5 : Nat → Int → List Int → Int → List (List Int) → List Int → Option ((List (List Int)) × List Int × Int)
 | 0, _, _, _, _, _ => none
 | k + 1, x1, x1000, x1001, x241000, x241001 => (spec_l20Rd_odd.f k x1000 x1001 x1).bind fun bt366 => (if bt366.1 = true then ((spec_l20Rd_pick.f k x1000 bt366.2 4).bind fun bt368 => (if bt368.1 = 0 then (some (([] : List (List Int)), ([] : List Int), bt368.2)) else (if bt368.1 = 1 then (if 1 ≤ (x241001.length : Int) then (some (x241000, (x241001.drop (1 : Int).toNat), bt368.2)) else (none)) else (if bt368.1 = 2 then ((spec_l20Rd_pick.f k x1000 bt368.2 (x241001.length : Int)).bind fun bt373 => ((spec_l20Rd_pick.f k x1000 bt373.2 (wrap64 ((x241001.length : Int) + 1))).bind fun bt375 => (if 0 ≤ bt373.1 then (if bt373.1 < (x241001.length : Int) then (some (x241000, (x241001.set (bt373.1 : Int).toNat bt375.1), bt375.2)) else (none)) else (none)))) else (if 0 ≤ (wrap64 ((x241000.length : Int) - 1)) then (if (wrap64 ((x241000.length : Int) - 1)) < (x241000.length : Int) then (if 0 < ((rd_L2 x241000 (wrap64 ((x241000.length : Int) - 1))).length : Int) then (some ((x241000.set ((wrap64 ((x241000.length : Int) - 1)) : Int).toNat ((rd_L2 x241000 (wrap64 ((x241000.length : Int) - 1))).set (0 : Int).toNat 1)), x241001, bt368.2)) else (none)) else (none)) else (none)))))) else (some (x241000, x241001, bt366.2)))
def spec_l20Logic.j0 : Nat → Int → Int → Bool → List Int → Int → Option ((List (List Int)) × List Int × Int)
 | 0, _, _, _, _, _ => none
 | k + 1, x1, x12, x14, x1000, x1001 => if x14 = true then ((spec_l20Rd_pick.f k x1000 x1001 4).bind fun bt243 => ((spec_l20Boole.f k bt243.1).bind fun bt245 => (spec_l20Logic.j2 k x1 x1000 bt243.2 bt245.1 bt245.2))) else (if x12 = 2 then (spec_l20Logic.j1 k x1 x12 (x12 == 2) x1000 x1001) else (spec_l20Logic.j1 k x1 x12 (x12 == 3) x1000 x1001))
def spec_l20Logic.j1 : Nat → Int → Int → Bool → List Int → Int → Option ((List (List Int)) × List Int × Int)
 | 0, _, _, _, _, _ => none
 | k + 1, x1, x12, x20, x1000, x1001 => if x20 = true then ((spec_l20Boole.f k 2).bind fun bt251 => ((spec_l20Boole.f k 2).bind fun bt257 => ((spec_l20Glued.f k bt251.1 bt251.2 bt257.1 bt257.2).bind fun bt263 => (spec_l20Logic.j2 k x1 x1000 x1001 bt263.1 bt263.2)))) else (if x12 = 4 then ((spec_l20Boole.f k 2).bind fun bt269 => ((spec_l20Boole.f k 3).bind fun bt275 => ((spec_l20Glued.f k bt269.1 bt269.2 bt275.1 bt275.2).bind fun bt281 => (spec_l20Logic.j2 k x1 x1000 x1001 bt281.1 bt281.2)))) else (if x12 = 5 then ((spec_l20Boole.f k 2).bind fun bt287 => ((spec_l20Boole.f k 2).bind fun bt293 => ((spec_l20Glued.f k bt287.1 bt287.2 bt293.1 bt293.2).bind fun bt299 => ((spec_l20Boole.f k 2).bind fun bt305 => ((spec_l20Glued.f k bt299.1 bt299.2 bt305.1 bt305.2).bind fun bt311 => (spec_l20Logic.j2 k x1 x1000 x1001 bt311.1 bt311.2)))))) else (if x12 = 6 then ((spec_l20Six.f).bind fun bt317 => (spec_l20Logic.j2 k x1 x1000 x1001 bt317.1 bt317.2)) else (if x12 = 7 then ((spec_l20Six.f).bind fun bt323 => ((spec_l20Boole.f k 2).bind fun bt329 => ((spec_l20Glued.f k bt323.1 bt323.2 bt329.1 bt329.2).bind fun bt335 => (spec_l20Logic.j2 k x1 x1000 x1001 bt335.1 bt335.2)))) else ((spec_l20Pasted.f k).bind fun bt341 => (spec_l20Logic.j2 k x1 x1000 x1001 bt341.1 bt341.2))))))
end
def spec_l20Logic.f (k : Nat) (s0_0 : List Int) (s0_1 : Int) (a1 : Int) : Option ((List (List Int)) × List Int × Int) := (spec_l20Rd_pick.f k s0_0 s0_1 9).bind fun bt241 => (if bt241.1 = 0 then (spec_l20Logic.j0 k a1 bt241.1 (bt241.1 == 0) s0_0 bt241.2) else (spec_l20Logic.j0 k a1 bt241.1 (bt241.1 == 1) s0_0 bt241.2))
def spec_l20Logic.T39 : Bool × List (List Nat × List Nat) := (true, [([], []), ([0], [0]), ([], []), ([], []), ([3], [3]), ([4], [4]), ([2, 5], [2, 5]), ([], []), ([], []), ([8], [8]), ([9], [9]), ([10], [10]), ([7, 11, 6], [7, 11]), ([1, 6, 0, 1, 2, 3, 4, 5, 6, 7, 8, 9, 10, 11, 12], [1, 6]), ([13, 12, 12, 0, 1, 2, 3, 4, 5, 6, 7, 8, 9, 10, 11, 12], [12, 13])])
def spec_l20Logic.B39 : List Nat := [0, 1, 0, 0, 8, 24, 60, 0, 0, 256, 768, 1792, 4092, 8191, 16383]
theorem spec_l20Logic.tab39 : rtab .any (opsOf Try.f68 39) = spec_l20Logic.T39 := by kernel_rfl
theorem spec_l20Logic.bits39 : waitsOk spec_l20Logic.T39.2 spec_l20Logic.B39 = true := by kernel_rfl
set_option maxHeartbeats 8000000 in
set_option maxRecDepth 100000 in
theorem spec_l20Logic.calls (k : Nat) (g : Nat) (s0_0 : List Int) (s0_1 : Int) (a1 : Int) (r1 : List (List Int)) (r2 : List Int) (r3 : Int) (w0 w : World) (hI : IsS110 w0 w g s0_0 s0_1) (hB : Below w0.heap.size w0 w) (h : spec_l20Logic.f k s0_0 s0_1 a1 = some (r1, r2, r3)) :
  Calls Try.prog 68 #[.pointer (some ⟨g, 0, none⟩), .int .i64 a1] w fun e w' => ∃ v0_ v1_ : Value, e = .returned (.agg #[v0_, v1_]) ∧ Kd.S (Kd.slice 3 (Kd.int .i64)) 24 w' w.heap.size (fun k_ => some k_ ≠ (v1_ : Value).ownBlock) v0_ r1 ∧ Kd.Q (Kd.int .i64) 3 w' w.heap.size (fun _ => True) v1_ r2 ∧ IsS110 w0 w' g s0_0 r3 ∧ Below w0.heap.size w0 w' ∧ KeepBut w w' g none := by
 have hu26:=Try.underlying26;have a2:=zqm hI;have HK:=zqm (KeepBut.refl w g none);have HL:=zqm hB.size;clear hI;have HW0:=zqm hB.size;have HB:=zqm hB;clear hB;have H:((spec_l20Rd_pick.f k s0_0 s0_1 9).bind fun j8=>(if j8.1=0 then(spec_l20Logic.j0 k a1 j8.1 (j8.1==0) s0_0 j8.2) else(spec_l20Logic.j0 k a1 j8.1 (j8.1==1) s0_0 j8.2)))=some (r1,r2,r3):=h;clear h;replace H:=Option.bind_eq_some_iff.mp H;obtain⟨⟨c3,c5⟩,A30,H⟩:=H;replace H:(if c3=0 then(spec_l20Logic.j0 k a1 c3 (c3==0) s0_0 c5) else(spec_l20Logic.j0 k a1 c3 (c3==1) s0_0 c5))=some (r1,r2,r3):=H;have A3:=zqm A30;clear A30;have HC4:=zqm H;clear H
 go_enter Try.func68,Try.ntmps68
 go_upto_block 0 with (first|((with_reducible refine gate_dst (N:=4) rfl ?_);refine box_event ?hg (N:=4) ?hd (cs:= #[.slice none 0 0,.slice none 0 0]) (t:=26) ?hr ?_;(case hd=>rfl);(case hg=>rfl);(case hr=> exact zq9);intro b1 hg w5 hbox hb;have c8:=zqm (IsS110.below zq104 hb);have d0:=zqm (KeepBut.trans zq27 (KeepBut.of_below hb g none) (.inl rfl));replace HB:=zqm (below_step (by repeat(first|(with_reducible first|exact HB.out|apply below_alloc|apply pw_below_drewN|apply below_drew1|refine below_set ?_ (IsS110.ge a2.out))|exact HB.out)) hb);have a4:=zqm (hbox);have a9:=zqm ((by rw [hg];exact(keep_size (w:=w) (g:=g) (row:=none) zq27):w.heap.size≤b1));have b4:=zqm ((Nat.le_trans HW0.out (by rw [hg];exact(keep_size (w:=w) (g:=g) (row:=none) zq27):w.heap.size≤b1):w0.heap.size≤b1));have a7:=zqm ((by rw [hg];exact Nat.ne_of_lt (IsS110.lt (show IsS110 w0 _ g s0_0 s0_1 from zq104)):g≠b1));have c7:=zqm ((by rw [hg];exact Nat.ne_of_gt (IsS110.lt (show IsS110 w0 _ g s0_0 s0_1 from zq104)):b1≠g));clear a2 HK;have a2:=c8;have HK:=d0;clear c8 d0 hb hbox hg)|((with_reducible refine gate_dst (N:=5) rfl ?_);refine box_event ?hg (N:=5) ?hd (cs:= #[.slice none 0 0,.slice none 0 0]) (t:=26) ?hr ?_;(case hd=>rfl);(case hg=>rfl);(case hr=> exact zq9);intro a8 hg w6 hbox hb;have c8:=zqm (IsS110.below zq60 hb);have d0:=zqm (blk_below (g:=b1) (o:= .cells #[.slice none 0 0,.slice none 0 0] 26 (0,0)) (zqe a4.out) hb);have e6:=zqm (KeepBut.trans zq84 (KeepBut.of_below hb g none) (.inl rfl));replace HB:=zqm (below_step (by repeat(first|(with_reducible first|exact HB.out|apply below_alloc|apply pw_below_drewN|apply below_drew1|refine below_set ?_ (IsS110.ge a2.out)|refine below_set ?_ b4.out)|exact HB.out)) hb);have a0:=zqm (hbox);have b0:=zqm ((by rw [hg];exact(keep_size (w:=w) (g:=g) (row:=none) zq84):w.heap.size≤a8));have b5:=zqm ((Nat.le_trans HW0.out (by rw [hg];exact(keep_size (w:=w) (g:=g) (row:=none) zq84):w.heap.size≤a8):w0.heap.size≤a8));have b3:=zqm ((by rw [hg];exact Nat.ne_of_lt (blk_lt (g:=b1) (o:= .cells #[.slice none 0 0,.slice none 0 0] 26 (0,0)) (zqe a4.out)):b1≠a8));have c6:=zqm ((by rw [hg];exact Nat.ne_of_gt (blk_lt (g:=b1) (o:= .cells #[.slice none 0 0,.slice none 0 0] 26 (0,0)) (zqe a4.out)):a8≠b1));have a6:=zqm ((by rw [hg];exact Nat.ne_of_lt (IsS110.lt (show IsS110 w0 _ g s0_0 s0_1 from zq60)):g≠a8));have c2:=zqm ((by rw [hg];exact Nat.ne_of_gt (IsS110.lt (show IsS110 w0 _ g s0_0 s0_1 from zq60)):a8≠g));clear a2 a4 HK;have a2:=c8;have a4:=d0;have HK:=e6;clear c8 d0 e6 hb hbox hg;have b8z:=c6.out;have b9b:=b3.out;have b9a:=c2.out;have b9c:=a6.out;have b5n:w6.cell? ⟨a8,0,none⟩=some (.slice none 0 0):=(blk_cell a0.out 0).trans rfl;have b5o:w6.cell? ⟨a8,1,none⟩=some (.slice none 0 0):=(blk_cell a0.out 1).trans rfl;have b5p:=blk_frozen a0.out 0;have b5q:=blk_frozen a0.out 1)|((with_reducible refine gate_callee (f:=91) rfl ?_);refine goesL_ (some 12) rfl rfl Try.func91 zqk rfl #[.pointer (some ⟨g,0,none⟩),.int .i64 9] rfl zq5 ?_;(with_reducible refine(spec_l20Rd_pick.calls k g s0_0 s0_1 9 c3 c5 w0 _ ?side1 ?side2 A3.out).mono ?_);(case side1=> exact zq1);(case side2=> exact zq3);rintro e w10 ⟨rfl,hi,hb,hk⟩;refine⟨_,rfl,?_⟩;replace a4:=zqm (KeepBut.blk hk (g':=b1) (o:= .cells #[.slice none 0 0,.slice none 0 0] 26 (0,0)) zq40 c7.out (by simp));replace a0:=zqm (KeepBut.blk hk (g':=a8) (o:= .cells #[.slice none 0 0,.slice none 0 0] 26 (0,0)) zq110 c2.out (by simp));replace HK:=zqm (KeepBut.trans zq0 hk (.inl rfl));replace HB:=zqm (hb);replace a2:=zqm (hi);clear hb hk hi))
 (try simp only [Act.put,List.setIfInBounds_toArray,List.set_cons_zero,List.set_cons_succ])
 go_cut [] (fun wc=> ∃(kq:Nat) (i7:Int) (c4:List (List Int)) (h1:List Int) (b8:Value) (b9:Value),Aside0 (spec_l20Logic.j2 kq a1 s0_0 i7 c4 h1=some (r1,r2,r3))∧Aside0 (kq≤k)∧Aside0 (Kd.S (Kd.slice 3 (Kd.int .i64)) 24 wc w.heap.size (fun k_=>some k_≠(b9:Value).ownBlock) b8 c4)∧Aside0 (Kd.Q (Kd.int .i64) 3 wc w.heap.size (fun _=>True) b9 h1)∧Aside0 (wc.heap[b1]? =some (.cells #[(.slice none 0 0),(.slice none 0 0)] 26 (0,0)))∧Aside0 (wc.heap[a8]? =some (.cells #[b8,b9] 26 (0,0)))∧Aside0 (IsS110 w0 wc g s0_0 i7)∧Aside0 (KeepBut w wc g none)∧Aside0 (Below w0.heap.size w0 wc))
 case first=>
  have H:=HC4.out;clear HC4;have a0w:=zqm H;clear H
  go_upto_if 14 with (fail)
  go_cut [14] (fun v14 wc=> ∃(kq:Nat) (o0:Bool),v14= .bool o0∧Aside0 (spec_l20Logic.j0 kq a1 c3 o0 s0_0 c5=some (r1,r2,r3))∧Aside0 (kq≤k)∧Aside0 (wc.heap[b1]? =some (.cells #[(.slice none 0 0),(.slice none 0 0)] 26 (0,0)))∧Aside0 (wc.heap[a8]? =some (.cells #[(.slice none 0 0),(.slice none 0 0)] 26 (0,0)))∧Aside0 (IsS110 w0 wc g s0_0 c5)∧Aside0 (KeepBut w wc g none)∧Aside0 (Below w0.heap.size w0 wc))
  case first=>
   have H:=a0w.out;clear a0w
   by_cases r5:c3=0
   ·rw [if_pos r5] at H;have n5:(c3==0)=true:=beq_iff_eq.mpr r5;have a5u:(c3 !=0)=false:=bne_eq_false_iff_eq.mpr r5;clear r5;(first|rw [n5]|(simp only [i64_w,i32_w];rw [n5])|skip);have H':=zqm H;clear H
    go_wp2
    go_meet
    case rel=>exact⟨_,((c3==0)),zq6,H',⟨zq144⟩,⟨zqe a4.out⟩,⟨zqe a0.out⟩,⟨zq1⟩,⟨zq0⟩,⟨zq3⟩⟩
   ·rw [if_neg r5] at H;have n5:(c3==0)=false:=beq_eq_false_iff_ne.mpr r5;have a5u:(c3 !=0)=true:=bne_iff_ne.mpr r5;(first|rw [n5]|(simp only [i64_w,i32_w];rw [n5])|skip);have H':=zqm H;clear H
    go_wp2
    go_meet
    case rel=>exact⟨_,((c3==1)),zq6,H',⟨zq144⟩,⟨zqe a4.out⟩,⟨zqe a0.out⟩,⟨zq1⟩,⟨zq0⟩,⟨zq3⟩⟩
  case rest=>
   clear a0w;obtain⟨kq,o0,rfl,HA,i8,a4,a0,a2,HK,HB⟩:=hcut
   cases kq with
   |zero=>exact absurd HA.out (by simp [spec_l20Logic.j0])
   |succ h2=>
    have H:=HA.out;clear HA;simp only [spec_l20Logic.j0] at H
    by_cases c13:o0=true
    ·subst c13;(have H1:((spec_l20Rd_pick.f h2 s0_0 c5 4).bind fun a2z=>((spec_l20Boole.f h2 a2z.1).bind fun n0=>(spec_l20Logic.j2 h2 a1 s0_0 a2z.2 n0.1 n0.2)))=some (r1,r2,r3):=by rw [if_pos rfl] at H;exact H);clear H;have H:=H1;clear H1;replace H:=Option.bind_eq_some_iff.mp H;obtain⟨⟨z7,z8⟩,a3t,H⟩:=H;replace H:((spec_l20Boole.f h2 z7).bind fun n0=>(spec_l20Logic.j2 h2 a1 s0_0 z8 n0.1 n0.2))=some (r1,r2,r3):=H;have A14:=zqm a3t;clear a3t;replace H:=Option.bind_eq_some_iff.mp H;obtain⟨⟨m0,o7⟩,a3u,H⟩:=H;replace H:(spec_l20Logic.j2 h2 a1 s0_0 z8 m0 o7)=some (r1,r2,r3):=H;have A15:=zqm a3u;clear a3u;have H':=zqm H;clear H
     go_wp2_with (first|((with_reducible refine gate_callee (f:=91) rfl ?_);refine goesL_ (some 18) rfl rfl Try.func91 zqk rfl #[.pointer (some ⟨g,0,none⟩),.int .i64 4] rfl zq5 ?_;(with_reducible refine(spec_l20Rd_pick.calls h2 g s0_0 c5 4 z7 z8 w0 _ ?side1 ?side2 A14.out).mono ?_);(case side1=> exact zq1);(case side2=> exact zq3);rintro e w16 ⟨rfl,hi,hb,hk⟩;refine⟨_,rfl,?_⟩;replace a4:=zqm (KeepBut.blk hk (g':=b1) (o:= .cells #[.slice none 0 0,.slice none 0 0] 26 (0,0)) (zqe a4.out) c7.out (by simp));replace a0:=zqm (KeepBut.blk hk (g':=a8) (o:= .cells #[.slice none 0 0,.slice none 0 0] 26 (0,0)) (zqe a0.out) c2.out (by simp));replace HK:=zqm (KeepBut.trans zq0 hk (.inl rfl));replace HB:=zqm (hb);replace a2:=zqm (hi);clear hb hk hi)|((with_reducible refine gate_callee (f:=126) rfl ?_);refine goesL_ (some 19) rfl rfl Try.func126 zqk rfl #[.int .i64 z7] rfl zq5 ?_;(with_reducible refine(spec_l20Boole.calls h2 z7 m0 o7 _ A15.out).mono ?_);rintro e w17 ⟨b9d,b9e,rfl,c0,b6,hb⟩;refine⟨_,rfl,?_⟩;have a2h:=zqm (Kd.S_lower c0 (keep_size (w:=w) (g:=g) (row:=none) zq0));have a2i:=zqm (Kd.R_lower b6 (keep_size (w:=w) (g:=g) (row:=none) zq0));replace a4:=zqm (blk_below (g:=b1) (o:= .cells #[.slice none 0 0,.slice none 0 0] 26 (0,0)) (zqe a4.out) hb);replace a0:=zqm (blk_below (g:=a8) (o:= .cells #[.slice none 0 0,.slice none 0 0] 26 (0,0)) (zqe a0.out) hb);have d6:=zqm (IsS110.below zq1 hb);replace HK:=zqm (KeepBut.trans zq0 (KeepBut.of_below hb g none) (.inl rfl));replace HB:=zqm (below_step zq3 hb);clear a2;have a2:=d6;clear d6 hb c0 b6;obtain⟨u4,x8,a9h⟩:=Kd.S_slice a2h.out;subst a9h;have b8e:=c6.out;have b8o:=b3.out;have b8f:=c2.out;have b8p:=a6.out;have b3a:w17.cell? ⟨a8,0,none⟩=some (.slice none 0 0):=(blk_cell a0.out 0).trans rfl;have b3b:w17.cell? ⟨a8,1,none⟩=some (.slice none 0 0):=(blk_cell a0.out 1).trans rfl;have b3n:=blk_frozen a0.out 0;have b3o:=blk_frozen a0.out 1;obtain⟨a0r,a0y,a9i⟩:=Kd.R_slice a2i.out;subst a9i))
     go_meet
     case rel=>exact⟨_,(z8),(m0),(o7),(.slice u4 m0.length x8),(.slice a0r o7.length a0y),H',⟨zq194⟩,⟨by refine zqfS ?_;exact Kd.S_mono (Kd.S_far (p:=⟨a8,1,none⟩) (Kd.S_far (p:=⟨a8,0,none⟩) (Kd.S_types a2h.out a0.out (by decide)) (fun _ hk=>hk.2) (.slice u4 m0.length x8)) (fun _ hk=>hk.2) (.slice a0r o7.length a0y)) (fun _ hk=>hk.1)⟩,⟨Kd.Q_of_R (by refine zqfR ?_;exact Kd.R_mono (Kd.R_far (p:=⟨a8,1,none⟩) (Kd.R_far (p:=⟨a8,0,none⟩) (Kd.R_types a2i.out a0.out (by decide)) (fun _ hk=>hk.2) (.slice u4 m0.length x8)) (fun _ hk=>hk.2) (.slice a0r o7.length a0y)) (fun _ hk=>trivial))⟩,⟨zq40⟩,⟨by refine zqe ?_;refine blk_put (cs:= #[.slice u4 m0.length x8,.slice none 0 0]) ?_ 1 _ rfl;refine zqe ?_;refine blk_put (cs:= #[.slice none 0 0,.slice none 0 0]) ?_ 0 _ rfl;refine zqe ?_;exact a0.out⟩,⟨zq1⟩,⟨zq0⟩,⟨zq3⟩⟩
    ·replace c13:=Bool.eq_false_iff.mpr c13;subst c13;(have H1:(if c3=2 then(spec_l20Logic.j1 h2 a1 c3 (c3==2) s0_0 c5) else(spec_l20Logic.j1 h2 a1 c3 (c3==3) s0_0 c5))=some (r1,r2,r3):=by rw [if_neg (show¬(false=true) by decide)] at H;exact H);clear H;have H:=H1;clear H1;have a0x:=zqm H;clear H
     go_upto_if 20 with (fail)
     go_cut [20] (fun v20 wc=> ∃(kq:Nat) (o1:Bool),v20= .bool o1∧Aside0 (spec_l20Logic.j1 kq a1 c3 o1 s0_0 c5=some (r1,r2,r3))∧Aside0 (kq≤h2)∧Aside0 (wc.heap[b1]? =some (.cells #[(.slice none 0 0),(.slice none 0 0)] 26 (0,0)))∧Aside0 (wc.heap[a8]? =some (.cells #[(.slice none 0 0),(.slice none 0 0)] 26 (0,0)))∧Aside0 (IsS110 w0 wc g s0_0 c5)∧Aside0 (KeepBut w wc g none)∧Aside0 (Below w0.heap.size w0 wc))
     case first=>
      have H:=a0x.out;clear a0x
      by_cases r7:c3=2
      ·rw [if_pos r7] at H;have n6:(c3==2)=true:=beq_iff_eq.mpr r7;have a5v:(c3 !=2)=false:=bne_eq_false_iff_eq.mpr r7;clear r7;(first|rw [n6]|(simp only [i64_w,i32_w];rw [n6])|skip);have H':=zqm H;clear H
       go_wp2
       go_meet
       case rel=>exact⟨_,((c3==2)),zq6,H',⟨zq194⟩,⟨zqe a4.out⟩,⟨zqe a0.out⟩,⟨zq1⟩,⟨zq0⟩,⟨zq3⟩⟩
      ·rw [if_neg r7] at H;have n6:(c3==2)=false:=beq_eq_false_iff_ne.mpr r7;have a5v:(c3 !=2)=true:=bne_iff_ne.mpr r7;(first|rw [n6]|(simp only [i64_w,i32_w];rw [n6])|skip);have H':=zqm H;clear H
       go_wp2
       go_meet
       case rel=>exact⟨_,((c3==3)),zq6,H',⟨zq194⟩,⟨zqe a4.out⟩,⟨zqe a0.out⟩,⟨zq1⟩,⟨zq0⟩,⟨zq3⟩⟩
     case rest=>
      clear a0x;obtain⟨kq,o1,rfl,HA,o3,a4,a0,a2,HK,HB⟩:=hcut
      cases kq with
      |zero=>exact absurd HA.out (by simp [spec_l20Logic.j1])
      |succ b7=>
       have H:=HA.out;clear HA;simp only [spec_l20Logic.j1] at H
       by_cases c25:o1=true
       ·subst c25;(have H1:((spec_l20Boole.f b7 2).bind fun a3a=>((spec_l20Boole.f b7 2).bind fun n1=>((spec_l20Glued.f b7 a3a.1 a3a.2 n1.1 n1.2).bind fun i0=>(spec_l20Logic.j2 b7 a1 s0_0 c5 i0.1 i0.2))))=some (r1,r2,r3):=by rw [if_pos rfl] at H;exact H);clear H;have H:=H1;clear H1;replace H:=Option.bind_eq_some_iff.mp H;obtain⟨⟨s2,s3⟩,a3v,H⟩:=H;replace H:((spec_l20Boole.f b7 2).bind fun n1=>((spec_l20Glued.f b7 s2 s3 n1.1 n1.2).bind fun i0=>(spec_l20Logic.j2 b7 a1 s0_0 c5 i0.1 i0.2)))=some (r1,r2,r3):=H;have A26:=zqm a3v;clear a3v;replace H:=Option.bind_eq_some_iff.mp H;obtain⟨⟨z9,a0a⟩,a3w,H⟩:=H;replace H:((spec_l20Glued.f b7 s2 s3 z9 a0a).bind fun i0=>(spec_l20Logic.j2 b7 a1 s0_0 c5 i0.1 i0.2))=some (r1,r2,r3):=H;have A27:=zqm a3w;clear a3w;replace H:=Option.bind_eq_some_iff.mp H;obtain⟨⟨m1,o8⟩,a3x,H⟩:=H;replace H:(spec_l20Logic.j2 b7 a1 s0_0 c5 m1 o8)=some (r1,r2,r3):=H;have A28:=zqm a3x;clear a3x;have H':=zqm H;clear H
        go_wp2_with (first|((with_reducible refine gate_callee (f:=126) rfl ?_);refine goesL_ (some 23) rfl rfl Try.func126 zqk rfl #[.int .i64 2] rfl zq5 ?_;(with_reducible refine(spec_l20Boole.calls b7 2 s2 s3 _ A26.out).mono ?_);rintro e w29 ⟨b9f,b9g,rfl,c0,b6,hb⟩;refine⟨_,rfl,?_⟩;have g2:=zqm (Kd.S_lower c0 (keep_size (w:=w) (g:=g) (row:=none) zq0));have f5:=zqm (Kd.R_lower b6 (keep_size (w:=w) (g:=g) (row:=none) zq0));replace a4:=zqm (blk_below (g:=b1) (o:= .cells #[.slice none 0 0,.slice none 0 0] 26 (0,0)) (zqe a4.out) hb);replace a0:=zqm (blk_below (g:=a8) (o:= .cells #[.slice none 0 0,.slice none 0 0] 26 (0,0)) (zqe a0.out) hb);have d6:=zqm (IsS110.below zq1 hb);replace HK:=zqm (KeepBut.trans zq0 (KeepBut.of_below hb g none) (.inl rfl));replace HB:=zqm (below_step zq3 hb);clear a2;have a2:=d6;clear d6 hb c0 b6)|((with_reducible refine gate_callee (f:=126) rfl ?_);refine goesL_ (some 24) rfl rfl Try.func126 zqk rfl #[.int .i64 2] rfl zq5 ?_;(with_reducible refine(spec_l20Boole.calls b7 2 z9 a0a _ A27.out).mono ?_);rintro e w30 ⟨b9h,b9i,rfl,c0,b6,hb⟩;refine⟨_,rfl,?_⟩;have c8:=zqm (Kd.S_mono (Kd.S_told (Kd.S_told (Kd.S_old (zqfS g2.out) hb) (Kd.S_base c0)) (Kd.R_base b6)) (fun _ h_=>h_.1));have d0:=zqm (Kd.R_elder' (zqfR f5.out) (Kd.R_base b6) hb);have i9:=zqm (Kd.S_lower (Kd.S_new' (Kd.S_new' c0 (Kd.S_lt (zqfS g2.out))) (Kd.R_lt (zqfR f5.out))) (keep_size (w:=w) (g:=g) (row:=none) zq0));have h6:=zqm (Kd.R_lower (Kd.R_new' b6 (Kd.R_lt (zqfR f5.out))) (keep_size (w:=w) (g:=g) (row:=none) zq0));replace a4:=zqm (blk_below (g:=b1) (o:= .cells #[.slice none 0 0,.slice none 0 0] 26 (0,0)) (zqe a4.out) hb);replace a0:=zqm (blk_below (g:=a8) (o:= .cells #[.slice none 0 0,.slice none 0 0] 26 (0,0)) (zqe a0.out) hb);have g8:=zqm (IsS110.below zq1 hb);replace HK:=zqm (KeepBut.trans zq0 (KeepBut.of_below hb g none) (.inl rfl));replace HB:=zqm (below_step zq3 hb);clear g2 f5 a2;have g2:=c8;have f5:=d0;have a2:=g8;clear c8 d0 g8 hb c0 b6;obtain⟨a7r,a8l,a9j⟩:=Kd.S_slice g2.out;subst a9j;obtain⟨a7s,a8m,a9k⟩:=Kd.R_slice f5.out;subst a9k;obtain⟨a7t,a8n,a9l⟩:=Kd.S_slice i9.out;subst a9l;obtain⟨a7u,a8o,a9m⟩:=Kd.R_slice h6.out;subst a9m)|((with_reducible refine gate_callee (f:=127) rfl ?_);refine goesL_ (some 25) rfl rfl Try.func127 zqk rfl #[.agg #[.slice a7r s2.length a8l,.slice a7s s3.length a8m],.agg #[.slice a7t z9.length a8n,.slice a7u a0a.length a8o]] rfl zq5 ?_;(with_reducible refine(spec_l20Glued.calls b7 _ _ s2 _ _ s3 _ _ z9 _ _ a0a m1 o8 _ ?side1 ?side2 ?side3 ?side4 ?side5 ?side6 ?side7 ?side8 A28.out).mono ?_);(case side1=>repeat(first|exact(Kd.S_reads' g2.out).2.2|(with_reducible refine Kd.C_alloc ?_ _)|(with_reducible refine Kd.C_drewN ?_ _)|(with_reducible refine Kd.C_drew ?_)));(case side2=>exact(Kd.S_reads' g2.out).2.1);(case side3=>repeat(first|exact(Kd.R_reads' f5.out).2.2|(with_reducible refine Kd.C_alloc ?_ _)|(with_reducible refine Kd.C_drewN ?_ _)|(with_reducible refine Kd.C_drew ?_)));(case side4=>exact(Kd.R_reads' f5.out).2.1);(case side5=>repeat(first|exact(Kd.S_reads' i9.out).2.2|(with_reducible refine Kd.C_alloc ?_ _)|(with_reducible refine Kd.C_drewN ?_ _)|(with_reducible refine Kd.C_drew ?_)));(case side6=>exact(Kd.S_reads' i9.out).2.1);(case side7=>repeat(first|exact(Kd.R_reads' h6.out).2.2|(with_reducible refine Kd.C_alloc ?_ _)|(with_reducible refine Kd.C_drewN ?_ _)|(with_reducible refine Kd.C_drew ?_)));(case side8=>exact(Kd.R_reads' h6.out).2.1);rintro e w35 ⟨b9j,b9k,rfl,c0,b6,hb⟩;refine⟨_,rfl,?_⟩;have c8:=zqm (Kd.S_mono (Kd.S_told (Kd.S_told (Kd.S_old (zqfS g2.out) hb) (Kd.S_base c0)) (Kd.R_base b6)) (fun _ h_=>h_.1));have d0:=zqm (Kd.R_elder' (zqfR f5.out) (Kd.R_base b6) hb);have e6:=zqm (Kd.S_mono (Kd.S_told (Kd.S_told (Kd.S_old (zqfS i9.out) hb) (Kd.S_base c0)) (Kd.R_base b6)) (fun _ h_=>h_.1));have f9:=zqm (Kd.R_elder' (zqfR h6.out) (Kd.R_base b6) hb);have a2j:=zqm (Kd.S_lower (Kd.S_new' (Kd.S_new' (Kd.S_new' (Kd.S_new' c0 (Kd.S_lt (zqfS g2.out))) (Kd.R_lt (zqfR f5.out))) (Kd.S_lt (zqfS i9.out))) (Kd.R_lt (zqfR h6.out))) (keep_size (w:=w) (g:=g) (row:=none) zq0));have a2k:=zqm (Kd.R_lower (Kd.R_new' (Kd.R_new' b6 (Kd.R_lt (zqfR f5.out))) (Kd.R_lt (zqfR h6.out))) (keep_size (w:=w) (g:=g) (row:=none) zq0));replace a4:=zqm (blk_below (g:=b1) (o:= .cells #[.slice none 0 0,.slice none 0 0] 26 (0,0)) (zqe a4.out) hb);replace a0:=zqm (blk_below (g:=a8) (o:= .cells #[.slice none 0 0,.slice none 0 0] 26 (0,0)) (zqe a0.out) hb);have l2:=zqm (IsS110.below zq1 hb);replace HK:=zqm (KeepBut.trans zq0 (KeepBut.of_below hb g none) (.inl rfl));replace HB:=zqm (below_step zq3 hb);clear g2 f5 i9 h6 a2;have g2:=c8;have f5:=d0;have i9:=e6;have h6:=f9;have a2:=l2;clear c8 d0 e6 f9 l2 hb c0 b6;obtain⟨u9,y1,a9n⟩:=Kd.S_slice a2j.out;subst a9n;have b8g:=c6.out;have b8q:=b3.out;have b8h:=c2.out;have b8r:=a6.out;have b3c:w35.cell? ⟨a8,0,none⟩=some (.slice none 0 0):=(blk_cell a0.out 0).trans rfl;have b3d:w35.cell? ⟨a8,1,none⟩=some (.slice none 0 0):=(blk_cell a0.out 1).trans rfl;have b3p:=blk_frozen a0.out 0;have b3q:=blk_frozen a0.out 1;obtain⟨a0s,a0z,a9o⟩:=Kd.R_slice a2k.out;subst a9o))
        go_meet
        case rel=>exact⟨_,(c5),(m1),(o8),(.slice u9 m1.length y1),(.slice a0s o8.length a0z),H',⟨zq117⟩,⟨by refine zqfS ?_;exact Kd.S_mono (Kd.S_far (p:=⟨a8,1,none⟩) (Kd.S_far (p:=⟨a8,0,none⟩) (Kd.S_types a2j.out a0.out (by decide)) (fun _ hk=>hk.2) (.slice u9 m1.length y1)) (fun _ hk=>hk.2) (.slice a0s o8.length a0z)) (fun _ hk=>hk.1.1.1.1.1)⟩,⟨Kd.Q_of_R (by refine zqfR ?_;exact Kd.R_mono (Kd.R_far (p:=⟨a8,1,none⟩) (Kd.R_far (p:=⟨a8,0,none⟩) (Kd.R_types a2k.out a0.out (by decide)) (fun _ hk=>hk.2) (.slice u9 m1.length y1)) (fun _ hk=>hk.2) (.slice a0s o8.length a0z)) (fun _ hk=>trivial))⟩,⟨zq40⟩,⟨by refine zqe ?_;refine blk_put (cs:= #[.slice u9 m1.length y1,.slice none 0 0]) ?_ 1 _ rfl;refine zqe ?_;refine blk_put (cs:= #[.slice none 0 0,.slice none 0 0]) ?_ 0 _ rfl;refine zqe ?_;exact a0.out⟩,⟨zq1⟩,⟨zq0⟩,⟨zq3⟩⟩
       ·replace c25:=Bool.eq_false_iff.mpr c25;subst c25;(have H1:(if c3=4 then((spec_l20Boole.f b7 2).bind fun a3b=>((spec_l20Boole.f b7 3).bind fun n2=>((spec_l20Glued.f b7 a3b.1 a3b.2 n2.1 n2.2).bind fun i1=>(spec_l20Logic.j2 b7 a1 s0_0 c5 i1.1 i1.2)))) else(if c3=5 then((spec_l20Boole.f b7 2).bind fun a3c=>((spec_l20Boole.f b7 2).bind fun n3=>((spec_l20Glued.f b7 a3c.1 a3c.2 n3.1 n3.2).bind fun i2=>((spec_l20Boole.f b7 2).bind fun g6=>((spec_l20Glued.f b7 i2.1 i2.2 g6.1 g6.2).bind fun f3=>(spec_l20Logic.j2 b7 a1 s0_0 c5 f3.1 f3.2)))))) else(if c3=6 then((spec_l20Six.f).bind fun a3d=>(spec_l20Logic.j2 b7 a1 s0_0 c5 a3d.1 a3d.2)) else(if c3=7 then((spec_l20Six.f).bind fun a3e=>((spec_l20Boole.f b7 2).bind fun n4=>((spec_l20Glued.f b7 a3e.1 a3e.2 n4.1 n4.2).bind fun i3=>(spec_l20Logic.j2 b7 a1 s0_0 c5 i3.1 i3.2)))) else((spec_l20Pasted.f b7).bind fun a3f=>(spec_l20Logic.j2 b7 a1 s0_0 c5 a3f.1 a3f.2))))))=some (r1,r2,r3):=by rw [if_neg (show¬(false=true) by decide)] at H;exact H);clear H;have H:=H1;clear H1
        by_cases r8:c3=4
        ·rw [if_pos r8] at H;have a5w:(c3==4)=true:=beq_iff_eq.mpr r8;have a5x:(c3 !=4)=false:=bne_eq_false_iff_eq.mpr r8;clear r8;replace H:=Option.bind_eq_some_iff.mp H;obtain⟨⟨s4,s5⟩,a3y,H⟩:=H;replace H:((spec_l20Boole.f b7 3).bind fun n2=>((spec_l20Glued.f b7 s4 s5 n2.1 n2.2).bind fun i1=>(spec_l20Logic.j2 b7 a1 s0_0 c5 i1.1 i1.2)))=some (r1,r2,r3):=H;have A42:=zqm a3y;clear a3y;replace H:=Option.bind_eq_some_iff.mp H;obtain⟨⟨a0b,a0c⟩,a3z,H⟩:=H;replace H:((spec_l20Glued.f b7 s4 s5 a0b a0c).bind fun i1=>(spec_l20Logic.j2 b7 a1 s0_0 c5 i1.1 i1.2))=some (r1,r2,r3):=H;have A43:=zqm a3z;clear a3z;replace H:=Option.bind_eq_some_iff.mp H;obtain⟨⟨m2,o9⟩,a4a,H⟩:=H;replace H:(spec_l20Logic.j2 b7 a1 s0_0 c5 m2 o9)=some (r1,r2,r3):=H;have A44:=zqm a4a;clear a4a;have H':=zqm H;clear H
         go_wp2_with (first|((with_reducible refine gate_callee (f:=126) rfl ?_);refine goesL_ (some 28) rfl rfl Try.func126 zqk rfl #[.int .i64 2] rfl zq5 ?_;(with_reducible refine(spec_l20Boole.calls b7 2 s4 s5 _ A42.out).mono ?_);rintro e w45 ⟨b9l,b9m,rfl,c0,b6,hb⟩;refine⟨_,rfl,?_⟩;have g3:=zqm (Kd.S_lower c0 (keep_size (w:=w) (g:=g) (row:=none) zq0));have f6:=zqm (Kd.R_lower b6 (keep_size (w:=w) (g:=g) (row:=none) zq0));replace a4:=zqm (blk_below (g:=b1) (o:= .cells #[.slice none 0 0,.slice none 0 0] 26 (0,0)) (zqe a4.out) hb);replace a0:=zqm (blk_below (g:=a8) (o:= .cells #[.slice none 0 0,.slice none 0 0] 26 (0,0)) (zqe a0.out) hb);have d6:=zqm (IsS110.below zq1 hb);replace HK:=zqm (KeepBut.trans zq0 (KeepBut.of_below hb g none) (.inl rfl));replace HB:=zqm (below_step zq3 hb);clear a2;have a2:=d6;clear d6 hb c0 b6)|((with_reducible refine gate_callee (f:=126) rfl ?_);refine goesL_ (some 29) rfl rfl Try.func126 zqk rfl #[.int .i64 3] rfl zq5 ?_;(with_reducible refine(spec_l20Boole.calls b7 3 a0b a0c _ A43.out).mono ?_);rintro e w46 ⟨b9n,b9o,rfl,c0,b6,hb⟩;refine⟨_,rfl,?_⟩;have c8:=zqm (Kd.S_mono (Kd.S_told (Kd.S_told (Kd.S_old (zqfS g3.out) hb) (Kd.S_base c0)) (Kd.R_base b6)) (fun _ h_=>h_.1));have d0:=zqm (Kd.R_elder' (zqfR f6.out) (Kd.R_base b6) hb);have j3:=zqm (Kd.S_lower (Kd.S_new' (Kd.S_new' c0 (Kd.S_lt (zqfS g3.out))) (Kd.R_lt (zqfR f6.out))) (keep_size (w:=w) (g:=g) (row:=none) zq0));have h7:=zqm (Kd.R_lower (Kd.R_new' b6 (Kd.R_lt (zqfR f6.out))) (keep_size (w:=w) (g:=g) (row:=none) zq0));replace a4:=zqm (blk_below (g:=b1) (o:= .cells #[.slice none 0 0,.slice none 0 0] 26 (0,0)) (zqe a4.out) hb);replace a0:=zqm (blk_below (g:=a8) (o:= .cells #[.slice none 0 0,.slice none 0 0] 26 (0,0)) (zqe a0.out) hb);have g8:=zqm (IsS110.below zq1 hb);replace HK:=zqm (KeepBut.trans zq0 (KeepBut.of_below hb g none) (.inl rfl));replace HB:=zqm (below_step zq3 hb);clear g3 f6 a2;have g3:=c8;have f6:=d0;have a2:=g8;clear c8 d0 g8 hb c0 b6;obtain⟨a7v,a8p,a9p⟩:=Kd.S_slice g3.out;subst a9p;obtain⟨a7w,a8q,a9q⟩:=Kd.R_slice f6.out;subst a9q;obtain⟨a7x,a8r,a9r⟩:=Kd.S_slice j3.out;subst a9r;obtain⟨a7y,a8s,a9s⟩:=Kd.R_slice h7.out;subst a9s)|((with_reducible refine gate_callee (f:=127) rfl ?_);refine goesL_ (some 30) rfl rfl Try.func127 zqk rfl #[.agg #[.slice a7v s4.length a8p,.slice a7w s5.length a8q],.agg #[.slice a7x a0b.length a8r,.slice a7y a0c.length a8s]] rfl zq5 ?_;(with_reducible refine(spec_l20Glued.calls b7 _ _ s4 _ _ s5 _ _ a0b _ _ a0c m2 o9 _ ?side1 ?side2 ?side3 ?side4 ?side5 ?side6 ?side7 ?side8 A44.out).mono ?_);(case side1=>repeat(first|exact(Kd.S_reads' g3.out).2.2|(with_reducible refine Kd.C_alloc ?_ _)|(with_reducible refine Kd.C_drewN ?_ _)|(with_reducible refine Kd.C_drew ?_)));(case side2=>exact(Kd.S_reads' g3.out).2.1);(case side3=>repeat(first|exact(Kd.R_reads' f6.out).2.2|(with_reducible refine Kd.C_alloc ?_ _)|(with_reducible refine Kd.C_drewN ?_ _)|(with_reducible refine Kd.C_drew ?_)));(case side4=>exact(Kd.R_reads' f6.out).2.1);(case side5=>repeat(first|exact(Kd.S_reads' j3.out).2.2|(with_reducible refine Kd.C_alloc ?_ _)|(with_reducible refine Kd.C_drewN ?_ _)|(with_reducible refine Kd.C_drew ?_)));(case side6=>exact(Kd.S_reads' j3.out).2.1);(case side7=>repeat(first|exact(Kd.R_reads' h7.out).2.2|(with_reducible refine Kd.C_alloc ?_ _)|(with_reducible refine Kd.C_drewN ?_ _)|(with_reducible refine Kd.C_drew ?_)));(case side8=>exact(Kd.R_reads' h7.out).2.1);rintro e w51 ⟨b9p,b9q,rfl,c0,b6,hb⟩;refine⟨_,rfl,?_⟩;have c8:=zqm (Kd.S_mono (Kd.S_told (Kd.S_told (Kd.S_old (zqfS g3.out) hb) (Kd.S_base c0)) (Kd.R_base b6)) (fun _ h_=>h_.1));have d0:=zqm (Kd.R_elder' (zqfR f6.out) (Kd.R_base b6) hb);have e6:=zqm (Kd.S_mono (Kd.S_told (Kd.S_told (Kd.S_old (zqfS j3.out) hb) (Kd.S_base c0)) (Kd.R_base b6)) (fun _ h_=>h_.1));have f9:=zqm (Kd.R_elder' (zqfR h7.out) (Kd.R_base b6) hb);have a2l:=zqm (Kd.S_lower (Kd.S_new' (Kd.S_new' (Kd.S_new' (Kd.S_new' c0 (Kd.S_lt (zqfS g3.out))) (Kd.R_lt (zqfR f6.out))) (Kd.S_lt (zqfS j3.out))) (Kd.R_lt (zqfR h7.out))) (keep_size (w:=w) (g:=g) (row:=none) zq0));have a2m:=zqm (Kd.R_lower (Kd.R_new' (Kd.R_new' b6 (Kd.R_lt (zqfR f6.out))) (Kd.R_lt (zqfR h7.out))) (keep_size (w:=w) (g:=g) (row:=none) zq0));replace a4:=zqm (blk_below (g:=b1) (o:= .cells #[.slice none 0 0,.slice none 0 0] 26 (0,0)) (zqe a4.out) hb);replace a0:=zqm (blk_below (g:=a8) (o:= .cells #[.slice none 0 0,.slice none 0 0] 26 (0,0)) (zqe a0.out) hb);have l2:=zqm (IsS110.below zq1 hb);replace HK:=zqm (KeepBut.trans zq0 (KeepBut.of_below hb g none) (.inl rfl));replace HB:=zqm (below_step zq3 hb);clear g3 f6 j3 h7 a2;have g3:=c8;have f6:=d0;have j3:=e6;have h7:=f9;have a2:=l2;clear c8 d0 e6 f9 l2 hb c0 b6;obtain⟨v0,y2,a9t⟩:=Kd.S_slice a2l.out;subst a9t;have b8i:=c6.out;have b8s:=b3.out;have b8j:=c2.out;have b8t:=a6.out;have b3e:w51.cell? ⟨a8,0,none⟩=some (.slice none 0 0):=(blk_cell a0.out 0).trans rfl;have b3f:w51.cell? ⟨a8,1,none⟩=some (.slice none 0 0):=(blk_cell a0.out 1).trans rfl;have b3r:=blk_frozen a0.out 0;have b3s:=blk_frozen a0.out 1;obtain⟨a0t,a1a,a9u⟩:=Kd.R_slice a2m.out;subst a9u))
         go_meet
         case rel=>exact⟨_,(c5),(m2),(o9),(.slice v0 m2.length y2),(.slice a0t o9.length a1a),H',⟨zq117⟩,⟨by refine zqfS ?_;exact Kd.S_mono (Kd.S_far (p:=⟨a8,1,none⟩) (Kd.S_far (p:=⟨a8,0,none⟩) (Kd.S_types a2l.out a0.out (by decide)) (fun _ hk=>hk.2) (.slice v0 m2.length y2)) (fun _ hk=>hk.2) (.slice a0t o9.length a1a)) (fun _ hk=>hk.1.1.1.1.1)⟩,⟨Kd.Q_of_R (by refine zqfR ?_;exact Kd.R_mono (Kd.R_far (p:=⟨a8,1,none⟩) (Kd.R_far (p:=⟨a8,0,none⟩) (Kd.R_types a2m.out a0.out (by decide)) (fun _ hk=>hk.2) (.slice v0 m2.length y2)) (fun _ hk=>hk.2) (.slice a0t o9.length a1a)) (fun _ hk=>trivial))⟩,⟨zq40⟩,⟨by refine zqe ?_;refine blk_put (cs:= #[.slice v0 m2.length y2,.slice none 0 0]) ?_ 1 _ rfl;refine zqe ?_;refine blk_put (cs:= #[.slice none 0 0,.slice none 0 0]) ?_ 0 _ rfl;refine zqe ?_;exact a0.out⟩,⟨zq1⟩,⟨zq0⟩,⟨zq3⟩⟩
        ·rw [if_neg r8] at H;have a5w:(c3==4)=false:=beq_eq_false_iff_ne.mpr r8;have a5x:(c3 !=4)=true:=bne_iff_ne.mpr r8
         by_cases r9:c3=5
         ·rw [if_pos r9] at H;have a5y:(c3==5)=true:=beq_iff_eq.mpr r9;have a5z:(c3 !=5)=false:=bne_eq_false_iff_eq.mpr r9;clear r9;replace H:=Option.bind_eq_some_iff.mp H;obtain⟨⟨s6,s7⟩,a4b,H⟩:=H;replace H:((spec_l20Boole.f b7 2).bind fun n3=>((spec_l20Glued.f b7 s6 s7 n3.1 n3.2).bind fun i2=>((spec_l20Boole.f b7 2).bind fun g6=>((spec_l20Glued.f b7 i2.1 i2.2 g6.1 g6.2).bind fun f3=>(spec_l20Logic.j2 b7 a1 s0_0 c5 f3.1 f3.2)))))=some (r1,r2,r3):=H;have A58:=zqm a4b;clear a4b;replace H:=Option.bind_eq_some_iff.mp H;obtain⟨⟨a0d,a0e⟩,a4c,H⟩:=H;replace H:((spec_l20Glued.f b7 s6 s7 a0d a0e).bind fun i2=>((spec_l20Boole.f b7 2).bind fun g6=>((spec_l20Glued.f b7 i2.1 i2.2 g6.1 g6.2).bind fun f3=>(spec_l20Logic.j2 b7 a1 s0_0 c5 f3.1 f3.2))))=some (r1,r2,r3):=H;have A59:=zqm a4c;clear a4c;replace H:=Option.bind_eq_some_iff.mp H;obtain⟨⟨s8,s9⟩,a4d,H⟩:=H;replace H:((spec_l20Boole.f b7 2).bind fun g6=>((spec_l20Glued.f b7 s8 s9 g6.1 g6.2).bind fun f3=>(spec_l20Logic.j2 b7 a1 s0_0 c5 f3.1 f3.2)))=some (r1,r2,r3):=H;have A60:=zqm a4d;clear a4d;replace H:=Option.bind_eq_some_iff.mp H;obtain⟨⟨a0f,a0g⟩,a4e,H⟩:=H;replace H:((spec_l20Glued.f b7 s8 s9 a0f a0g).bind fun f3=>(spec_l20Logic.j2 b7 a1 s0_0 c5 f3.1 f3.2))=some (r1,r2,r3):=H;have A61:=zqm a4e;clear a4e;replace H:=Option.bind_eq_some_iff.mp H;obtain⟨⟨m3,p0⟩,a4f,H⟩:=H;replace H:(spec_l20Logic.j2 b7 a1 s0_0 c5 m3 p0)=some (r1,r2,r3):=H;have A62:=zqm a4f;clear a4f;have H':=zqm H;clear H
          go_wp2_with (first|((with_reducible refine gate_callee (f:=126) rfl ?_);refine goesL_ (some 33) rfl rfl Try.func126 zqk rfl #[.int .i64 2] rfl zq5 ?_;(with_reducible refine(spec_l20Boole.calls b7 2 s6 s7 _ A58.out).mono ?_);rintro e w63 ⟨b9r,b9s,rfl,c0,b6,hb⟩;refine⟨_,rfl,?_⟩;have d7:=zqm (Kd.S_lower c0 (keep_size (w:=w) (g:=g) (row:=none) zq0));have d2:=zqm (Kd.R_lower b6 (keep_size (w:=w) (g:=g) (row:=none) zq0));replace a4:=zqm (blk_below (g:=b1) (o:= .cells #[.slice none 0 0,.slice none 0 0] 26 (0,0)) (zqe a4.out) hb);replace a0:=zqm (blk_below (g:=a8) (o:= .cells #[.slice none 0 0,.slice none 0 0] 26 (0,0)) (zqe a0.out) hb);have d6:=zqm (IsS110.below zq1 hb);replace HK:=zqm (KeepBut.trans zq0 (KeepBut.of_below hb g none) (.inl rfl));replace HB:=zqm (below_step zq3 hb);clear a2;have a2:=d6;clear d6 hb c0 b6)|((with_reducible refine gate_callee (f:=126) rfl ?_);refine goesL_ (some 34) rfl rfl Try.func126 zqk rfl #[.int .i64 2] rfl zq5 ?_;(with_reducible refine(spec_l20Boole.calls b7 2 a0d a0e _ A59.out).mono ?_);rintro e w64 ⟨b9t,b9u,rfl,c0,b6,hb⟩;refine⟨_,rfl,?_⟩;have c8:=zqm (Kd.S_mono (Kd.S_told (Kd.S_told (Kd.S_old (zqfS d7.out) hb) (Kd.S_base c0)) (Kd.R_base b6)) (fun _ h_=>h_.1));have d0:=zqm (Kd.R_elder' (zqfR d2.out) (Kd.R_base b6) hb);have e9:=zqm (Kd.S_lower (Kd.S_new' (Kd.S_new' c0 (Kd.S_lt (zqfS d7.out))) (Kd.R_lt (zqfR d2.out))) (keep_size (w:=w) (g:=g) (row:=none) zq0));have d8:=zqm (Kd.R_lower (Kd.R_new' b6 (Kd.R_lt (zqfR d2.out))) (keep_size (w:=w) (g:=g) (row:=none) zq0));replace a4:=zqm (blk_below (g:=b1) (o:= .cells #[.slice none 0 0,.slice none 0 0] 26 (0,0)) (zqe a4.out) hb);replace a0:=zqm (blk_below (g:=a8) (o:= .cells #[.slice none 0 0,.slice none 0 0] 26 (0,0)) (zqe a0.out) hb);have g8:=zqm (IsS110.below zq1 hb);replace HK:=zqm (KeepBut.trans zq0 (KeepBut.of_below hb g none) (.inl rfl));replace HB:=zqm (below_step zq3 hb);clear d7 d2 a2;have d7:=c8;have d2:=d0;have a2:=g8;clear c8 d0 g8 hb c0 b6;obtain⟨a7z,a8t,a9v⟩:=Kd.S_slice d7.out;subst a9v;obtain⟨a8a,a8u,a9w⟩:=Kd.R_slice d2.out;subst a9w;obtain⟨a8b,a8v,a9x⟩:=Kd.S_slice e9.out;subst a9x;obtain⟨a8c,a8w,a9y⟩:=Kd.R_slice d8.out;subst a9y)|((with_reducible refine gate_callee (f:=127) rfl ?_);refine goesL_ (some 35) rfl rfl Try.func127 zqk rfl #[.agg #[.slice a7z s6.length a8t,.slice a8a s7.length a8u],.agg #[.slice a8b a0d.length a8v,.slice a8c a0e.length a8w]] rfl zq5 ?_;(with_reducible refine(spec_l20Glued.calls b7 _ _ s6 _ _ s7 _ _ a0d _ _ a0e s8 s9 _ ?side1 ?side2 ?side3 ?side4 ?side5 ?side6 ?side7 ?side8 A60.out).mono ?_);(case side1=>repeat(first|exact(Kd.S_reads' d7.out).2.2|(with_reducible refine Kd.C_alloc ?_ _)|(with_reducible refine Kd.C_drewN ?_ _)|(with_reducible refine Kd.C_drew ?_)));(case side2=>exact(Kd.S_reads' d7.out).2.1);(case side3=>repeat(first|exact(Kd.R_reads' d2.out).2.2|(with_reducible refine Kd.C_alloc ?_ _)|(with_reducible refine Kd.C_drewN ?_ _)|(with_reducible refine Kd.C_drew ?_)));(case side4=>exact(Kd.R_reads' d2.out).2.1);(case side5=>repeat(first|exact(Kd.S_reads' e9.out).2.2|(with_reducible refine Kd.C_alloc ?_ _)|(with_reducible refine Kd.C_drewN ?_ _)|(with_reducible refine Kd.C_drew ?_)));(case side6=>exact(Kd.S_reads' e9.out).2.1);(case side7=>repeat(first|exact(Kd.R_reads' d8.out).2.2|(with_reducible refine Kd.C_alloc ?_ _)|(with_reducible refine Kd.C_drewN ?_ _)|(with_reducible refine Kd.C_drew ?_)));(case side8=>exact(Kd.R_reads' d8.out).2.1);rintro e w69 ⟨b9v,b9w,rfl,c0,b6,hb⟩;refine⟨_,rfl,?_⟩;have c8:=zqm (Kd.S_mono (Kd.S_told (Kd.S_told (Kd.S_old (zqfS d7.out) hb) (Kd.S_base c0)) (Kd.R_base b6)) (fun _ h_=>h_.1));have d0:=zqm (Kd.R_elder' (zqfR d2.out) (Kd.R_base b6) hb);have e6:=zqm (Kd.S_mono (Kd.S_told (Kd.S_told (Kd.S_old (zqfS e9.out) hb) (Kd.S_base c0)) (Kd.R_base b6)) (fun _ h_=>h_.1));have f9:=zqm (Kd.R_elder' (zqfR d8.out) (Kd.R_base b6) hb);have g4:=zqm (Kd.S_lower (Kd.S_new' (Kd.S_new' (Kd.S_new' (Kd.S_new' c0 (Kd.S_lt (zqfS d7.out))) (Kd.R_lt (zqfR d2.out))) (Kd.S_lt (zqfS e9.out))) (Kd.R_lt (zqfR d8.out))) (keep_size (w:=w) (g:=g) (row:=none) zq0));have f7:=zqm (Kd.R_lower (Kd.R_new' (Kd.R_new' b6 (Kd.R_lt (zqfR d2.out))) (Kd.R_lt (zqfR d8.out))) (keep_size (w:=w) (g:=g) (row:=none) zq0));replace a4:=zqm (blk_below (g:=b1) (o:= .cells #[.slice none 0 0,.slice none 0 0] 26 (0,0)) (zqe a4.out) hb);replace a0:=zqm (blk_below (g:=a8) (o:= .cells #[.slice none 0 0,.slice none 0 0] 26 (0,0)) (zqe a0.out) hb);have l2:=zqm (IsS110.below zq1 hb);replace HK:=zqm (KeepBut.trans zq0 (KeepBut.of_below hb g none) (.inl rfl));replace HB:=zqm (below_step zq3 hb);clear d7 d2 e9 d8 a2;have d7:=c8;have d2:=d0;have e9:=e6;have d8:=f9;have a2:=l2;clear c8 d0 e6 f9 l2 hb c0 b6)|((with_reducible refine gate_callee (f:=126) rfl ?_);refine goesL_ (some 36) rfl rfl Try.func126 zqk rfl #[.int .i64 2] rfl zq5 ?_;(with_reducible refine(spec_l20Boole.calls b7 2 a0f a0g _ A61.out).mono ?_);rintro e w70 ⟨b9x,b9y,rfl,c0,b6,hb⟩;refine⟨_,rfl,?_⟩;have c8:=zqm (Kd.S_mono (Kd.S_told (Kd.S_told (Kd.S_old (zqfS d7.out) hb) (Kd.S_base c0)) (Kd.R_base b6)) (fun _ h_=>h_.1));have d0:=zqm (Kd.R_elder' (zqfR d2.out) (Kd.R_base b6) hb);have e6:=zqm (Kd.S_mono (Kd.S_told (Kd.S_told (Kd.S_old (zqfS e9.out) hb) (Kd.S_base c0)) (Kd.R_base b6)) (fun _ h_=>h_.1));have f9:=zqm (Kd.R_elder' (zqfR d8.out) (Kd.R_base b6) hb);have d6:=zqm (Kd.S_mono (Kd.S_told (Kd.S_told (Kd.S_old (zqfS g4.out) hb) (Kd.S_base c0)) (Kd.R_base b6)) (fun _ h_=>h_.1));have k6:=zqm (Kd.R_elder' (zqfR f7.out) (Kd.R_base b6) hb);have j4:=zqm (Kd.S_lower (Kd.S_new' (Kd.S_new' (Kd.S_new' (Kd.S_new' (Kd.S_new' (Kd.S_new' c0 (Kd.S_lt (zqfS d7.out))) (Kd.R_lt (zqfR d2.out))) (Kd.S_lt (zqfS e9.out))) (Kd.R_lt (zqfR d8.out))) (Kd.S_lt (zqfS g4.out))) (Kd.R_lt (zqfR f7.out))) (keep_size (w:=w) (g:=g) (row:=none) zq0));have h8:=zqm (Kd.R_lower (Kd.R_new' (Kd.R_new' (Kd.R_new' b6 (Kd.R_lt (zqfR d2.out))) (Kd.R_lt (zqfR d8.out))) (Kd.R_lt (zqfR f7.out))) (keep_size (w:=w) (g:=g) (row:=none) zq0));replace a4:=zqm (blk_below (g:=b1) (o:= .cells #[.slice none 0 0,.slice none 0 0] 26 (0,0)) (zqe a4.out) hb);replace a0:=zqm (blk_below (g:=a8) (o:= .cells #[.slice none 0 0,.slice none 0 0] 26 (0,0)) (zqe a0.out) hb);have a4y:=zqm (IsS110.below zq1 hb);replace HK:=zqm (KeepBut.trans zq0 (KeepBut.of_below hb g none) (.inl rfl));replace HB:=zqm (below_step zq3 hb);clear d7 d2 e9 d8 g4 f7 a2;have d7:=c8;have d2:=d0;have e9:=e6;have d8:=f9;have g4:=d6;have f7:=k6;have a2:=a4y;clear c8 d0 e6 f9 d6 k6 a4y hb c0 b6;obtain⟨a8d,a8x,a9z⟩:=Kd.S_slice g4.out;subst a9z;obtain⟨a8e,a8y,b0a⟩:=Kd.R_slice f7.out;subst b0a;obtain⟨a8f,a8z,b0b⟩:=Kd.S_slice j4.out;subst b0b;obtain⟨a8g,a9a,b0c⟩:=Kd.R_slice h8.out;subst b0c)|((with_reducible refine gate_callee (f:=127) rfl ?_);refine goesL_ (some 37) rfl rfl Try.func127 zqk rfl #[.agg #[.slice a8d s8.length a8x,.slice a8e s9.length a8y],.agg #[.slice a8f a0f.length a8z,.slice a8g a0g.length a9a]] rfl zq5 ?_;(with_reducible refine(spec_l20Glued.calls b7 _ _ s8 _ _ s9 _ _ a0f _ _ a0g m3 p0 _ ?side1 ?side2 ?side3 ?side4 ?side5 ?side6 ?side7 ?side8 A62.out).mono ?_);(case side1=>repeat(first|exact(Kd.S_reads' g4.out).2.2|(with_reducible refine Kd.C_alloc ?_ _)|(with_reducible refine Kd.C_drewN ?_ _)|(with_reducible refine Kd.C_drew ?_)));(case side2=>exact(Kd.S_reads' g4.out).2.1);(case side3=>repeat(first|exact(Kd.R_reads' f7.out).2.2|(with_reducible refine Kd.C_alloc ?_ _)|(with_reducible refine Kd.C_drewN ?_ _)|(with_reducible refine Kd.C_drew ?_)));(case side4=>exact(Kd.R_reads' f7.out).2.1);(case side5=>repeat(first|exact(Kd.S_reads' j4.out).2.2|(with_reducible refine Kd.C_alloc ?_ _)|(with_reducible refine Kd.C_drewN ?_ _)|(with_reducible refine Kd.C_drew ?_)));(case side6=>exact(Kd.S_reads' j4.out).2.1);(case side7=>repeat(first|exact(Kd.R_reads' h8.out).2.2|(with_reducible refine Kd.C_alloc ?_ _)|(with_reducible refine Kd.C_drewN ?_ _)|(with_reducible refine Kd.C_drew ?_)));(case side8=>exact(Kd.R_reads' h8.out).2.1);rintro e w75 ⟨b9z,c0a,rfl,c0,b6,hb⟩;refine⟨_,rfl,?_⟩;have c8:=zqm (Kd.S_mono (Kd.S_told (Kd.S_told (Kd.S_old (zqfS d7.out) hb) (Kd.S_base c0)) (Kd.R_base b6)) (fun _ h_=>h_.1));have d0:=zqm (Kd.R_elder' (zqfR d2.out) (Kd.R_base b6) hb);have e6:=zqm (Kd.S_mono (Kd.S_told (Kd.S_told (Kd.S_old (zqfS e9.out) hb) (Kd.S_base c0)) (Kd.R_base b6)) (fun _ h_=>h_.1));have f9:=zqm (Kd.R_elder' (zqfR d8.out) (Kd.R_base b6) hb);have d6:=zqm (Kd.S_mono (Kd.S_told (Kd.S_told (Kd.S_old (zqfS g4.out) hb) (Kd.S_base c0)) (Kd.R_base b6)) (fun _ h_=>h_.1));have k6:=zqm (Kd.R_elder' (zqfR f7.out) (Kd.R_base b6) hb);have g8:=zqm (Kd.S_mono (Kd.S_told (Kd.S_told (Kd.S_old (zqfS j4.out) hb) (Kd.S_base c0)) (Kd.R_base b6)) (fun _ h_=>h_.1));have n7_:=zqm (Kd.R_elder' (zqfR h8.out) (Kd.R_base b6) hb);have a2n:=zqm (Kd.S_lower (Kd.S_new' (Kd.S_new' (Kd.S_new' (Kd.S_new' (Kd.S_new' (Kd.S_new' (Kd.S_new' (Kd.S_new' c0 (Kd.S_lt (zqfS d7.out))) (Kd.R_lt (zqfR d2.out))) (Kd.S_lt (zqfS e9.out))) (Kd.R_lt (zqfR d8.out))) (Kd.S_lt (zqfS g4.out))) (Kd.R_lt (zqfR f7.out))) (Kd.S_lt (zqfS j4.out))) (Kd.R_lt (zqfR h8.out))) (keep_size (w:=w) (g:=g) (row:=none) zq0));have a2o:=zqm (Kd.R_lower (Kd.R_new' (Kd.R_new' (Kd.R_new' (Kd.R_new' b6 (Kd.R_lt (zqfR d2.out))) (Kd.R_lt (zqfR d8.out))) (Kd.R_lt (zqfR f7.out))) (Kd.R_lt (zqfR h8.out))) (keep_size (w:=w) (g:=g) (row:=none) zq0));replace a4:=zqm (blk_below (g:=b1) (o:= .cells #[.slice none 0 0,.slice none 0 0] 26 (0,0)) (zqe a4.out) hb);replace a0:=zqm (blk_below (g:=a8) (o:= .cells #[.slice none 0 0,.slice none 0 0] 26 (0,0)) (zqe a0.out) hb);have a4z:=zqm (IsS110.below zq1 hb);replace HK:=zqm (KeepBut.trans zq0 (KeepBut.of_below hb g none) (.inl rfl));replace HB:=zqm (below_step zq3 hb);clear d7 d2 e9 d8 g4 f7 j4 h8 a2;have d7:=c8;have d2:=d0;have e9:=e6;have d8:=f9;have g4:=d6;have f7:=k6;have j4:=g8;have h8:=n7_;have a2:=a4z;clear c8 d0 e6 f9 d6 k6 g8 n7_ a4z hb c0 b6;obtain⟨v2,y3,b0d⟩:=Kd.S_slice a2n.out;subst b0d;have b8k:=c6.out;have b8u:=b3.out;have b8l:=c2.out;have b8v:=a6.out;have b3g:w75.cell? ⟨a8,0,none⟩=some (.slice none 0 0):=(blk_cell a0.out 0).trans rfl;have b3h:w75.cell? ⟨a8,1,none⟩=some (.slice none 0 0):=(blk_cell a0.out 1).trans rfl;have b3t:=blk_frozen a0.out 0;have b3u:=blk_frozen a0.out 1;obtain⟨a0u,a1b,b0e⟩:=Kd.R_slice a2o.out;subst b0e))
          go_meet
          case rel=>exact⟨_,(c5),(m3),(p0),(.slice v2 m3.length y3),(.slice a0u p0.length a1b),H',⟨zq117⟩,⟨by refine zqfS ?_;exact Kd.S_mono (Kd.S_far (p:=⟨a8,1,none⟩) (Kd.S_far (p:=⟨a8,0,none⟩) (Kd.S_types a2n.out a0.out (by decide)) (fun _ hk=>hk.2) (.slice v2 m3.length y3)) (fun _ hk=>hk.2) (.slice a0u p0.length a1b)) (fun _ hk=>hk.1.1.1.1.1.1.1.1.1)⟩,⟨Kd.Q_of_R (by refine zqfR ?_;exact Kd.R_mono (Kd.R_far (p:=⟨a8,1,none⟩) (Kd.R_far (p:=⟨a8,0,none⟩) (Kd.R_types a2o.out a0.out (by decide)) (fun _ hk=>hk.2) (.slice v2 m3.length y3)) (fun _ hk=>hk.2) (.slice a0u p0.length a1b)) (fun _ hk=>trivial))⟩,⟨zq40⟩,⟨by refine zqe ?_;refine blk_put (cs:= #[.slice v2 m3.length y3,.slice none 0 0]) ?_ 1 _ rfl;refine zqe ?_;refine blk_put (cs:= #[.slice none 0 0,.slice none 0 0]) ?_ 0 _ rfl;refine zqe ?_;exact a0.out⟩,⟨zq1⟩,⟨zq0⟩,⟨zq3⟩⟩
         ·rw [if_neg r9] at H;have a5y:(c3==5)=false:=beq_eq_false_iff_ne.mpr r9;have a5z:(c3 !=5)=true:=bne_iff_ne.mpr r9
          by_cases s0:c3=6
          ·rw [if_pos s0] at H;have a6a:(c3==6)=true:=beq_iff_eq.mpr s0;have a6b:(c3 !=6)=false:=bne_eq_false_iff_eq.mpr s0;clear s0;replace H:=Option.bind_eq_some_iff.mp H;obtain⟨⟨m4,p1⟩,a4g,H⟩:=H;replace H:(spec_l20Logic.j2 b7 a1 s0_0 c5 m4 p1)=some (r1,r2,r3):=H;have A82:=zqm a4g;clear a4g;have H':=zqm H;clear H
           go_wp2_with (first|((with_reducible refine gate_callee (f:=128) rfl ?_);refine goesL_ (some 40) rfl rfl Try.func128 zqk rfl #[] rfl zq5 ?_;(with_reducible refine(spec_l20Six.calls m4 p1 _ A82.out).mono ?_);rintro e w83 ⟨c0b,c0c,rfl,c0,b6,hb⟩;refine⟨_,rfl,?_⟩;have a2p:=zqm (Kd.S_lower c0 (keep_size (w:=w) (g:=g) (row:=none) zq0));have a2q:=zqm (Kd.R_lower b6 (keep_size (w:=w) (g:=g) (row:=none) zq0));replace a4:=zqm (blk_below (g:=b1) (o:= .cells #[.slice none 0 0,.slice none 0 0] 26 (0,0)) (zqe a4.out) hb);replace a0:=zqm (blk_below (g:=a8) (o:= .cells #[.slice none 0 0,.slice none 0 0] 26 (0,0)) (zqe a0.out) hb);have d6:=zqm (IsS110.below zq1 hb);replace HK:=zqm (KeepBut.trans zq0 (KeepBut.of_below hb g none) (.inl rfl));replace HB:=zqm (below_step zq3 hb);clear a2;have a2:=d6;clear d6 hb c0 b6;obtain⟨v3,y4,b0f⟩:=Kd.S_slice a2p.out;subst b0f;have b8m:=c6.out;have b8w:=b3.out;have b8n:=c2.out;have b8x:=a6.out;have b3i:w83.cell? ⟨a8,0,none⟩=some (.slice none 0 0):=(blk_cell a0.out 0).trans rfl;have b3j:w83.cell? ⟨a8,1,none⟩=some (.slice none 0 0):=(blk_cell a0.out 1).trans rfl;have b3v:=blk_frozen a0.out 0;have b3w:=blk_frozen a0.out 1;obtain⟨a0v,a1c,b0g⟩:=Kd.R_slice a2q.out;subst b0g))
           go_meet
           case rel=>exact⟨_,(c5),(m4),(p1),(.slice v3 m4.length y4),(.slice a0v p1.length a1c),H',⟨zq117⟩,⟨by refine zqfS ?_;exact Kd.S_mono (Kd.S_far (p:=⟨a8,1,none⟩) (Kd.S_far (p:=⟨a8,0,none⟩) (Kd.S_types a2p.out a0.out (by decide)) (fun _ hk=>hk.2) (.slice v3 m4.length y4)) (fun _ hk=>hk.2) (.slice a0v p1.length a1c)) (fun _ hk=>hk.1)⟩,⟨Kd.Q_of_R (by refine zqfR ?_;exact Kd.R_mono (Kd.R_far (p:=⟨a8,1,none⟩) (Kd.R_far (p:=⟨a8,0,none⟩) (Kd.R_types a2q.out a0.out (by decide)) (fun _ hk=>hk.2) (.slice v3 m4.length y4)) (fun _ hk=>hk.2) (.slice a0v p1.length a1c)) (fun _ hk=>trivial))⟩,⟨zq40⟩,⟨by refine zqe ?_;refine blk_put (cs:= #[.slice v3 m4.length y4,.slice none 0 0]) ?_ 1 _ rfl;refine zqe ?_;refine blk_put (cs:= #[.slice none 0 0,.slice none 0 0]) ?_ 0 _ rfl;refine zqe ?_;exact a0.out⟩,⟨zq1⟩,⟨zq0⟩,⟨zq3⟩⟩
          ·rw [if_neg s0] at H;have a6a:(c3==6)=false:=beq_eq_false_iff_ne.mpr s0;have a6b:(c3 !=6)=true:=bne_iff_ne.mpr s0
           by_cases s1:c3=7
           ·rw [if_pos s1] at H;have a6c:(c3==7)=true:=beq_iff_eq.mpr s1;have a6d:(c3 !=7)=false:=bne_eq_false_iff_eq.mpr s1;clear s1;replace H:=Option.bind_eq_some_iff.mp H;obtain⟨⟨t0,t1⟩,a4h,H⟩:=H;replace H:((spec_l20Boole.f b7 2).bind fun n4=>((spec_l20Glued.f b7 t0 t1 n4.1 n4.2).bind fun i3=>(spec_l20Logic.j2 b7 a1 s0_0 c5 i3.1 i3.2)))=some (r1,r2,r3):=H;have A90:=zqm a4h;clear a4h;replace H:=Option.bind_eq_some_iff.mp H;obtain⟨⟨a0h,a0i⟩,a4i,H⟩:=H;replace H:((spec_l20Glued.f b7 t0 t1 a0h a0i).bind fun i3=>(spec_l20Logic.j2 b7 a1 s0_0 c5 i3.1 i3.2))=some (r1,r2,r3):=H;have A91:=zqm a4i;clear a4i;replace H:=Option.bind_eq_some_iff.mp H;obtain⟨⟨m5,p2⟩,a4j,H⟩:=H;replace H:(spec_l20Logic.j2 b7 a1 s0_0 c5 m5 p2)=some (r1,r2,r3):=H;have A92:=zqm a4j;clear a4j;have H':=zqm H;clear H
            go_wp2_with (first|((with_reducible refine gate_callee (f:=128) rfl ?_);refine goesL_ (some 43) rfl rfl Try.func128 zqk rfl #[] rfl zq5 ?_;(with_reducible refine(spec_l20Six.calls t0 t1 _ A90.out).mono ?_);rintro e w93 ⟨c0d,c0e,rfl,c0,b6,hb⟩;refine⟨_,rfl,?_⟩;have g5:=zqm (Kd.S_lower c0 (keep_size (w:=w) (g:=g) (row:=none) zq0));have f8:=zqm (Kd.R_lower b6 (keep_size (w:=w) (g:=g) (row:=none) zq0));replace a4:=zqm (blk_below (g:=b1) (o:= .cells #[.slice none 0 0,.slice none 0 0] 26 (0,0)) (zqe a4.out) hb);replace a0:=zqm (blk_below (g:=a8) (o:= .cells #[.slice none 0 0,.slice none 0 0] 26 (0,0)) (zqe a0.out) hb);have d6:=zqm (IsS110.below zq1 hb);replace HK:=zqm (KeepBut.trans zq0 (KeepBut.of_below hb g none) (.inl rfl));replace HB:=zqm (below_step zq3 hb);clear a2;have a2:=d6;clear d6 hb c0 b6)|((with_reducible refine gate_callee (f:=126) rfl ?_);refine goesL_ (some 44) rfl rfl Try.func126 zqk rfl #[.int .i64 2] rfl zq5 ?_;(with_reducible refine(spec_l20Boole.calls b7 2 a0h a0i _ A91.out).mono ?_);rintro e w94 ⟨c0f,c0g,rfl,c0,b6,hb⟩;refine⟨_,rfl,?_⟩;have c8:=zqm (Kd.S_mono (Kd.S_told (Kd.S_told (Kd.S_old (zqfS g5.out) hb) (Kd.S_base c0)) (Kd.R_base b6)) (fun _ h_=>h_.1));have d0:=zqm (Kd.R_elder' (zqfR f8.out) (Kd.R_base b6) hb);have j6:=zqm (Kd.S_lower (Kd.S_new' (Kd.S_new' c0 (Kd.S_lt (zqfS g5.out))) (Kd.R_lt (zqfR f8.out))) (keep_size (w:=w) (g:=g) (row:=none) zq0));have h9:=zqm (Kd.R_lower (Kd.R_new' b6 (Kd.R_lt (zqfR f8.out))) (keep_size (w:=w) (g:=g) (row:=none) zq0));replace a4:=zqm (blk_below (g:=b1) (o:= .cells #[.slice none 0 0,.slice none 0 0] 26 (0,0)) (zqe a4.out) hb);replace a0:=zqm (blk_below (g:=a8) (o:= .cells #[.slice none 0 0,.slice none 0 0] 26 (0,0)) (zqe a0.out) hb);have g8:=zqm (IsS110.below zq1 hb);replace HK:=zqm (KeepBut.trans zq0 (KeepBut.of_below hb g none) (.inl rfl));replace HB:=zqm (below_step zq3 hb);clear g5 f8 a2;have g5:=c8;have f8:=d0;have a2:=g8;clear c8 d0 g8 hb c0 b6;obtain⟨a8h,a9b,b0h⟩:=Kd.S_slice g5.out;subst b0h;obtain⟨a8i,a9c,b0i⟩:=Kd.R_slice f8.out;subst b0i;obtain⟨a8j,a9d,b0j⟩:=Kd.S_slice j6.out;subst b0j;obtain⟨a8k,a9e,b0k⟩:=Kd.R_slice h9.out;subst b0k)|((with_reducible refine gate_callee (f:=127) rfl ?_);refine goesL_ (some 45) rfl rfl Try.func127 zqk rfl #[.agg #[.slice a8h t0.length a9b,.slice a8i t1.length a9c],.agg #[.slice a8j a0h.length a9d,.slice a8k a0i.length a9e]] rfl zq5 ?_;(with_reducible refine(spec_l20Glued.calls b7 _ _ t0 _ _ t1 _ _ a0h _ _ a0i m5 p2 _ ?side1 ?side2 ?side3 ?side4 ?side5 ?side6 ?side7 ?side8 A92.out).mono ?_);(case side1=>repeat(first|exact(Kd.S_reads' g5.out).2.2|(with_reducible refine Kd.C_alloc ?_ _)|(with_reducible refine Kd.C_drewN ?_ _)|(with_reducible refine Kd.C_drew ?_)));(case side2=>exact(Kd.S_reads' g5.out).2.1);(case side3=>repeat(first|exact(Kd.R_reads' f8.out).2.2|(with_reducible refine Kd.C_alloc ?_ _)|(with_reducible refine Kd.C_drewN ?_ _)|(with_reducible refine Kd.C_drew ?_)));(case side4=>exact(Kd.R_reads' f8.out).2.1);(case side5=>repeat(first|exact(Kd.S_reads' j6.out).2.2|(with_reducible refine Kd.C_alloc ?_ _)|(with_reducible refine Kd.C_drewN ?_ _)|(with_reducible refine Kd.C_drew ?_)));(case side6=>exact(Kd.S_reads' j6.out).2.1);(case side7=>repeat(first|exact(Kd.R_reads' h9.out).2.2|(with_reducible refine Kd.C_alloc ?_ _)|(with_reducible refine Kd.C_drewN ?_ _)|(with_reducible refine Kd.C_drew ?_)));(case side8=>exact(Kd.R_reads' h9.out).2.1);rintro e w99 ⟨c0h,c0i,rfl,c0,b6,hb⟩;refine⟨_,rfl,?_⟩;have c8:=zqm (Kd.S_mono (Kd.S_told (Kd.S_told (Kd.S_old (zqfS g5.out) hb) (Kd.S_base c0)) (Kd.R_base b6)) (fun _ h_=>h_.1));have d0:=zqm (Kd.R_elder' (zqfR f8.out) (Kd.R_base b6) hb);have e6:=zqm (Kd.S_mono (Kd.S_told (Kd.S_told (Kd.S_old (zqfS j6.out) hb) (Kd.S_base c0)) (Kd.R_base b6)) (fun _ h_=>h_.1));have f9:=zqm (Kd.R_elder' (zqfR h9.out) (Kd.R_base b6) hb);have a2r:=zqm (Kd.S_lower (Kd.S_new' (Kd.S_new' (Kd.S_new' (Kd.S_new' c0 (Kd.S_lt (zqfS g5.out))) (Kd.R_lt (zqfR f8.out))) (Kd.S_lt (zqfS j6.out))) (Kd.R_lt (zqfR h9.out))) (keep_size (w:=w) (g:=g) (row:=none) zq0));have a2s:=zqm (Kd.R_lower (Kd.R_new' (Kd.R_new' b6 (Kd.R_lt (zqfR f8.out))) (Kd.R_lt (zqfR h9.out))) (keep_size (w:=w) (g:=g) (row:=none) zq0));replace a4:=zqm (blk_below (g:=b1) (o:= .cells #[.slice none 0 0,.slice none 0 0] 26 (0,0)) (zqe a4.out) hb);replace a0:=zqm (blk_below (g:=a8) (o:= .cells #[.slice none 0 0,.slice none 0 0] 26 (0,0)) (zqe a0.out) hb);have l2:=zqm (IsS110.below zq1 hb);replace HK:=zqm (KeepBut.trans zq0 (KeepBut.of_below hb g none) (.inl rfl));replace HB:=zqm (below_step zq3 hb);clear g5 f8 j6 h9 a2;have g5:=c8;have f8:=d0;have j6:=e6;have h9:=f9;have a2:=l2;clear c8 d0 e6 f9 l2 hb c0 b6;obtain⟨p5,q2,a6f⟩:=Kd.S_slice a2r.out;subst a6f;have b5r:=c6.out;have b6p:=b3.out;have b5s:=c2.out;have b6q:=a6.out;have b0l:w99.cell? ⟨a8,0,none⟩=some (.slice none 0 0):=(blk_cell a0.out 0).trans rfl;have b0m:w99.cell? ⟨a8,1,none⟩=some (.slice none 0 0):=(blk_cell a0.out 1).trans rfl;have b1r:=blk_frozen a0.out 0;have b1s:=blk_frozen a0.out 1;obtain⟨u1,x5,a6g⟩:=Kd.R_slice a2s.out;subst a6g))
            go_meet
            case rel=>exact⟨_,(c5),(m5),(p2),(.slice p5 m5.length q2),(.slice u1 p2.length x5),H',⟨zq117⟩,⟨by refine zqfS ?_;exact Kd.S_mono (Kd.S_far (p:=⟨a8,1,none⟩) (Kd.S_far (p:=⟨a8,0,none⟩) (Kd.S_types a2r.out a0.out (by decide)) (fun _ hk=>hk.2) (.slice p5 m5.length q2)) (fun _ hk=>hk.2) (.slice u1 p2.length x5)) (fun _ hk=>hk.1.1.1.1.1)⟩,⟨Kd.Q_of_R (by refine zqfR ?_;exact Kd.R_mono (Kd.R_far (p:=⟨a8,1,none⟩) (Kd.R_far (p:=⟨a8,0,none⟩) (Kd.R_types a2s.out a0.out (by decide)) (fun _ hk=>hk.2) (.slice p5 m5.length q2)) (fun _ hk=>hk.2) (.slice u1 p2.length x5)) (fun _ hk=>trivial))⟩,⟨zq40⟩,⟨by refine zqe ?_;refine blk_put (cs:= #[.slice p5 m5.length q2,.slice none 0 0]) ?_ 1 _ rfl;refine zqe ?_;refine blk_put (cs:= #[.slice none 0 0,.slice none 0 0]) ?_ 0 _ rfl;refine zqe ?_;exact a0.out⟩,⟨zq1⟩,⟨zq0⟩,⟨zq3⟩⟩
           ·rw [if_neg s1] at H;have a6c:(c3==7)=false:=beq_eq_false_iff_ne.mpr s1;have a6d:(c3 !=7)=true:=bne_iff_ne.mpr s1;replace H:=Option.bind_eq_some_iff.mp H;obtain⟨⟨m6,p3⟩,a1u,H⟩:=H;replace H:(spec_l20Logic.j2 b7 a1 s0_0 c5 m6 p3)=some (r1,r2,r3):=H;have a7l:=zqm a1u;clear a1u;have H':=zqm H;clear H
            go_wp2_with (first|((with_reducible refine gate_callee (f:=129) rfl ?_);refine goesL_ (some 13) rfl rfl Try.func129 zqk rfl #[] rfl zq5 ?_;(with_reducible refine(spec_l20Pasted.calls b7 m6 p3 _ a7l.out).mono ?_);rintro e a5b ⟨c0j,c0k,rfl,c0,b6,hb⟩;refine⟨_,rfl,?_⟩;have a2t:=zqm (Kd.S_lower c0 (keep_size (w:=w) (g:=g) (row:=none) zq0));have a2u:=zqm (Kd.R_lower b6 (keep_size (w:=w) (g:=g) (row:=none) zq0));replace a4:=zqm (blk_below (g:=b1) (o:= .cells #[.slice none 0 0,.slice none 0 0] 26 (0,0)) (zqe a4.out) hb);replace a0:=zqm (blk_below (g:=a8) (o:= .cells #[.slice none 0 0,.slice none 0 0] 26 (0,0)) (zqe a0.out) hb);have d6:=zqm (IsS110.below zq1 hb);replace HK:=zqm (KeepBut.trans zq0 (KeepBut.of_below hb g none) (.inl rfl));replace HB:=zqm (below_step zq3 hb);clear a2;have a2:=d6;clear d6 hb c0 b6;obtain⟨p6,q3,a6h⟩:=Kd.S_slice a2t.out;subst a6h;have b5t:=c6.out;have b6r:=b3.out;have b5u:=c2.out;have b6s:=a6.out;have b0n:a5b.cell? ⟨a8,0,none⟩=some (.slice none 0 0):=(blk_cell a0.out 0).trans rfl;have b0o:a5b.cell? ⟨a8,1,none⟩=some (.slice none 0 0):=(blk_cell a0.out 1).trans rfl;have b1t:=blk_frozen a0.out 0;have b1u:=blk_frozen a0.out 1;obtain⟨u2,x6,a6i⟩:=Kd.R_slice a2u.out;subst a6i))
            go_meet
            case rel=>exact⟨_,(c5),(m6),(p3),(.slice p6 m6.length q3),(.slice u2 p3.length x6),H',⟨zq117⟩,⟨by refine zqfS ?_;exact Kd.S_mono (Kd.S_far (p:=⟨a8,1,none⟩) (Kd.S_far (p:=⟨a8,0,none⟩) (Kd.S_types a2t.out a0.out (by decide)) (fun _ hk=>hk.2) (.slice p6 m6.length q3)) (fun _ hk=>hk.2) (.slice u2 p3.length x6)) (fun _ hk=>hk.1)⟩,⟨Kd.Q_of_R (by refine zqfR ?_;exact Kd.R_mono (Kd.R_far (p:=⟨a8,1,none⟩) (Kd.R_far (p:=⟨a8,0,none⟩) (Kd.R_types a2u.out a0.out (by decide)) (fun _ hk=>hk.2) (.slice p6 m6.length q3)) (fun _ hk=>hk.2) (.slice u2 p3.length x6)) (fun _ hk=>trivial))⟩,⟨zq40⟩,⟨by refine zqe ?_;refine blk_put (cs:= #[.slice p6 m6.length q3,.slice none 0 0]) ?_ 1 _ rfl;refine zqe ?_;refine blk_put (cs:= #[.slice none 0 0,.slice none 0 0]) ?_ 0 _ rfl;refine zqe ?_;exact a0.out⟩,⟨zq1⟩,⟨zq0⟩,⟨zq3⟩⟩
 case rest=>
  clear HC4;obtain⟨kq,i7,c4,h1,b8,b9,HA,t4,HO_241000,HO_241001,a4,a0,a2,HK,HB⟩:=hcut
  cases kq with
  |zero=>exact absurd HA.out (by simp [spec_l20Logic.j2])
  |succ kj3=>
   have H:=HA.out;clear HA;simp only [spec_l20Logic.j2] at H;obtain⟨a5f,y7⟩: ∃y_:List Int,y_=(([]:List Int)):=⟨_,rfl⟩;replace H:(spec_l20Logic.l0 kj3 a1 a5f 0 s0_0 i7 c4 h1)=some (r1,r2,r3):=zqy y7 H;have a2x:=zqm y7;clear y7;have H':=zqm H;clear H
   go_wp2_with (first|((with_reducible refine gate_dst (N:=46) rfl ?_);refine Kd.R_lit (Kd.int .i64) _ 3 ?hg (N:=46) ?hd (xs:=([]:List Int)) (inner:= []) (ok:=fun _=>True) (okp:=fun _=>True) ?hr ?hp (fun _ hk=>hk) trivial (Below.refl _ _) (Nat.le_refl _) (by simp) ?_;(case hd=>rfl);(case hg=>rfl);(case hr=> exact zq9);(case hp=>exact(Reps.none _ _));intro c0l c0o k4 hb hg_ hnew_;clear hg_ hnew_;(first|rw [← a2x.out] at k4|(simp only [Int.reduceToNat] at k4;rw [← a2x.out] at k4));replace HO_241000:=zqm (Kd.S_elder' (zqfS HO_241000.out) (Kd.R_base k4) hb);have d0:=zqm (Kd.Q_elder' (zqfQ HO_241001.out) (Kd.R_base k4) hb);have a5l:=zqm (Kd.R_lower (Kd.R_new' k4 (Kd.Q_lt (zqfQ HO_241001.out))) (keep_size (w:=w) (g:=g) (row:=none) zq0));replace a4:=zqm (blk_below (g:=b1) (o:= .cells #[.slice none 0 0,.slice none 0 0] 26 (0,0)) (zqe a4.out) hb);replace a0:=zqm (blk_below (g:=a8) (o:= .cells #[b8,b9] 26 (0,0)) (zqe a0.out) hb);have k6:=zqm (IsS110.below zq1 hb);replace HK:=zqm (KeepBut.trans zq0 (KeepBut.of_below hb g none) (.inl rfl));replace HB:=zqm (below_step zq3 hb);clear HO_241001 a2;have HO_241001:=d0;have a2:=k6;clear d0 k6 hb k4))
   go_loopg [6,7] kj3 (fun kq v6 v7 w'=> ∃(h3:List Int) (d5:Int) (e7:Int) (b2:List Int) (b9:Value),v7= .int .i64 d5∧Aside0 (spec_l20Logic.l0 kq a1 h3 d5 s0_0 e7 c4 b2=some (r1,r2,r3))∧Aside0 (kq≤kj3)∧Aside0 (Kd.R (Kd.int .i64) 3 w' w.heap.size (fun k_=>some k_≠(b9:Value).ownBlock) v6 h3)∧Aside0 (Kd.S (Kd.slice 3 (Kd.int .i64)) 24 w' w.heap.size (fun k_=>some k_≠(v6:Value).ownBlock∧some k_≠(b9:Value).ownBlock) b8 c4)∧Aside0 (Kd.Q (Kd.int .i64) 3 w' w.heap.size (fun k_=>some k_≠(v6:Value).ownBlock) b9 b2)∧Aside0 (w'.heap[b1]? =some (.cells #[(.slice none 0 0),(.slice none 0 0)] 26 (0,0)))∧Aside0 (w'.heap[a8]? =some (.cells #[b8,b9] 26 (0,0)))∧Aside0 (IsS110 w0 w' g s0_0 e7)∧Aside0 (KeepBut w w' g none)∧Aside0 (Below w0.heap.size w0 w'))
   case atStart=>exact⟨(a5f),(0),(i7),(h1),(b9),zq6,H',⟨Nat.le_refl _⟩,⟨by refine zqfR ?_;exact Kd.R_mono a5l.out (fun _ hk=>hk.2)⟩,⟨zq85⟩,⟨zq147⟩,⟨zqe a4.out⟩,⟨zqe a0.out⟩,⟨zq1⟩,⟨zq0⟩,⟨zq3⟩⟩
   case round=>
    clear H';obtain⟨h3,d5,e7,b2,b9,rfl,HA,t5,HO_6,HO_241000,HO_241001,a4,a0,a2,HK,HB⟩:=hrel
    cases gk with
    |zero=>exact absurd HA.out (by simp [spec_l20Logic.l0])
    |succ k2=>
     have H:=HA.out;clear HA;simp only [spec_l20Logic.l0] at H
     by_cases o4:d5<(b2.length:Int)
     ·rw [if_pos o4] at H;have a4l:decide (d5<(b2.length:Int))=true:=decide_eq_true o4;clear o4;replace H:=Option.bind_eq_some_iff.mp H;obtain⟨⟨f2,k5⟩,a1v,H⟩:=H;replace H:(if h3.length<17592186044416 then(spec_l20Logic.l1 k2 a1 (h3 ++ [d5]) d5 f2 d5 s0_0 k5 c4 b2) else(none))=some (r1,r2,r3):=H;have a7m:=zqm a1v;clear a1v
      by_cases v5:h3.length<17592186044416
      ·rw [if_pos v5] at H;have LMc116:=zqm v5;clear v5;obtain⟨a5g,y8⟩: ∃y_:List Int,y_=(h3 ++ [d5]):=⟨_,rfl⟩;replace H:(spec_l20Logic.l1 k2 a1 a5g d5 f2 d5 s0_0 k5 c4 b2)=some (r1,r2,r3):=zqy y8 H;have a5o:=zqm y8;clear y8;have H':=zqm H;clear H;have b5v:=c6.out;have b6t:=b3.out;have b5w:=c2.out;have b6u:=a6.out;have b0p:wr.cell? ⟨a8,0,none⟩=some (b8):=(blk_cell a0.out 0).trans rfl;have b0q:wr.cell? ⟨a8,1,none⟩=some (b9):=(blk_cell a0.out 1).trans rfl;have b1v:=blk_frozen a0.out 0;have b1w:=blk_frozen a0.out 1;obtain⟨e8,f1,a6j,_⟩:=Kd.Q_slice HO_241001.out;subst a6j
       go_wp2_with (first|((with_reducible refine gate_callee (f:=91) rfl ?_);refine goesL_ (some 57) rfl rfl Try.func91 zqk rfl #[.pointer (some ⟨g,0,none⟩),.int .i64 (wrap64 (d5+1))] rfl zq5 ?_;(with_reducible refine(spec_l20Rd_pick.calls k2 g s0_0 e7 (wrap64 (d5+1)) f2 k5 w0 _ ?side1 ?side2 a7m.out).mono ?_);(case side1=> exact zq1);(case side2=> exact zq3);rintro e c0p ⟨rfl,hi,hb,hk⟩;refine⟨_,rfl,?_⟩;replace HO_6:=zqm (Kd.R_mono (Kd.R_keep (IsS110.apart (show IsS110 w0 _ g s0_0 e7 from zq1) (zqfR HO_6.out) (by decide)) hk (fun _ h=>h.2)) (fun _ h=>h.1));replace HO_241000:=zqm (Kd.S_mono (Kd.S_keep (IsS110.apartS (show IsS110 w0 _ g s0_0 e7 from zq1) (zqfS HO_241000.out) (by decide)) hk (fun _ h=>h.2)) (fun _ h=>h.1));replace HO_241001:=zqm (Kd.Q_mono (Kd.Q_keep (IsS110.apartQ (show IsS110 w0 _ g s0_0 e7 from zq1) (zqfQ HO_241001.out) (by decide)) hk (fun _ h=>h.2)) (fun _ h=>h.1));replace a4:=zqm (KeepBut.blk hk (g':=b1) (o:= .cells #[.slice none 0 0,.slice none 0 0] 26 (0,0)) (zqe a4.out) c7.out (by simp));replace a0:=zqm (KeepBut.blk hk (g':=a8) (o:= .cells #[b8,.slice e8 b2.length f1] 26 (0,0)) (zqe a0.out) c2.out (by simp));replace HK:=zqm (KeepBut.trans zq0 hk (.inl rfl));replace HB:=zqm (hb);replace a2:=zqm (hi);clear hb hk hi)|((with_reducible refine gate_builtin (b:= .append) (xs:= #[.tmp 58,.tmp 60]) rfl ?_);at_builtin;refine Kd.R_append (Kd.int .i64) w.heap.size rfl (.tmp 58) (.tmp 60) 24 3 (.int .i64 0) 8 rfl Try.underlying24 info3 rfl (by decide) (by omega) u6 h3 d5 [.int .i64 d5] (fun k_=>some k_≠(.slice e8 b2.length f1:Value).ownBlock) (fun _=>False) rfl rfl ?aP (fun _ hk=>hk.elim) ?aF ?aO (Below.refl _ _) ?aS ?aL ?_;(case aP=>exact rfl);(case aF=>exact(fun k_ hk=>Kd.fresh' (Kd.Q_lt (zqfQ HO_241001.out)) k_ hk));(case aO=>exact(zqfR HO_6.out));(case aS=>exact(keep_size (w:=w) (g:=g) (row:=none) zq0));(case aL=>have:=LMc116.out;omega);intro a1o c0q ho hb hg hat;rw [← a5o.out] at ho;replace HO_241000:=zqm (Kd.S_after (ok:=(fun k_=>some k_≠(.slice e8 b2.length f1:Value).ownBlock)) zq85 hg hat);replace HO_241001:=zqm (Kd.Q_after (ok:=(fun _=>True)) zq155 hg hat);replace a4:=zqm (blk_grown (g:=b1) (o:= .cells #[.slice none 0 0,.slice none 0 0] 26 (0,0)) (zqe a4.out) hg (Kd.R_ne HO_6.out a4.out (by decide)));replace a0:=zqm (blk_grown (g:=a8) (o:= .cells #[b8,.slice e8 b2.length f1] 26 (0,0)) (zqe a0.out) hg (Kd.R_ne HO_6.out a0.out (by decide)));have d6:=zqm (IsS110.grown zq1 hg (IsS110.own_ne a2.out HO_6.out (by decide)));replace HB:=zqm (below_weaken zq3 HL.out hb);replace HK:=zqm (KeepBut.trans zq0 (KeepBut.of_grown hg g) (Kd.R_base2 HO_6.out));have a5m:=zqm (ho);clear a2 HO_6;have a2:=d6;clear d6 ho hb hg hat))
       go_loopg [9] k2 (fun kq v9 w'=> ∃(d1:List Int) (e4:Int),v9= .int .i64 e4∧Aside0 (spec_l20Logic.l1 kq a1 d1 d5 f2 e4 s0_0 k5 c4 b2=some (r1,r2,r3))∧Aside0 (kq≤k2)∧Aside0 (Kd.R (Kd.int .i64) 3 w' w.heap.size (fun k_=>some k_≠((.slice e8 b2.length f1):Value).ownBlock) a1o d1)∧Aside0 (Kd.S (Kd.slice 3 (Kd.int .i64)) 24 w' w.heap.size (fun k_=>some k_≠(a1o:Value).ownBlock∧some k_≠((.slice e8 b2.length f1):Value).ownBlock) b8 c4)∧Aside0 (Kd.Q (Kd.int .i64) 3 w' w.heap.size (fun k_=>some k_≠(a1o:Value).ownBlock) (.slice e8 b2.length f1) b2)∧Aside0 (w'.heap[b1]? =some (.cells #[(.slice none 0 0),(.slice none 0 0)] 26 (0,0)))∧Aside0 (w'.heap[a8]? =some (.cells #[b8,(.slice e8 b2.length f1)] 26 (0,0)))∧Aside0 (IsS110 w0 w' g s0_0 k5)∧Aside0 (KeepBut w w' g none)∧Aside0 (Below w0.heap.size w0 w'))
       case atStart=>exact⟨(a5g),(d5),zq6,H',⟨Nat.le_refl _⟩,⟨zqfR a5m.out⟩,⟨zq85⟩,⟨zq147⟩,⟨zqe a4.out⟩,⟨zqe a0.out⟩,⟨zq1⟩,⟨zq0⟩,⟨zq3⟩⟩
       case round=>
        clear H';obtain⟨d1,e4,rfl,HA,HK3,HO_6,HO_241000,HO_241001,a4,a0,a2,HK,HB⟩:=hrel
        cases gk with
        |zero=>exact absurd HA.out (by simp [spec_l20Logic.l1])
        |succ k3=>
         have H:=HA.out;clear HA;simp only [spec_l20Logic.l1] at H
         by_cases o5:e4>f2
         ·rw [if_pos o5] at H;have a4m:decide (f2<e4)=true:=decide_eq_true o5;clear o5;obtain⟨e1,n9⟩: ∃j_:Int,(wrap64 (e4 - 1))=j_:=⟨_,rfl⟩;(replace H:(if 0≤(e1) then(if(e1)<(d1.length:Int) then(if 0≤e4 then(if e4<(d1.length:Int) then(spec_l20Logic.l1 k3 a1 (d1.set (e4:Int).toNat (rd d1 (e1))) d5 f2 e1 s0_0 k5 c4 b2) else(none)) else(none)) else(none)) else(none))=some (r1,r2,r3):=by first|(rw [n9] at H;exact H)|(simp only [n9] at H ⊢;exact H));have b3x:(IntKind.i64.wrap (e4 - 1))=e1:=(i64_w _).trans n9
          by_cases v8:0≤(e1)
          ·rw [if_pos v8] at H;have b4w:decide (0≤(e1))=true:=decide_eq_true v8;clear v8
           by_cases w2:(e1)<(d1.length:Int)
           ·rw [if_pos w2] at H;have b4x:decide ((e1)<(d1.length:Int))=true:=decide_eq_true w2;clear w2
            by_cases w3:0≤e4
            ·rw [if_pos w3] at H;have b4y:decide (0≤e4)=true:=decide_eq_true w3;clear w3
             by_cases w4:e4<(d1.length:Int)
             ·rw [if_pos w4] at H;have b4z:decide (e4<(d1.length:Int))=true:=decide_eq_true w4;clear w4;obtain⟨a1r,y9⟩: ∃y_:List Int,y_=(d1.set (e4:Int).toNat (rd d1 (e1))):=⟨_,rfl⟩;replace H:(spec_l20Logic.l1 k3 a1 a1r d5 f2 e1 s0_0 k5 c4 b2)=some (r1,r2,r3):=zqy y9 H;have a5p:=zqm y9;clear y9;have H':=zqm H;clear H;obtain⟨b7p,n7,a6k⟩:=Kd.R_slice HO_6.out;subst a6k;have a1h:0≤((e1):Int):=zqo;have a1n:(e1)<(d1.length:Int):=zqo;obtain⟨b7u,a9f,a3s⟩:=Kd.at_int (Kd.R_reads' HO_6.out).2.2 (e1) a1h a1n
              cases a9f
              replace a1h:=eq_true a1h;replace a1n:=eq_true a1n;have a1d:0≤(e4:Int):=zqo;have a1i:(e4:Int)<((d1.length:Int):Int):=zqo;obtain⟨k0,b8b,a3j,a3o,a6x,b7x,a2c⟩:=Kd.R_form HO_6.out (by omega);(first|cases a3j|(injection a3j with ea_ en_ ec_;(first|subst ea_|(injection ea_ with ea_;subst ea_));subst ec_;clear en_));have GB129:=zqm a3o;have GG129:=zqm a2c;clear a3o a6x a2c;(first|simp only [add_plain] at a3s|skip);obtain⟨b3z,b3k⟩:=Kd.R_celln 0 HO_6.out (e4:Int) a1d a1i;replace a1d:=eq_true a1d;replace a1i:=eq_true a1i;have HP131:=Kd.R_putg HO_6.out (e4:Int) (rd d1 (e1))
              go_wp2_with (first|((with_reducible refine gate_store (t:=3) (p:=75) rfl ?_);refine store_event (t:=3) (p:=75) (v:=?vo_w132) (w1:=(wr.setCell ⟨k0,(e4:Int).toNat,none⟩ (.int .i64 (rd d1 (e1))))) ?hg ?ho ?hn ?hr ?_;(case ho=>rfl);(case hg=>rfl);(case hn=>rfl);(case hr=> exact zq9);intro a1p hw;have hg:wr.grownBy a1p (some k0):=(by rw [hw];exact HP131.2);have hp_:Kd.R (Kd.int .i64) 3 a1p w.heap.size (fun k_=>some k_≠(.slice e8 b2.length f1:Value).ownBlock) (.slice (some ⟨k0,0,none⟩) d1.length n7) a1r:=(by rw [hw,a5p.out];exact HP131.1);clear HP131;have c8:=zqm (hp_);replace HO_241000:=zqm (Kd.S_after (v:=(.slice (some ⟨k0,0,none⟩) d1.length n7)) (v1:=(.slice (some ⟨k0,0,none⟩) d1.length n7)) (ok:=(fun k_=>some k_≠(.slice e8 b2.length f1:Value).ownBlock)) zq85 hg (.inl rfl));replace HO_241001:=zqm (Kd.Q_after (v:=(.slice (some ⟨k0,0,none⟩) d1.length n7)) (v1:=(.slice (some ⟨k0,0,none⟩) d1.length n7)) (ok:=(fun _=>True)) zq155 hg (.inl rfl));replace a4:=zqm (blk_grown (g:=b1) (o:= .cells #[.slice none 0 0,.slice none 0 0] 26 (0,0)) (zqe a4.out) hg (Kd.R_ne HO_6.out a4.out (by decide)));replace a0:=zqm (blk_grown (g:=a8) (o:= .cells #[b8,.slice e8 b2.length f1] 26 (0,0)) (zqe a0.out) hg (Kd.R_ne HO_6.out a0.out (by decide)));replace a2:=zqm (IsS110.grown zq1 hg (IsS110.own_ne a2.out HO_6.out (by decide)));replace HB:=zqm ((by rw [hw];exact below_set (HB.out) (Nat.le_trans HL.out GB129.out):Below w0.heap.size w0 a1p));replace HK:=zqm (KeepBut.trans zq0 (KeepBut.of_grown hg g) (Kd.R_base2 HO_6.out));clear HO_6;have HO_6:=c8;clear c8 hg hw hp_))
              go_roundg k3
              (case measure=> exact zq164);case rel=>exact⟨(a1r),(e1),(by first|rfl|(simp;done)|(simp only [← n9] <;> (first|rfl|simp))|(simp [*];done)),H',⟨zq164⟩,⟨zqfR HO_6.out⟩,⟨zq85⟩,⟨zq147⟩,⟨zqe a4.out⟩,⟨zqe a0.out⟩,⟨zq1⟩,⟨zq0⟩,⟨zq3⟩⟩
             ·rw [if_neg w4] at H;exact absurd H (by simp)
            ·rw [if_neg w3] at H;exact absurd H (by simp)
           ·rw [if_neg w2] at H;exact absurd H (by simp)
          ·rw [if_neg v8] at H;exact absurd H (by simp)
         ·rw [if_neg o5] at H;have a4m:decide (f2<e4)=false:=decide_eq_false o5;clear o5
          by_cases w7:0≤f2
          ·rw [if_pos w7] at H;have b5a:decide (0≤f2)=true:=decide_eq_true w7;clear w7
           by_cases w8:f2<(d1.length:Int)
           ·rw [if_pos w8] at H;have b5b:decide (f2<(d1.length:Int))=true:=decide_eq_true w8;clear w8;obtain⟨a1s,z0⟩: ∃y_:List Int,y_=(d1.set (f2:Int).toNat d5):=⟨_,rfl⟩;replace H:(spec_l20Logic.l0 k3 a1 a1s (wrap64 (d5+1)) s0_0 k5 c4 b2)=some (r1,r2,r3):=zqy z0 H;have a5q:=zqm z0;clear z0;have H':=zqm H;clear H;have a1e:0≤(f2:Int):=zqo;have a1j:(f2:Int)<((d1.length:Int):Int):=zqo;obtain⟨k1,n8,a3k,a3p,a6y,b7y,a2d⟩:=Kd.R_form HO_6.out (by omega);(first|cases a3k|(injection a3k with ea_ en_ ec_;(first|subst ea_|(injection ea_ with ea_;subst ea_));subst ec_;clear en_));have GB135:=zqm a3p;have GG135:=zqm a2d;clear a3p a6y a2d;obtain⟨b4a,b3l⟩:=Kd.R_celln 0 HO_6.out (f2:Int) a1e a1j;replace a1e:=eq_true a1e;replace a1j:=eq_true a1j;have HP136:=Kd.R_putg HO_6.out (f2:Int) d5
            go_wp2_with (first|((with_reducible refine gate_store (t:=3) (p:=79) rfl ?_);refine store_event (t:=3) (p:=79) (v:=?vo_w137) (w1:=(wr.setCell ⟨k1,(f2:Int).toNat,none⟩ (.int .i64 d5))) ?hg ?ho ?hn ?hr ?_;(case ho=>rfl);(case hg=>rfl);(case hn=>rfl);(case hr=> exact zq9);intro a1q hw;have hg:wr.grownBy a1q (some k1):=(by rw [hw];exact HP136.2);have hp_:Kd.R (Kd.int .i64) 3 a1q w.heap.size (fun k_=>some k_≠(.slice e8 b2.length f1:Value).ownBlock) (.slice (some ⟨k1,0,none⟩) d1.length n8) a1s:=(by rw [hw,a5q.out];exact HP136.1);clear HP136;have c8:=zqm (hp_);replace HO_241000:=zqm (Kd.S_after (v:=(.slice (some ⟨k1,0,none⟩) d1.length n8)) (v1:=(.slice (some ⟨k1,0,none⟩) d1.length n8)) (ok:=(fun k_=>some k_≠(.slice e8 b2.length f1:Value).ownBlock)) zq85 hg (.inl rfl));replace HO_241001:=zqm (Kd.Q_after (v:=(.slice (some ⟨k1,0,none⟩) d1.length n8)) (v1:=(.slice (some ⟨k1,0,none⟩) d1.length n8)) (ok:=(fun _=>True)) zq155 hg (.inl rfl));replace a4:=zqm (blk_grown (g:=b1) (o:= .cells #[.slice none 0 0,.slice none 0 0] 26 (0,0)) (zqe a4.out) hg (Kd.R_ne HO_6.out a4.out (by decide)));replace a0:=zqm (blk_grown (g:=a8) (o:= .cells #[b8,.slice e8 b2.length f1] 26 (0,0)) (zqe a0.out) hg (Kd.R_ne HO_6.out a0.out (by decide)));replace a2:=zqm (IsS110.grown zq1 hg (IsS110.own_ne a2.out HO_6.out (by decide)));replace HB:=zqm ((by rw [hw];exact below_set (HB.out) (Nat.le_trans HL.out GB135.out):Below w0.heap.size w0 a1q));replace HK:=zqm (KeepBut.trans zq0 (KeepBut.of_grown hg g) (Kd.R_base2 HO_6.out));clear HO_6;have HO_6:=c8;clear c8 hg hw hp_))
            go_roundg k3
            (case measure=> exact zq164);case rel=>exact⟨(a1s),(wrap64 (d5+1)),(k5),(b2),(.slice e8 b2.length f1),zq6,H',⟨zq164⟩,⟨zqfR HO_6.out⟩,⟨zq85⟩,⟨zq147⟩,⟨zqe a4.out⟩,⟨zqe a0.out⟩,⟨zq1⟩,⟨zq0⟩,⟨zq3⟩⟩
           ·rw [if_neg w8] at H;exact absurd H (by simp)
          ·rw [if_neg w7] at H;exact absurd H (by simp)
      ·rw [if_neg v5] at H;exact absurd H (by simp)
     ·rw [if_neg o4] at H;have a4l:decide (d5<(b2.length:Int))=false:=decide_eq_false o4;clear o4;replace H:=Option.bind_eq_some_iff.mp H;obtain⟨⟨m7,e2⟩,a1w,H⟩:=H;replace H:(if m7=0 then((spec_l20Rename.f k2 c4 b2 h3).bind fun a3g=>(spec_l20Logic.j5 k2 a1 s0_0 e2 a3g.1 a3g.2)) else(spec_l20Logic.j5 k2 a1 s0_0 e2 c4 b2))=some (r1,r2,r3):=H;have a7n:=zqm a1w;clear a1w;have v4:=zqm H;clear H;have b5x:=c6.out;have b6v:=b3.out;have b5y:=c2.out;have b6w:=a6.out;have b0r:wr.cell? ⟨a8,0,none⟩=some (b8):=(blk_cell a0.out 0).trans rfl;have b0s:wr.cell? ⟨a8,1,none⟩=some (b9):=(blk_cell a0.out 1).trans rfl;have b1x:=blk_frozen a0.out 0;have b1y:=blk_frozen a0.out 1;obtain⟨h5,i4,a6l,_⟩:=Kd.Q_slice HO_241001.out;subst a6l
      go_upto_if 82 with (first|((with_reducible refine gate_callee (f:=91) rfl ?_);refine goesL_ (some 81) rfl rfl Try.func91 zqk rfl #[.pointer (some ⟨g,0,none⟩),.int .i64 2] rfl zq5 ?_;(with_reducible refine(spec_l20Rd_pick.calls k2 g s0_0 e7 2 m7 e2 w0 _ ?side1 ?side2 a7n.out).mono ?_);(case side1=> exact zq1);(case side2=> exact zq3);rintro e a5c ⟨rfl,hi,hb,hk⟩;refine⟨_,rfl,?_⟩;replace HO_6:=zqm (Kd.R_mono (Kd.R_keep (IsS110.apart (show IsS110 w0 _ g s0_0 e7 from zq1) (zqfR HO_6.out) (by decide)) hk (fun _ h=>h.2)) (fun _ h=>h.1));replace HO_241000:=zqm (Kd.S_mono (Kd.S_keep (IsS110.apartS (show IsS110 w0 _ g s0_0 e7 from zq1) (zqfS HO_241000.out) (by decide)) hk (fun _ h=>h.2)) (fun _ h=>h.1));replace HO_241001:=zqm (Kd.Q_mono (Kd.Q_keep (IsS110.apartQ (show IsS110 w0 _ g s0_0 e7 from zq1) (zqfQ HO_241001.out) (by decide)) hk (fun _ h=>h.2)) (fun _ h=>h.1));replace a4:=zqm (KeepBut.blk hk (g':=b1) (o:= .cells #[.slice none 0 0,.slice none 0 0] 26 (0,0)) (zqe a4.out) c7.out (by simp));replace a0:=zqm (KeepBut.blk hk (g':=a8) (o:= .cells #[b8,.slice h5 b2.length i4] 26 (0,0)) (zqe a0.out) c2.out (by simp));replace HK:=zqm (KeepBut.trans zq0 hk (.inl rfl));replace HB:=zqm (hb);replace a2:=zqm (hi);clear hb hk hi))
      (try simp only [Act.put,List.setIfInBounds_toArray,List.set_cons_zero,List.set_cons_succ])
      go_cut [] (fun wc=> ∃(kq:Nat) (a3:List (List Int)) (a5:List Int) (b8:Value) (b9:Value),Aside0 (spec_l20Logic.j5 kq a1 s0_0 e2 a3 a5=some (r1,r2,r3))∧Aside0 (kq≤k2)∧Aside0 (Kd.S (Kd.slice 3 (Kd.int .i64)) 24 wc w.heap.size (fun k_=>some k_≠(b9:Value).ownBlock) b8 a3)∧Aside0 (Kd.Q (Kd.int .i64) 3 wc w.heap.size (fun _=>True) b9 a5)∧Aside0 (wc.heap[b1]? =some (.cells #[(.slice none 0 0),(.slice none 0 0)] 26 (0,0)))∧Aside0 (wc.heap[a8]? =some (.cells #[b8,b9] 26 (0,0)))∧Aside0 (IsS110 w0 wc g s0_0 e2)∧Aside0 (KeepBut w wc g none)∧Aside0 (Below w0.heap.size w0 wc))
      case first=>
       have H:=v4.out;clear v4
       by_cases l6:m7=0
       ·rw [if_pos l6] at H;have k8:(m7==0)=true:=beq_iff_eq.mpr l6;have a4n:(m7 !=0)=false:=bne_eq_false_iff_eq.mpr l6;clear l6;(first|rw [k8]|(simp only [i64_w,i32_w];rw [k8])|skip);replace H:=Option.bind_eq_some_iff.mp H;obtain⟨⟨m8,p4⟩,a1x,H⟩:=H;replace H:(spec_l20Logic.j5 k2 a1 s0_0 e2 m8 p4)=some (r1,r2,r3):=H;have a7o:=zqm a1x;clear a1x;have H':=zqm H;clear H;have b5z:=c6.out;have b6x:=b3.out;have b6a:=c2.out;have b6y:=a6.out;have b0t:a5c.cell? ⟨a8,0,none⟩=some (b8):=(blk_cell a0.out 0).trans rfl;have b0u:a5c.cell? ⟨a8,1,none⟩=some (.slice h5 b2.length i4):=(blk_cell a0.out 1).trans rfl;have b1z:=blk_frozen a0.out 0;have b2a:=blk_frozen a0.out 1;obtain⟨p7,q4,a6m⟩:=Kd.S_slice HO_241000.out;subst a6m;obtain⟨a5j,a6e,a6n⟩:=Kd.R_slice HO_6.out;subst a6n
        go_wp2_with (first|((with_reducible refine gate_callee (f:=130) rfl ?_);refine goesL_ (some 85) rfl rfl Try.func130 zqk rfl #[.agg #[.slice p7 c4.length q4,.slice h5 b2.length i4],.slice a5j h3.length a6e] rfl zq5 ?_;(with_reducible refine(spec_l20Rename.calls k2 _ _ c4 _ _ b2 _ _ h3 m8 p4 _ ?side1 ?side2 ?side3 ?side4 ?side5 ?side6 a7o.out).mono ?_);(case side1=>repeat(first|exact(Kd.S_reads' HO_241000.out).2.2|(with_reducible refine Kd.C_alloc ?_ _)|(with_reducible refine Kd.C_drewN ?_ _)|(with_reducible refine Kd.C_drew ?_)));(case side2=>exact(Kd.S_reads' HO_241000.out).2.1);(case side3=>repeat(first|exact(Kd.Q_reads' HO_241001.out).2.2|(with_reducible refine Kd.C_alloc ?_ _)|(with_reducible refine Kd.C_drewN ?_ _)|(with_reducible refine Kd.C_drew ?_)));(case side4=>exact(Kd.Q_reads' HO_241001.out).2.1);(case side5=>repeat(first|exact(Kd.R_reads' HO_6.out).2.2|(with_reducible refine Kd.C_alloc ?_ _)|(with_reducible refine Kd.C_drewN ?_ _)|(with_reducible refine Kd.C_drew ?_)));(case side6=>exact(Kd.R_reads' HO_6.out).2.1);rintro e a5d ⟨c0m,c0n,rfl,c0,b6,hb⟩;refine⟨_,rfl,?_⟩;have c8:=zqm (Kd.R_elder' (zqfR HO_6.out) (Kd.R_base b6) hb);have d0:=zqm (Kd.S_mono (Kd.S_told (Kd.S_told (Kd.S_old (zqfS HO_241000.out) hb) (Kd.S_base c0)) (Kd.R_base b6)) (fun _ h_=>h_.1));have e6:=zqm (Kd.Q_elder' (zqfQ HO_241001.out) (Kd.R_base b6) hb);have a2v:=zqm (Kd.S_lower (Kd.S_new' (Kd.S_new' (Kd.S_new' c0 (Kd.R_lt (zqfR HO_6.out))) (Kd.S_lt (zqfS HO_241000.out))) (Kd.Q_lt (zqfQ HO_241001.out))) (keep_size (w:=w) (g:=g) (row:=none) zq0));have a2w:=zqm (Kd.R_lower (Kd.R_new' (Kd.R_new' b6 (Kd.R_lt (zqfR HO_6.out))) (Kd.Q_lt (zqfQ HO_241001.out))) (keep_size (w:=w) (g:=g) (row:=none) zq0));replace a4:=zqm (blk_below (g:=b1) (o:= .cells #[.slice none 0 0,.slice none 0 0] 26 (0,0)) (zqe a4.out) hb);replace a0:=zqm (blk_below (g:=a8) (o:= .cells #[.slice p7 c4.length q4,.slice h5 b2.length i4] 26 (0,0)) (zqe a0.out) hb);have n7_:=zqm (IsS110.below zq1 hb);replace HK:=zqm (KeepBut.trans zq0 (KeepBut.of_below hb g none) (.inl rfl));replace HB:=zqm (below_step zq3 hb);clear HO_6 HO_241000 HO_241001 a2;have HO_6:=c8;have HO_241000:=d0;have HO_241001:=e6;have a2:=n7_;clear c8 d0 e6 n7_ hb c0 b6;obtain⟨p8,q5,a6o⟩:=Kd.S_slice a2v.out;subst a6o;have b0v:a5d.cell? ⟨a8,0,none⟩=some (.slice p7 c4.length q4):=(blk_cell a0.out 0).trans rfl;have b0w:a5d.cell? ⟨a8,1,none⟩=some (.slice h5 b2.length i4):=(blk_cell a0.out 1).trans rfl;have b2b:=blk_frozen a0.out 0;have b2c:=blk_frozen a0.out 1;obtain⟨u3,x7,a6p⟩:=Kd.R_slice a2w.out;subst a6p))
        go_meet
        case rel=>exact⟨_,(m8),(p4),(.slice p8 m8.length q5),(.slice u3 p4.length x7),H',⟨by have:=t4.out;have:=t5.out;first|omega|exact Nat.le_refl _⟩,⟨by refine zqfS ?_;exact Kd.S_mono (Kd.S_far (p:=⟨a8,1,none⟩) (Kd.S_far (p:=⟨a8,0,none⟩) (Kd.S_types a2v.out a0.out (by decide)) (fun _ hk=>hk.2) (.slice p8 m8.length q5)) (fun _ hk=>hk.2) (.slice u3 p4.length x7)) (fun _ hk=>hk.1.1.1.1)⟩,⟨Kd.Q_of_R (by refine zqfR ?_;exact Kd.R_mono (Kd.R_far (p:=⟨a8,1,none⟩) (Kd.R_far (p:=⟨a8,0,none⟩) (Kd.R_types a2w.out a0.out (by decide)) (fun _ hk=>hk.2) (.slice p8 m8.length q5)) (fun _ hk=>hk.2) (.slice u3 p4.length x7)) (fun _ hk=>trivial))⟩,⟨zq40⟩,⟨by refine zqe ?_;refine blk_put (cs:= #[.slice p8 m8.length q5,.slice h5 b2.length i4]) ?_ 1 _ rfl;refine zqe ?_;refine blk_put (cs:= #[.slice p7 c4.length q4,.slice h5 b2.length i4]) ?_ 0 _ rfl;refine zqe ?_;exact a0.out⟩,⟨zq1⟩,⟨zq0⟩,⟨zq3⟩⟩
       ·rw [if_neg l6] at H;have k8:(m7==0)=false:=beq_eq_false_iff_ne.mpr l6;have a4n:(m7 !=0)=true:=bne_iff_ne.mpr l6;(first|rw [k8]|(simp only [i64_w,i32_w];rw [k8])|skip);have H':=zqm H;clear H
        go_wp2
        go_meet
        case rel=>exact⟨_,(c4),(b2),(b8),(.slice h5 b2.length i4),H',⟨by have:=t4.out;have:=t5.out;first|omega|exact Nat.le_refl _⟩,⟨by refine zqfS ?_;exact Kd.S_mono HO_241000.out (fun _ hk=>hk.2)⟩,⟨by refine zqfQ ?_;exact Kd.Q_mono HO_241001.out (fun _ hk=>trivial)⟩,⟨zqe a4.out⟩,⟨zqe a0.out⟩,⟨zq1⟩,⟨zq0⟩,⟨zq3⟩⟩
      case rest=>
       clear v4;obtain⟨kq,a3,a5,b8,b9,HA,b7s,HO_241000,HO_241001,a4,a0,a2,HK,HB⟩:=hcut
       cases kq with
       |zero=>exact absurd HA.out (by simp [spec_l20Logic.j5])
       |succ d4=>
        have H:=HA.out;clear HA;simp only [spec_l20Logic.j5] at H;replace H:=Option.bind_eq_some_iff.mp H;obtain⟨⟨a5a,e3⟩,a1y,H⟩:=H;replace H:(if a5a=true then((spec_l20Rd_pick.f d4 s0_0 e3 4).bind fun f0=>(if f0.1=0 then(some (([]:List (List Int)),([]:List Int),f0.2)) else(if f0.1=1 then(if 1≤(a5.length:Int) then(some (a3,(a5.drop (1:Int).toNat),f0.2)) else(none)) else(if f0.1=2 then((spec_l20Rd_pick.f d4 s0_0 f0.2 (a5.length:Int)).bind fun f4=>((spec_l20Rd_pick.f d4 s0_0 f4.2 (wrap64 ((a5.length:Int)+1))).bind fun g7=>(if 0≤f4.1 then(if f4.1<(a5.length:Int) then(some (a3,(a5.set (f4.1:Int).toNat g7.1),g7.2)) else(none)) else(none)))) else(if 0≤(wrap64 ((a3.length:Int) - 1)) then(if(wrap64 ((a3.length:Int) - 1))<(a3.length:Int) then(if 0<((rd_L2 a3 (wrap64 ((a3.length:Int) - 1))).length:Int) then(some ((a3.set ((wrap64 ((a3.length:Int) - 1)):Int).toNat ((rd_L2 a3 (wrap64 ((a3.length:Int) - 1))).set (0:Int).toNat 1)),a5,f0.2)) else(none)) else(none)) else(none)))))) else(some (a3,a5,e3)))=some (r1,r2,r3):=H;have o2:=zqm a1y;clear a1y
        by_cases w9:a5a=true
        ·subst w9;(have H1:((spec_l20Rd_pick.f d4 s0_0 e3 4).bind fun f0=>(if f0.1=0 then(some (([]:List (List Int)),([]:List Int),f0.2)) else(if f0.1=1 then(if 1≤(a5.length:Int) then(some (a3,(a5.drop (1:Int).toNat),f0.2)) else(none)) else(if f0.1=2 then((spec_l20Rd_pick.f d4 s0_0 f0.2 (a5.length:Int)).bind fun f4=>((spec_l20Rd_pick.f d4 s0_0 f4.2 (wrap64 ((a5.length:Int)+1))).bind fun g7=>(if 0≤f4.1 then(if f4.1<(a5.length:Int) then(some (a3,(a5.set (f4.1:Int).toNat g7.1),g7.2)) else(none)) else(none)))) else(if 0≤(wrap64 ((a3.length:Int) - 1)) then(if(wrap64 ((a3.length:Int) - 1))<(a3.length:Int) then(if 0<((rd_L2 a3 (wrap64 ((a3.length:Int) - 1))).length:Int) then(some ((a3.set ((wrap64 ((a3.length:Int) - 1)):Int).toNat ((rd_L2 a3 (wrap64 ((a3.length:Int) - 1))).set (0:Int).toNat 1)),a5,f0.2)) else(none)) else(none)) else(none))))))=some (r1,r2,r3):=by rw [if_pos rfl] at H;exact H);clear H;have H:=H1;clear H1;replace H:=Option.bind_eq_some_iff.mp H;obtain⟨⟨e0,g0⟩,a1z,H⟩:=H;replace H:(if e0=0 then(some (([]:List (List Int)),([]:List Int),g0)) else(if e0=1 then(if 1≤(a5.length:Int) then(some (a3,(a5.drop (1:Int).toNat),g0)) else(none)) else(if e0=2 then((spec_l20Rd_pick.f d4 s0_0 g0 (a5.length:Int)).bind fun f4=>((spec_l20Rd_pick.f d4 s0_0 f4.2 (wrap64 ((a5.length:Int)+1))).bind fun g7=>(if 0≤f4.1 then(if f4.1<(a5.length:Int) then(some (a3,(a5.set (f4.1:Int).toNat g7.1),g7.2)) else(none)) else(none)))) else(if 0≤(wrap64 ((a3.length:Int) - 1)) then(if(wrap64 ((a3.length:Int) - 1))<(a3.length:Int) then(if 0<((rd_L2 a3 (wrap64 ((a3.length:Int) - 1))).length:Int) then(some ((a3.set ((wrap64 ((a3.length:Int) - 1)):Int).toNat ((rd_L2 a3 (wrap64 ((a3.length:Int) - 1))).set (0:Int).toNat 1)),a5,g0)) else(none)) else(none)) else(none)))))=some (r1,r2,r3):=H;have r4:=zqm a1z;clear a1z
         by_cases l7:e0=0
         ·rw [if_pos l7] at H;have a4o:(e0==0)=true:=beq_iff_eq.mpr l7;have a4p:(e0 !=0)=false:=bne_eq_false_iff_eq.mpr l7;clear l7;simp only [Option.some.injEq,Prod.mk.injEq] at H;obtain⟨rfl,rfl,rfl⟩:=H
          go_wp2_with (first|((with_reducible refine gate_callee (f:=131) rfl ?_);refine goesL_ (some 88) rfl rfl Try.func131 zqk rfl #[.pointer (some ⟨g,0,none⟩),.int .i64 a1] rfl zq5 ?_;(with_reducible refine(spec_l20Rd_odd.calls d4 g s0_0 e2 a1 true e3 w0 _ ?side1 ?side2 o2.out).mono ?_);(case side1=> exact zq1);(case side2=> exact zq3);rintro e c0r ⟨rfl,hi,hb,hk⟩;refine⟨_,rfl,?_⟩;replace HO_241000:=zqm (Kd.S_mono (Kd.S_keep (IsS110.apartS (show IsS110 w0 _ g s0_0 e2 from zq1) (zqfS HO_241000.out) (by decide)) hk (fun _ h=>h.2)) (fun _ h=>h.1));replace HO_241001:=zqm (Kd.Q_mono (Kd.Q_keep (IsS110.apartQ (show IsS110 w0 _ g s0_0 e2 from zq1) (zqfQ HO_241001.out) (by decide)) hk (fun _ h=>h.2)) (fun _ h=>h.1));replace a4:=zqm (KeepBut.blk hk (g':=b1) (o:= .cells #[.slice none 0 0,.slice none 0 0] 26 (0,0)) (zqe a4.out) c7.out (by simp));replace a0:=zqm (KeepBut.blk hk (g':=a8) (o:= .cells #[b8,b9] 26 (0,0)) (zqe a0.out) c2.out (by simp));replace HK:=zqm (KeepBut.trans zq0 hk (.inl rfl));replace HB:=zqm (hb);replace a2:=zqm (hi);clear hb hk hi)|((with_reducible refine gate_callee (f:=91) rfl ?_);refine goesL_ (some 90) rfl rfl Try.func91 zqk rfl #[.pointer (some ⟨g,0,none⟩),.int .i64 4] rfl zq5 ?_;(with_reducible refine(spec_l20Rd_pick.calls d4 g s0_0 e3 4 e0 g0 w0 _ ?side1 ?side2 r4.out).mono ?_);(case side1=> exact zq1);(case side2=> exact zq3);rintro e a5e ⟨rfl,hi,hb,hk⟩;refine⟨_,rfl,?_⟩;replace HO_241000:=zqm (Kd.S_mono (Kd.S_keep (IsS110.apartS (show IsS110 w0 _ g s0_0 e3 from zq1) (zqfS HO_241000.out) (by decide)) hk (fun _ h=>h.2)) (fun _ h=>h.1));replace HO_241001:=zqm (Kd.Q_mono (Kd.Q_keep (IsS110.apartQ (show IsS110 w0 _ g s0_0 e3 from zq1) (zqfQ HO_241001.out) (by decide)) hk (fun _ h=>h.2)) (fun _ h=>h.1));replace a4:=zqm (KeepBut.blk hk (g':=b1) (o:= .cells #[.slice none 0 0,.slice none 0 0] 26 (0,0)) (zqe a4.out) c7.out (by simp));replace a0:=zqm (KeepBut.blk hk (g':=a8) (o:= .cells #[b8,b9] 26 (0,0)) (zqe a0.out) c2.out (by simp));replace HK:=zqm (KeepBut.trans zq0 hk (.inl rfl));replace HB:=zqm (hb);replace a2:=zqm (hi);clear hb hk hi;have b6b:=b3.out;have b6z:=c6.out;have b6c:=c7.out;have b7a:=a7.out;have b0x:a5e.cell? ⟨b1,0,none⟩=some (.slice none 0 0):=(blk_cell a4.out 0).trans rfl;have b0y:a5e.cell? ⟨b1,1,none⟩=some (.slice none 0 0):=(blk_cell a4.out 1).trans rfl;have b2d:=blk_frozen a4.out 0;have b2e:=blk_frozen a4.out 1))
          refine bodyPost_ret (results_cell_row rfl _ _ b1 26 #[.slice none 0 0,.slice none 0 0] (0,0) _ rfl (by refine zqe ?_;refine blk_put (cs:= #[.slice none 0 0,.slice none 0 0]) ?_ 1 _ rfl;refine zqe ?_;refine blk_put (cs:= #[.slice none 0 0,.slice none 0 0]) ?_ 0 _ rfl;refine zqe ?_;exact a4.out) Try.underlying26 rfl zqk) rfl ?_;exact⟨_,_,zq13,zq76,Kd.Q_of_R zq62,zq1,zq3,zq0⟩
         ·rw [if_neg l7] at H;have a4o:(e0==0)=false:=beq_eq_false_iff_ne.mpr l7;have a4p:(e0 !=0)=true:=bne_iff_ne.mpr l7
          by_cases l8:e0=1
          ·rw [if_pos l8] at H;have a4q:(e0==1)=true:=beq_iff_eq.mpr l8;have a4r:(e0 !=1)=false:=bne_eq_false_iff_eq.mpr l8;clear l8
           by_cases r6:1≤(a5.length:Int)
           ·rw [if_pos r6] at H;have b5c:=eq_true r6;have b5d:decide (1≤(a5.length:Int))=true:=decide_eq_true r6;clear r6;obtain⟨h4,z1⟩: ∃y_:List Int,y_=(a5.drop (1:Int).toNat):=⟨_,rfl⟩;replace H:(some (a3,h4,g0))=some (r1,r2,r3):=zqy z1 H;have a2y:=zqm z1;clear z1;simp only [Option.some.injEq,Prod.mk.injEq] at H;obtain⟨rfl,rfl,rfl⟩:=H
            go_wp2_with (first|((with_reducible refine gate_callee (f:=131) rfl ?_);refine goesL_ (some 88) rfl rfl Try.func131 zqk rfl #[.pointer (some ⟨g,0,none⟩),.int .i64 a1] rfl zq5 ?_;(with_reducible refine(spec_l20Rd_odd.calls d4 g s0_0 e2 a1 true e3 w0 _ ?side1 ?side2 o2.out).mono ?_);(case side1=> exact zq1);(case side2=> exact zq3);rintro e c0s ⟨rfl,hi,hb,hk⟩;refine⟨_,rfl,?_⟩;replace HO_241000:=zqm (Kd.S_mono (Kd.S_keep (IsS110.apartS (show IsS110 w0 _ g s0_0 e2 from zq1) (zqfS HO_241000.out) (by decide)) hk (fun _ h=>h.2)) (fun _ h=>h.1));replace HO_241001:=zqm (Kd.Q_mono (Kd.Q_keep (IsS110.apartQ (show IsS110 w0 _ g s0_0 e2 from zq1) (zqfQ HO_241001.out) (by decide)) hk (fun _ h=>h.2)) (fun _ h=>h.1));replace a4:=zqm (KeepBut.blk hk (g':=b1) (o:= .cells #[.slice none 0 0,.slice none 0 0] 26 (0,0)) (zqe a4.out) c7.out (by simp));replace a0:=zqm (KeepBut.blk hk (g':=a8) (o:= .cells #[b8,b9] 26 (0,0)) (zqe a0.out) c2.out (by simp));replace HK:=zqm (KeepBut.trans zq0 hk (.inl rfl));replace HB:=zqm (hb);replace a2:=zqm (hi);clear hb hk hi)|((with_reducible refine gate_callee (f:=91) rfl ?_);refine goesL_ (some 90) rfl rfl Try.func91 zqk rfl #[.pointer (some ⟨g,0,none⟩),.int .i64 4] rfl zq5 ?_;(with_reducible refine(spec_l20Rd_pick.calls d4 g s0_0 e3 4 e0 g0 w0 _ ?side1 ?side2 r4.out).mono ?_);(case side1=> exact zq1);(case side2=> exact zq3);rintro e t3 ⟨rfl,hi,hb,hk⟩;refine⟨_,rfl,?_⟩;replace HO_241000:=zqm (Kd.S_mono (Kd.S_keep (IsS110.apartS (show IsS110 w0 _ g s0_0 e3 from zq1) (zqfS HO_241000.out) (by decide)) hk (fun _ h=>h.2)) (fun _ h=>h.1));replace HO_241001:=zqm (Kd.Q_mono (Kd.Q_keep (IsS110.apartQ (show IsS110 w0 _ g s0_0 e3 from zq1) (zqfQ HO_241001.out) (by decide)) hk (fun _ h=>h.2)) (fun _ h=>h.1));replace a4:=zqm (KeepBut.blk hk (g':=b1) (o:= .cells #[.slice none 0 0,.slice none 0 0] 26 (0,0)) (zqe a4.out) c7.out (by simp));replace a0:=zqm (KeepBut.blk hk (g':=a8) (o:= .cells #[b8,b9] 26 (0,0)) (zqe a0.out) c2.out (by simp));replace HK:=zqm (KeepBut.trans zq0 hk (.inl rfl));replace HB:=zqm (hb);replace a2:=zqm (hi);clear hb hk hi;have b6d:=c6.out;have b7b:=b3.out;have b6e:=c2.out;have b7c:=a6.out;have b0z:t3.cell? ⟨a8,0,none⟩=some (b8):=(blk_cell a0.out 0).trans rfl;have b1a:t3.cell? ⟨a8,1,none⟩=some (b9):=(blk_cell a0.out 1).trans rfl;have b2f:=blk_frozen a0.out 0;have b2g:=blk_frozen a0.out 1;obtain⟨m9,q6,a6q,_⟩:=Kd.Q_slice HO_241001.out;subst a6q;have a1k:(1:Int)≤((a5.length:Int):Int):=zqo;obtain⟨i0173,a0p,_,hsz173,_⟩:=info_parts info3;have hcut173:=cut_from (P:=Try.prog) 24 3 .i64 Try.underlying24 a0p 1 hsz173 m9 a5.length q6 1 (by omega) a1k;have hr173:=Kd.Q_drop (k:=(1:Int).toNat) HO_241001.out (by omega);obtain⟨k7,hA173⟩: ∃A1,A1=(if q6=(1:Int).toNat then m9 else(m9:Option Addr).map (·.add ((1:Int).toNat*1))):=⟨_,rfl⟩;obtain⟨k9,hc173⟩: ∃c1,c1=q6 - (1:Int).toNat:=⟨_,rfl⟩;have y6:h4.length=a5.length - (1:Int).toNat:=(by rw [a2y.out,List.length_drop]);rw [← a2y.out] at hr173;rw [← y6,← hA173,← hc173] at hcut173;replace hr173:Kd.Q (Kd.int .i64) 3 t3 w.heap.size (fun _=>True) (.slice k7 h4.length k9) h4:=(by rw [hA173,hc173,y6];exact hr173);have a5k:Aside0 ((Value.slice k7 h4.length k9).ownBlock=(.slice m9 a5.length q6:Value).ownBlock):=⟨by rw [hA173];split <;> (cases (m9:Option Addr) <;> rfl)⟩;clear y6 a0p hsz173 HO_241001 hA173 hc173;have a5n:=zqm hr173;clear hr173;replace a1k:=eq_true a1k;have n_:=zqm (Kd.S_mono (ok':=fun k_=>some k_≠(.slice k7 h4.length k9:Value).ownBlock) HO_241000.out (fun k_ hk=>(by rw [a5k.out];exact hk)));clear HO_241000;have HO_241000:=n_;clear n_;obtain⟨p9,q7,a6r⟩:=Kd.S_slice HO_241000.out;subst a6r;have b6f:=c7.out;have b7d:=a7.out;have b1b:t3.cell? ⟨b1,0,none⟩=some (.slice none 0 0):=(blk_cell a4.out 0).trans rfl;have b1c:t3.cell? ⟨b1,1,none⟩=some (.slice none 0 0):=(blk_cell a4.out 1).trans rfl;have b2h:=blk_frozen a4.out 0;have b2i:=blk_frozen a4.out 1))
            refine bodyPost_ret (results_cell_row rfl _ _ b1 26 #[.slice p9 a3.length q7,.slice k7 h4.length k9] (0,0) _ rfl (by refine zqe ?_;refine blk_put (cs:= #[.slice p9 a3.length q7,.slice none 0 0]) ?_ 1 _ rfl;refine zqe ?_;refine blk_put (cs:= #[.slice none 0 0,.slice none 0 0]) ?_ 0 _ rfl;refine zqe ?_;refine blk_far ?_ b3.out _;refine zqe ?_;exact a4.out) Try.underlying26 rfl zqk) rfl ?_;exact⟨_,_,zq13,by refine zqfS ?_;exact Kd.S_mono (Kd.S_far (p:=⟨b1,1,none⟩) (Kd.S_far (p:=⟨b1,0,none⟩) (Kd.S_far (p:=⟨a8,1,none⟩) (Kd.S_types (Kd.S_types HO_241000.out a0.out (by decide)) a4.out (by decide)) (fun _ hk=>hk.1.2) (.slice k7 h4.length k9)) (fun _ hk=>hk.2) (.slice p9 a3.length q7)) (fun _ hk=>hk.2) (.slice k7 h4.length k9)) (fun _ hk=>hk.1.1),by refine zqfQ ?_;exact Kd.Q_mono (Kd.Q_far (p:=⟨b1,1,none⟩) (Kd.Q_far (p:=⟨b1,0,none⟩) (Kd.Q_far (p:=⟨a8,1,none⟩) (Kd.Q_types (Kd.Q_types a5n.out a0.out (by decide)) a4.out (by decide)) (fun _ hk=>hk.1.2) (.slice k7 h4.length k9)) (fun _ hk=>hk.2) (.slice p9 a3.length q7)) (fun _ hk=>hk.2) (.slice k7 h4.length k9)) (fun _ hk=>trivial),zq1,zq3,zq0⟩
           ·rw [if_neg r6] at H;exact absurd H (by simp)
          ·rw [if_neg l8] at H;have a4q:(e0==1)=false:=beq_eq_false_iff_ne.mpr l8;have a4r:(e0 !=1)=true:=bne_iff_ne.mpr l8
           by_cases l9:e0=2
           ·rw [if_pos l9] at H;have a4s:(e0==2)=true:=beq_iff_eq.mpr l9;have a4t:(e0 !=2)=false:=bne_eq_false_iff_eq.mpr l9;clear l9;replace H:=Option.bind_eq_some_iff.mp H;obtain⟨⟨d3,t2⟩,a2a,H⟩:=H;replace H:((spec_l20Rd_pick.f d4 s0_0 t2 (wrap64 ((a5.length:Int)+1))).bind fun g7=>(if 0≤d3 then(if d3<(a5.length:Int) then(some (a3,(a5.set (d3:Int).toNat g7.1),g7.2)) else(none)) else(none)))=some (r1,r2,r3):=H;have a7p:=zqm a2a;clear a2a;replace H:=Option.bind_eq_some_iff.mp H;obtain⟨⟨g9,a0j⟩,a2b,H⟩:=H;replace H:(if 0≤d3 then(if d3<(a5.length:Int) then(some (a3,(a5.set (d3:Int).toNat g9),a0j)) else(none)) else(none))=some (r1,r2,r3):=H;have a7q:=zqm a2b;clear a2b
            by_cases x0:0≤d3
            ·rw [if_pos x0] at H;have b5e:decide (0≤d3)=true:=decide_eq_true x0;clear x0
             by_cases x1:d3<(a5.length:Int)
             ·rw [if_pos x1] at H;have b5f:decide (d3<(a5.length:Int))=true:=decide_eq_true x1;clear x1;obtain⟨a5h,z2⟩: ∃y_:List Int,y_=(a5.set (d3:Int).toNat g9):=⟨_,rfl⟩;replace H:(some (a3,a5h,a0j))=some (r1,r2,r3):=zqy z2 H;have a5r:=zqm z2;clear z2;simp only [Option.some.injEq,Prod.mk.injEq] at H;obtain⟨rfl,rfl,rfl⟩:=H;(try go_wp2_with (first|((with_reducible refine gate_callee (f:=131) rfl ?_);refine goesL_ (some 88) rfl rfl Try.func131 zqk rfl #[.pointer (some ⟨g,0,none⟩),.int .i64 a1] rfl zq5 ?_;(with_reducible refine(spec_l20Rd_odd.calls d4 g s0_0 e2 a1 true e3 w0 _ ?side1 ?side2 o2.out).mono ?_);(case side1=> exact zq1);(case side2=> exact zq3);rintro e c0t ⟨rfl,hi,hb,hk⟩;refine⟨_,rfl,?_⟩;replace HO_241000:=zqm (Kd.S_mono (Kd.S_keep (IsS110.apartS (show IsS110 w0 _ g s0_0 e2 from zq1) (zqfS HO_241000.out) (by decide)) hk (fun _ h=>h.2)) (fun _ h=>h.1));replace HO_241001:=zqm (Kd.Q_mono (Kd.Q_keep (IsS110.apartQ (show IsS110 w0 _ g s0_0 e2 from zq1) (zqfQ HO_241001.out) (by decide)) hk (fun _ h=>h.2)) (fun _ h=>h.1));replace a4:=zqm (KeepBut.blk hk (g':=b1) (o:= .cells #[.slice none 0 0,.slice none 0 0] 26 (0,0)) (zqe a4.out) c7.out (by simp));replace a0:=zqm (KeepBut.blk hk (g':=a8) (o:= .cells #[b8,b9] 26 (0,0)) (zqe a0.out) c2.out (by simp));replace HK:=zqm (KeepBut.trans zq0 hk (.inl rfl));replace HB:=zqm (hb);replace a2:=zqm (hi);clear hb hk hi)|((with_reducible refine gate_callee (f:=91) rfl ?_);refine goesL_ (some 90) rfl rfl Try.func91 zqk rfl #[.pointer (some ⟨g,0,none⟩),.int .i64 4] rfl zq5 ?_;(with_reducible refine(spec_l20Rd_pick.calls d4 g s0_0 e3 4 e0 g0 w0 _ ?side1 ?side2 r4.out).mono ?_);(case side1=> exact zq1);(case side2=> exact zq3);rintro e b2x ⟨rfl,hi,hb,hk⟩;refine⟨_,rfl,?_⟩;replace HO_241000:=zqm (Kd.S_mono (Kd.S_keep (IsS110.apartS (show IsS110 w0 _ g s0_0 e3 from zq1) (zqfS HO_241000.out) (by decide)) hk (fun _ h=>h.2)) (fun _ h=>h.1));replace HO_241001:=zqm (Kd.Q_mono (Kd.Q_keep (IsS110.apartQ (show IsS110 w0 _ g s0_0 e3 from zq1) (zqfQ HO_241001.out) (by decide)) hk (fun _ h=>h.2)) (fun _ h=>h.1));replace a4:=zqm (KeepBut.blk hk (g':=b1) (o:= .cells #[.slice none 0 0,.slice none 0 0] 26 (0,0)) (zqe a4.out) c7.out (by simp));replace a0:=zqm (KeepBut.blk hk (g':=a8) (o:= .cells #[b8,b9] 26 (0,0)) (zqe a0.out) c2.out (by simp));replace HK:=zqm (KeepBut.trans zq0 hk (.inl rfl));replace HB:=zqm (hb);replace a2:=zqm (hi);clear hb hk hi)));replace HO_241000:=zqm (Kd.S_drew HO_241000.out);replace HO_241001:=zqm (Kd.Q_drew HO_241001.out);replace a4:=zqm (blk_drew a4.out);replace a0:=zqm (blk_drew a0.out);replace a2:=zqm (IsS110.drew a2.out);replace HK:=zqm (keep_drew HK.out);replace HB:=zqm (below_drew1 HB.out);obtain⟨u5,h0,a3m,_⟩:=Kd.Q_slice HO_241001.out
              (first|subst a3m|(injection a3m with f1_ f2_ f3_;have f4_:=f1_.symm;have f5_:=f3_.symm;clear f1_ f2_ f3_;subst f4_;subst f5_));refine start_ (n:=15) (S:=fun w'=>w'.cell? ⟨a8,0,none⟩=some (b8)∧w'.cell? ⟨a8,1,none⟩=some (.slice u5 a5.length h0)) (ds:= [14]) (zqb 15 0) zqk rfl rfl ⟨(blk_cell a0.out 0).trans rfl,(blk_cell a0.out 1).trans rfl⟩ (fun hHeld=>?_);refine with_tabW spec_l20Logic.tab39 spec_l20Logic.bits39 (fun HT_ HW_=>?_);generalize b2x.drew=c0u at HO_241000 HO_241001 a4 a0 a2 HK HB hHeld ⊢;refine zqp 0 111 (zqb 15 1) HT_ ?_;refine zqp 2 113 (zqb 15 5) HT_ ?_;refine zqp 3 114 (zqb 15 13) HT_ ?_;refine zqp 7 118 (zqb 15 141) HT_ ?_;refine zqp 8 119 (zqb 15 397) HT_ ?_;refine zqw 1 112 (zqb 15 399) HT_ HW_ hHeld ?_;refine zqw 4 115 (zqb 15 415) HT_ HW_ hHeld ?_;refine zqp 5 116 (zqb 15 447) HT_ ?_;refine zqw 9 120 (zqb 15 959) HT_ HW_ hHeld ?_;refine zqp 10 121 (zqb 15 1983) HT_ ?_;refine zqp 11 122 (zqb 15 4031) HT_ ?_;refine one_ (i:=6) (N:=some 117) (zqb 15 4095) rfl rfl (one_of HT_.out zqk) (by decide) (fun K hK=>?_);refine goes_ Try.func91 zqk rfl #[.pointer (some ⟨g,0,none⟩),.int .i64 (a5.length:Int)] (by rfl) rfl rfl zq5 ?_;(with_reducible refine(spec_l20Rd_pick.calls d4 g s0_0 g0 (a5.length:Int) d3 t2 w0 _ ?side1 ?side2 a7p.out).mono ?_);(case side1=> exact zq1);(case side2=> exact zq3);rintro e c0v ⟨rfl,hi,hb,hk⟩;refine⟨_,rfl,?_⟩;replace HO_241000:=zqm (Kd.S_mono (Kd.S_keep (IsS110.apartS (show IsS110 w0 _ g s0_0 g0 from zq1) (zqfS HO_241000.out) (by decide)) hk (fun _ h=>h.2)) (fun _ h=>h.1));replace HO_241001:=zqm (Kd.Q_mono (Kd.Q_keep (IsS110.apartQ (show IsS110 w0 _ g s0_0 g0 from zq1) (zqfQ HO_241001.out) (by decide)) hk (fun _ h=>h.2)) (fun _ h=>h.1));replace a4:=zqm (KeepBut.blk hk (g':=b1) (o:= .cells #[.slice none 0 0,.slice none 0 0] 26 (0,0)) (zqe a4.out) c7.out (by simp));replace a0:=zqm (KeepBut.blk hk (g':=a8) (o:= .cells #[b8,.slice u5 a5.length h0] 26 (0,0)) (zqe a0.out) c2.out (by simp));replace HK:=zqm (KeepBut.trans zq0 hk (.inl rfl));replace HB:=zqm (hb);replace a2:=zqm (hi);clear hb hk hi;refine hK.out _ _ ⟨(blk_cell a0.out 0).trans rfl,(blk_cell a0.out 1).trans rfl⟩ (fun hHeld=>?_);clear hK K;refine norm_ (a':=?_) ?_ ?_;rotate_left
              ·show Act.put _ (some 117) _=_;exact zqs
              refine one_ (i:=12) (N:=some 123) (zqb 15 8191) rfl rfl (one_of HT_.out zqk) (by decide) (fun K hK=>?_);refine goes_ Try.func91 zqk rfl #[.pointer (some ⟨g,0,none⟩),.int .i64 (wrap64 ((a5.length:Int)+1))] (by rfl) rfl rfl zq5 ?_;(with_reducible refine(spec_l20Rd_pick.calls d4 g s0_0 t2 (wrap64 ((a5.length:Int)+1)) g9 a0j w0 _ ?side1 ?side2 a7q.out).mono ?_);(case side1=> exact zq1);(case side2=> exact zq3);rintro e l3 ⟨rfl,hi,hb,hk⟩;refine⟨_,rfl,?_⟩;replace HO_241000:=zqm (Kd.S_mono (Kd.S_keep (IsS110.apartS (show IsS110 w0 _ g s0_0 t2 from zq1) (zqfS HO_241000.out) (by decide)) hk (fun _ h=>h.2)) (fun _ h=>h.1));replace HO_241001:=zqm (Kd.Q_mono (Kd.Q_keep (IsS110.apartQ (show IsS110 w0 _ g s0_0 t2 from zq1) (zqfQ HO_241001.out) (by decide)) hk (fun _ h=>h.2)) (fun _ h=>h.1));replace a4:=zqm (KeepBut.blk hk (g':=b1) (o:= .cells #[.slice none 0 0,.slice none 0 0] 26 (0,0)) (zqe a4.out) c7.out (by simp));replace a0:=zqm (KeepBut.blk hk (g':=a8) (o:= .cells #[b8,.slice u5 a5.length h0] 26 (0,0)) (zqe a0.out) c2.out (by simp));replace HK:=zqm (KeepBut.trans zq0 hk (.inl rfl));replace HB:=zqm (hb);replace a2:=zqm (hi);clear hb hk hi;have a1f:0≤(d3:Int):=zqo;have a1l:(d3:Int)<((a5.length:Int):Int):=zqo;obtain⟨d9,e5,b8c,a3l,a3q,a6z,b7z,a2e⟩:=Kd.Q_form HO_241001.out (by omega);(first|cases a3l|(injection a3l with ea_ en_ ec_;(first|subst ea_|(injection ea_ with ea_;subst ea_));subst ec_;clear en_));have GB182:=zqm a3q;have GG182:=zqm a2e;clear a3q a6z a2e;obtain⟨b4b,b3m⟩:=Kd.Q_cell 0 HO_241001.out (d3:Int) a1f a1l;replace a1f:=eq_true a1f;replace a1l:=eq_true a1l;have HN0_go182:=zqm (show g≠d9 from by have h_:=IsS110.own_neQ a2.out HO_241001.out (by decide);intro e_;exact h_ (by rw [e_];rfl));have HP189:=(Kd.Q_putg HO_241001.out (d3:Int) (zqo) (by have h_:(d3:Int)<((a5.length:Int):Int):=zqo;first|exact h_|(have e_:=(Kd.Q_reads' HO_241001.out).1;omega)|simpa using h_) g9).1;rw [← a5r.out] at HP189;have HQ189:=zqm HP189;clear HP189;refine hK.out _ _ ⟨(blk_cell a0.out 0).trans rfl,(blk_cell a0.out 1).trans rfl⟩ (fun hHeld=>?_);clear hK K;refine norm_ (a':=?_) ?_ ?_;rotate_left
              ·show Act.put _ (some 123) _=_;exact zqs
              refine zqp 13 124 (zqb 15 16383) HT_ ?_;refine last_ (i:=14) (N:=none) (zqb 15 32767) rfl rfl (one_of HT_.out zqk) (by decide) (fun K hK=>?_);refine skip_ (w1:=?_) (by rfl) rfl ?_ ?_;rotate_left
              ·go_simp;rfl
              refine hK.out _ _ ?_;clear hK K;refine done_ (done_of HT_.out zqk) ?_;have c8:Aside0 (Kd.S (Kd.slice 3 (Kd.int .i64)) 24 (l3.setCell ⟨d9,e5+(d3:Int).toNat,none⟩ (.int .i64 g9)) w.heap.size (fun k_=>some k_≠(.slice (some ⟨d9,e5,none⟩) a5.length h0:Value).ownBlock) b8 a3):=⟨by refine zqfS ?_;exact Kd.S_mono (Kd.S_far (p:=⟨d9,e5+(d3:Int).toNat,none⟩) (Kd.S_mono HO_241000.out (fun k_ hk=>(⟨hk,fun e_=>hk (by rw [e_];rfl)⟩:_∧k_≠d9))) (fun _ hk=>hk.2) (.int .i64 g9)) (fun _ hk=>hk.1)⟩;have d0:Aside0 (Kd.Q (Kd.int .i64) 3 (l3.setCell ⟨d9,e5+(d3:Int).toNat,none⟩ (.int .i64 g9)) w.heap.size (fun _=>True) (.slice (some ⟨d9,e5,none⟩) a5.length h0) a5h):=⟨zqfQ HQ189.out⟩;have e6:Aside0 ((l3.setCell ⟨d9,e5+(d3:Int).toNat,none⟩ (.int .i64 g9)).heap[b1]? =some (.cells #[.slice none 0 0,.slice none 0 0] 26 (0,0))):=⟨by refine zqe ?_;refine blk_far ?_ (by have h_:=Kd.Q_ne HO_241001.out a4.out (by decide);intro e_;exact h_ (by rw [e_];rfl)) _;refine zqe ?_;exact a4.out⟩;have f9:Aside0 ((l3.setCell ⟨d9,e5+(d3:Int).toNat,none⟩ (.int .i64 g9)).heap[a8]? =some (.cells #[b8,.slice (some ⟨d9,e5,none⟩) a5.length h0] 26 (0,0))):=⟨by refine zqe ?_;refine blk_far ?_ (by have h_:=Kd.Q_ne HO_241001.out a0.out (by decide);intro e_;exact h_ (by rw [e_];rfl)) _;refine zqe ?_;exact a0.out⟩;have d6:Aside0 (IsS110 w0 (l3.setCell ⟨d9,e5+(d3:Int).toNat,none⟩ (.int .i64 g9)) g s0_0 a0j):=⟨by repeat(first|(with_reducible first|exact a2.out|apply IsS110.alloc|apply IsS110.drewN|apply IsS110.drew|apply IsS110.set_1|refine IsS110.far ?_ HN0_go182.out _|refine IsS110.far ?_ a7.out _|refine IsS110.far ?_ a6.out _)|exact a2.out)⟩;have k6:Aside0 (KeepBut w (l3.setCell ⟨d9,e5+(d3:Int).toNat,none⟩ (.int .i64 g9)) g none):=⟨by repeat(first|(with_reducible first|exact HK.out|apply KeepBut.set_|apply keep_drewN|apply keep_drew|apply keep_alloc|refine keep_far ?_ GB182.out _|refine keep_far ?_ a9.out _|refine keep_far ?_ b0.out _)|exact HK.out)⟩;have g8:Aside0 (Below w0.heap.size w0 (l3.setCell ⟨d9,e5+(d3:Int).toNat,none⟩ (.int .i64 g9))):=⟨by repeat(first|(with_reducible first|exact HB.out|apply below_alloc|apply pw_below_drewN|apply below_drew1|refine below_set ?_ (Nat.le_trans HL.out GB182.out)|refine below_set ?_ (IsS110.ge a2.out)|refine below_set ?_ b4.out|refine below_set ?_ b5.out)|exact HB.out)⟩;generalize (l3.setCell ⟨d9,e5+(d3:Int).toNat,none⟩ (.int .i64 g9))=a0k at c8 d0 e6 f9 d6 k6 g8 ⊢;have HO_241000:=c8;have HO_241001:=d0;have a4:=e6;have a0:=f9;have a2:=d6;have HK:=k6;have HB:=g8;clear c8 d0 e6 f9 d6 k6 g8;have b6g:=c6.out;have b7e:=b3.out;have b6h:=c2.out;have b7f:=a6.out;have b1d:a0k.cell? ⟨a8,0,none⟩=some (b8):=(blk_cell a0.out 0).trans rfl;have b1e:a0k.cell? ⟨a8,1,none⟩=some (.slice (some ⟨d9,e5,none⟩) a5.length h0):=(blk_cell a0.out 1).trans rfl;have b2j:=blk_frozen a0.out 0;have b2k:=blk_frozen a0.out 1;obtain⟨q0,q8,a6s⟩:=Kd.S_slice HO_241000.out;subst a6s;have b6i:=c7.out;have b7g:=a7.out;have b1f:a0k.cell? ⟨b1,0,none⟩=some (.slice none 0 0):=(blk_cell a4.out 0).trans rfl;have b1g:a0k.cell? ⟨b1,1,none⟩=some (.slice none 0 0):=(blk_cell a4.out 1).trans rfl;have b2l:=blk_frozen a4.out 0;have b2m:=blk_frozen a4.out 1;(try go_wp2);refine bodyPost_ret (results_cell_row rfl _ _ b1 26 #[.slice q0 a3.length q8,.slice (some ⟨d9,e5,none⟩) a5.length h0] (0,0) _ rfl (by refine zqe ?_;refine blk_put (cs:= #[.slice q0 a3.length q8,.slice none 0 0]) ?_ 1 _ rfl;refine zqe ?_;refine blk_put (cs:= #[.slice none 0 0,.slice none 0 0]) ?_ 0 _ rfl;refine zqe ?_;exact a4.out) Try.underlying26 rfl zqk) rfl ?_;exact⟨_,_,zq13,by refine zqfS ?_;exact Kd.S_mono (Kd.S_far (p:=⟨b1,1,none⟩) (Kd.S_far (p:=⟨b1,0,none⟩) (Kd.S_types HO_241000.out a4.out (by decide)) (fun _ hk=>hk.2) (.slice q0 a3.length q8)) (fun _ hk=>hk.2) (.slice (some ⟨d9,e5,none⟩) a5.length h0)) (fun _ hk=>hk.1),by refine zqfQ ?_;exact Kd.Q_mono (Kd.Q_far (p:=⟨b1,1,none⟩) (Kd.Q_far (p:=⟨b1,0,none⟩) (Kd.Q_types HO_241001.out a4.out (by decide)) (fun _ hk=>hk.2) (.slice q0 a3.length q8)) (fun _ hk=>hk.2) (.slice (some ⟨d9,e5,none⟩) a5.length h0)) (fun _ hk=>trivial),zq1,zq3,zq0⟩
             ·rw [if_neg x1] at H;exact absurd H (by simp)
            ·rw [if_neg x0] at H;exact absurd H (by simp)
           ·rw [if_neg l9] at H;have a4s:(e0==2)=false:=beq_eq_false_iff_ne.mpr l9;have a4t:(e0 !=2)=true:=bne_iff_ne.mpr l9;obtain⟨c9,i5⟩: ∃j_:Int,(wrap64 ((a3.length:Int) - 1))=j_:=⟨_,rfl⟩;(replace H:(if 0≤(c9) then(if(c9)<(a3.length:Int) then(if 0<((rd_L2 a3 (c9)).length:Int) then(some ((a3.set ((c9):Int).toNat ((rd_L2 a3 (c9)).set (0:Int).toNat 1)),a5,g0)) else(none)) else(none)) else(none))=some (r1,r2,r3):=by first|(rw [i5] at H;exact H)|(simp only [i5] at H ⊢;exact H));(try rw [i5] at o2);(try rw [i5] at r4);have b3y:(IntKind.i64.wrap ((a3.length:Int) - 1))=c9:=(i64_w _).trans i5
            by_cases x2:0≤(c9)
            ·rw [if_pos x2] at H;have b5g:decide (0≤(c9))=true:=decide_eq_true x2;clear x2
             by_cases x3:(c9)<(a3.length:Int)
             ·rw [if_pos x3] at H;have b5h:decide ((c9)<(a3.length:Int))=true:=decide_eq_true x3;clear x3
              by_cases x4:0<((rd_L2 a3 (c9)).length:Int)
              ·rw [if_pos x4] at H;have b5i:decide (0<((rd_L2 a3 (c9)).length:Int))=true:=decide_eq_true x4;have b5j:decide (0<(rd_L2 a3 (c9)).length)=true:=decide_eq_true (by omega);clear x4;obtain⟨a1t,z3⟩: ∃y_:List Int,y_=((rd_L2 a3 (c9)).set (0:Int).toNat 1):=⟨_,rfl⟩;replace H:(some ((a3.set ((c9):Int).toNat a1t),a5,g0))=some (r1,r2,r3):=zqy z3 H;have a5s:=zqm z3;clear z3;obtain⟨a5i,z4⟩: ∃y_:List (List Int),y_=(a3.set ((c9):Int).toNat a1t):=⟨_,rfl⟩;replace H:(some (a5i,a5,g0))=some (r1,r2,r3):=zqy z4 H;have a5t:=zqm z4;clear z4;simp only [Option.some.injEq,Prod.mk.injEq] at H;obtain⟨rfl,rfl,rfl⟩:=H
               go_wp2_with (first|((with_reducible refine gate_callee (f:=131) rfl ?_);refine goesL_ (some 88) rfl rfl Try.func131 zqk rfl #[.pointer (some ⟨g,0,none⟩),.int .i64 a1] rfl zq5 ?_;(with_reducible refine(spec_l20Rd_odd.calls d4 g s0_0 e2 a1 true e3 w0 _ ?side1 ?side2 o2.out).mono ?_);(case side1=> exact zq1);(case side2=> exact zq3);rintro e c0w ⟨rfl,hi,hb,hk⟩;refine⟨_,rfl,?_⟩;replace HO_241000:=zqm (Kd.S_mono (Kd.S_keep (IsS110.apartS (show IsS110 w0 _ g s0_0 e2 from zq1) (zqfS HO_241000.out) (by decide)) hk (fun _ h=>h.2)) (fun _ h=>h.1));replace HO_241001:=zqm (Kd.Q_mono (Kd.Q_keep (IsS110.apartQ (show IsS110 w0 _ g s0_0 e2 from zq1) (zqfQ HO_241001.out) (by decide)) hk (fun _ h=>h.2)) (fun _ h=>h.1));replace a4:=zqm (KeepBut.blk hk (g':=b1) (o:= .cells #[.slice none 0 0,.slice none 0 0] 26 (0,0)) (zqe a4.out) c7.out (by simp));replace a0:=zqm (KeepBut.blk hk (g':=a8) (o:= .cells #[b8,b9] 26 (0,0)) (zqe a0.out) c2.out (by simp));replace HK:=zqm (KeepBut.trans zq0 hk (.inl rfl));replace HB:=zqm (hb);replace a2:=zqm (hi);clear hb hk hi)|((with_reducible refine gate_callee (f:=91) rfl ?_);refine goesL_ (some 90) rfl rfl Try.func91 zqk rfl #[.pointer (some ⟨g,0,none⟩),.int .i64 4] rfl zq5 ?_;(with_reducible refine(spec_l20Rd_pick.calls d4 g s0_0 e3 4 e0 g0 w0 _ ?side1 ?side2 r4.out).mono ?_);(case side1=> exact zq1);(case side2=> exact zq3);rintro e a0l ⟨rfl,hi,hb,hk⟩;refine⟨_,rfl,?_⟩;replace HO_241000:=zqm (Kd.S_mono (Kd.S_keep (IsS110.apartS (show IsS110 w0 _ g s0_0 e3 from zq1) (zqfS HO_241000.out) (by decide)) hk (fun _ h=>h.2)) (fun _ h=>h.1));replace HO_241001:=zqm (Kd.Q_mono (Kd.Q_keep (IsS110.apartQ (show IsS110 w0 _ g s0_0 e3 from zq1) (zqfQ HO_241001.out) (by decide)) hk (fun _ h=>h.2)) (fun _ h=>h.1));replace a4:=zqm (KeepBut.blk hk (g':=b1) (o:= .cells #[.slice none 0 0,.slice none 0 0] 26 (0,0)) (zqe a4.out) c7.out (by simp));replace a0:=zqm (KeepBut.blk hk (g':=a8) (o:= .cells #[b8,b9] 26 (0,0)) (zqe a0.out) c2.out (by simp));replace HK:=zqm (KeepBut.trans zq0 hk (.inl rfl));replace HB:=zqm (hb);replace a2:=zqm (hi);clear hb hk hi;have b6j:=c6.out;have b7h:=b3.out;have b6k:=c2.out;have b7i:=a6.out;have b1h:a0l.cell? ⟨a8,0,none⟩=some (b8):=(blk_cell a0.out 0).trans rfl;have b1i:a0l.cell? ⟨a8,1,none⟩=some (b9):=(blk_cell a0.out 1).trans rfl;have b2n:=blk_frozen a0.out 0;have b2o:=blk_frozen a0.out 1;obtain⟨b7q,j9,a6t⟩:=Kd.S_slice HO_241000.out;subst a6t;have z5:0≤((c9):Int):=zqo;have z6:(c9)<(a3.length:Int):=zqo;obtain⟨j7,b4j,a4u,a9g,u0,t8,t7⟩:=at_L2 (Kd.S_reads' HO_241000.out).2.2 (c9) z5 z6;cases a9g;obtain⟨b7w,a4w,a4v,a0o⟩:=Kd.S_get HO_241000.out [] (c9) z5 (by first|exact z6|exact zqo|(have e_:=(Kd.S_reads' HO_241000.out).1;omega));obtain⟨b4d,rfl,o6⟩:=a4v;have i6:=a0o 0 _ rfl;rw [Nat.add_zero,show ((Kd.slice 3 (Kd.int .i64))).sz=1 from rfl,Nat.mul_one] at i6;replace i6:=Option.some.inj (i6.symm.trans u0);rw [i6] at o6;have g1:=zqm (show Kd.R (Kd.int .i64) 3 _ _ _ _ (rd_L2 a3 (c9)) from o6);clear i6 o6;have HX378_0:=zqm u0;clear a0o a4w;have b2z:=zqm t7;have b2y:=zqm t8;clear t7 t8;replace z5:=eq_true z5;replace z6:=eq_true z6;have a1g:0≤(0:Int):=(by omega);have a1m:(0:Int)<(((rd_L2 a3 (c9)).length:Int):Int):=zqo;have b8y:(0<(rd_L2 a3 (c9)).length)=True:=eq_true (by omega);obtain⟨y5,b8d,a3n,a3r,a7a,b8a,a2f⟩:=Kd.R_form g1.out (by omega);(first|cases a3n|(injection a3n with ea_ en_ ec_;(first|subst ea_|(injection ea_ with ea_;subst ea_));subst ec_;clear en_));have GB201:=zqm a3r;have GG201:=zqm a2f;clear a3r a7a a2f;obtain⟨t9,t6⟩:=Kd.R_celln 0 g1.out (0:Int) a1g a1m;(try rw [show ((0:Int)).toNat=0 from rfl] at t9);(try simp only [Nat.reduceMul,Nat.zero_mul,Nat.zero_add,Nat.reduceAdd] at t9);(try rw [show ((0:Int)).toNat=0 from rfl] at t6);(try simp only [Nat.reduceMul,Nat.zero_mul,Nat.zero_add,Nat.reduceAdd] at t6);replace a1g:=eq_true a1g;replace a1m:=eq_true a1m;have hq208:((c9):Int)<(a3.length:Int):=(by have h_:((c9):Int)<((a3.length:Int):Int):=zqo;first|exact h_|(have e_:=(Kd.S_reads' HO_241000.out).1;omega)|simpa only [List.length_set,List.length_set] using h_);obtain⟨oki208,b7v,hcl208,hM208,a0n,hok208,hbk208⟩:=Kd.S_borrow HO_241000.out [] ((c9):Int) (zqo) hq208;obtain⟨b4c,rfl,l5⟩:=hM208;have r0:=a0n 0 _ rfl;rw [Nat.add_zero,show ((Kd.slice 3 (Kd.int .i64))).sz=1 from rfl,Nat.mul_one] at r0;replace r0:=Option.some.inj (r0.symm.trans HX378_0.out);subst r0;clear a0n hcl208;replace l5:=(show Kd.R (Kd.int .i64) 3 _ _ _ _ (rd_L2 a3 (c9)) from l5);have HP208:=Kd.R_putg l5 (0:Int) 1)|((with_reducible refine gate_store (t:=3) (p:=99) rfl ?_);refine store_event (t:=3) (p:=99) (v:=?vo_w209) (w1:=(a0l.setCell ⟨y5,0,none⟩ (.int .i64 1))) ?hg ?ho ?hn ?hr ?_;(case ho=>rfl);(case hg=>rfl);(case hn=>rfl);(case hr=> exact zq9);intro l4 hw;have hg:a0l.grownBy l4 (some y5):=(by rw [hw];exact HP208.2);have hz_:Kd.R (Kd.int .i64) 3 l4 w.heap.size oki208 (.slice (some ⟨y5,0,none⟩) (rd_L2 a3 (c9)).length a4u) a1t:=(by rw [hw,a5s.out];exact HP208.1);have hp_:Kd.S (Kd.slice 3 (Kd.int .i64)) 24 l4 w.heap.size (fun k_=>some k_≠(b9:Value).ownBlock) (.slice (some j7) a3.length j9) a5i:=(by rw [a5t.out];exact hbk208 hg (fun k_ e_=>by injection e_ with e_;subst e_;exact l5.1 _ rfl) (Kd.M_row hz_));have hm_:=Kd.R_mono hz_ hok208;clear HP208 hbk208;replace HO_241000:=zqm (hp_);replace HO_241001:=zqm (Kd.Q_grown1 (zqfQ HO_241001.out) rfl hg ((g1.out.1 _ rfl).1));replace a4:=zqm (blk_grown (g:=b1) (o:= .cells #[.slice none 0 0,.slice none 0 0] 26 (0,0)) (zqe a4.out) hg (Kd.R_ne g1.out a4.out (by decide)));replace a0:=zqm (blk_grown (g:=a8) (o:= .cells #[.slice (some j7) a3.length j9,b9] 26 (0,0)) (zqe a0.out) hg (Kd.R_ne g1.out a0.out (by decide)));replace a2:=zqm (IsS110.grown zq1 hg (IsS110.own_ne a2.out g1.out (by decide)));replace HB:=zqm ((by rw [hw];exact below_set (HB.out) (Nat.le_trans HL.out GB201.out):Below w0.heap.size w0 l4));replace HK:=zqm (KeepBut.trans zq0 (KeepBut.of_grown hg g) (Kd.R_base2 g1.out));have b7t:=zqm (hm_);have b7r:=zqm ((Kd.R_reads' hm_).2.1);clear g1;clear hg hw hp_ hz_ hm_ hok208;have b1j:l4.cell? ⟨a8,0,none⟩=some (.slice (some j7) a3.length j9):=(blk_cell a0.out 0).trans rfl;have b1k:l4.cell? ⟨a8,1,none⟩=some (b9):=(blk_cell a0.out 1).trans rfl;have b2p:=blk_frozen a0.out 0;have b2q:=blk_frozen a0.out 1;have b6l:=c7.out;have b7j:=a7.out;have b1l:l4.cell? ⟨b1,0,none⟩=some (.slice none 0 0):=(blk_cell a4.out 0).trans rfl;have b1m:l4.cell? ⟨b1,1,none⟩=some (.slice none 0 0):=(blk_cell a4.out 1).trans rfl;have b2r:=blk_frozen a4.out 0;have b2s:=blk_frozen a4.out 1;obtain⟨u7,x9,a6u,_⟩:=Kd.Q_slice HO_241001.out;subst a6u))
               refine bodyPost_ret (results_cell_row rfl _ _ b1 26 #[.slice (some j7) a3.length j9,.slice u7 a5.length x9] (0,0) _ rfl (by refine zqe ?_;refine blk_put (cs:= #[.slice (some j7) a3.length j9,.slice none 0 0]) ?_ 1 _ rfl;refine zqe ?_;refine blk_put (cs:= #[.slice none 0 0,.slice none 0 0]) ?_ 0 _ rfl;refine zqe ?_;exact a4.out) Try.underlying26 rfl zqk) rfl ?_;exact⟨_,_,by first|rfl|(simp [errW_none,errW_some] <;> rfl)|(simp only [← i5];first|rfl|(simp [errW_none,errW_some] <;> rfl))|(simp [*,errW_none,errW_some] <;> rfl),by refine zqfS ?_;exact Kd.S_mono (Kd.S_far (p:=⟨b1,1,none⟩) (Kd.S_far (p:=⟨b1,0,none⟩) (Kd.S_types HO_241000.out a4.out (by decide)) (fun _ hk=>hk.2) (.slice (some j7) a3.length j9)) (fun _ hk=>hk.2) (.slice u7 a5.length x9)) (fun _ hk=>hk.1),by refine zqfQ ?_;exact Kd.Q_mono (Kd.Q_far (p:=⟨b1,1,none⟩) (Kd.Q_far (p:=⟨b1,0,none⟩) (Kd.Q_types HO_241001.out a4.out (by decide)) (fun _ hk=>hk.2) (.slice (some j7) a3.length j9)) (fun _ hk=>hk.2) (.slice u7 a5.length x9)) (fun _ hk=>trivial),zq1,zq3,zq0⟩
              ·rw [if_neg x4] at H;exact absurd H (by simp)
             ·rw [if_neg x3] at H;exact absurd H (by simp)
            ·rw [if_neg x2] at H;exact absurd H (by simp)
        ·replace w9:=Bool.eq_false_iff.mpr w9;subst w9;(have H1:(some (a3,a5,e3))=some (r1,r2,r3):=by rw [if_neg (show¬(false=true) by decide)] at H;exact H);clear H;have H:=H1;clear H1;simp only [Option.some.injEq,Prod.mk.injEq] at H;obtain⟨rfl,rfl,rfl⟩:=H
         go_wp2_with (first|((with_reducible refine gate_callee (f:=131) rfl ?_);refine goesL_ (some 88) rfl rfl Try.func131 zqk rfl #[.pointer (some ⟨g,0,none⟩),.int .i64 a1] rfl zq5 ?_;(with_reducible refine(spec_l20Rd_odd.calls d4 g s0_0 e2 a1 false e3 w0 _ ?side1 ?side2 o2.out).mono ?_);(case side1=> exact zq1);(case side2=> exact zq3);rintro e a0m ⟨rfl,hi,hb,hk⟩;refine⟨_,rfl,?_⟩;replace HO_241000:=zqm (Kd.S_mono (Kd.S_keep (IsS110.apartS (show IsS110 w0 _ g s0_0 e2 from zq1) (zqfS HO_241000.out) (by decide)) hk (fun _ h=>h.2)) (fun _ h=>h.1));replace HO_241001:=zqm (Kd.Q_mono (Kd.Q_keep (IsS110.apartQ (show IsS110 w0 _ g s0_0 e2 from zq1) (zqfQ HO_241001.out) (by decide)) hk (fun _ h=>h.2)) (fun _ h=>h.1));replace a4:=zqm (KeepBut.blk hk (g':=b1) (o:= .cells #[.slice none 0 0,.slice none 0 0] 26 (0,0)) (zqe a4.out) c7.out (by simp));replace a0:=zqm (KeepBut.blk hk (g':=a8) (o:= .cells #[b8,b9] 26 (0,0)) (zqe a0.out) c2.out (by simp));replace HK:=zqm (KeepBut.trans zq0 hk (.inl rfl));replace HB:=zqm (hb);replace a2:=zqm (hi);clear hb hk hi;have b6m:=c6.out;have b7k:=b3.out;have b6n:=c2.out;have b7l:=a6.out;have b1n:a0m.cell? ⟨a8,0,none⟩=some (b8):=(blk_cell a0.out 0).trans rfl;have b1o:a0m.cell? ⟨a8,1,none⟩=some (b9):=(blk_cell a0.out 1).trans rfl;have b2t:=blk_frozen a0.out 0;have b2u:=blk_frozen a0.out 1;obtain⟨q1,q9,a6v⟩:=Kd.S_slice HO_241000.out;subst a6v;have b6o:=c7.out;have b7m:=a7.out;have b1p:a0m.cell? ⟨b1,0,none⟩=some (.slice none 0 0):=(blk_cell a4.out 0).trans rfl;have b1q:a0m.cell? ⟨b1,1,none⟩=some (.slice none 0 0):=(blk_cell a4.out 1).trans rfl;have b2v:=blk_frozen a4.out 0;have b2w:=blk_frozen a4.out 1;obtain⟨u8,y0,a6w,_⟩:=Kd.Q_slice HO_241001.out;subst a6w))
         refine bodyPost_ret (results_cell_row rfl _ _ b1 26 #[.slice q1 a3.length q9,.slice u8 a5.length y0] (0,0) _ rfl (by refine zqe ?_;refine blk_put (cs:= #[.slice q1 a3.length q9,.slice none 0 0]) ?_ 1 _ rfl;refine zqe ?_;refine blk_put (cs:= #[.slice none 0 0,.slice none 0 0]) ?_ 0 _ rfl;refine zqe ?_;exact a4.out) Try.underlying26 rfl zqk) rfl ?_;exact⟨_,_,zq13,by refine zqfS ?_;exact Kd.S_mono (Kd.S_far (p:=⟨b1,1,none⟩) (Kd.S_far (p:=⟨b1,0,none⟩) (Kd.S_types HO_241000.out a4.out (by decide)) (fun _ hk=>hk.2) (.slice q1 a3.length q9)) (fun _ hk=>hk.2) (.slice u8 a5.length y0)) (fun _ hk=>hk.1),by refine zqfQ ?_;exact Kd.Q_mono (Kd.Q_far (p:=⟨b1,1,none⟩) (Kd.Q_far (p:=⟨b1,0,none⟩) (Kd.Q_types HO_241001.out a4.out (by decide)) (fun _ hk=>hk.2) (.slice q1 a3.length q9)) (fun _ hk=>hk.2) (.slice u8 a5.length y0)) (fun _ hk=>trivial),zq1,zq3,zq0⟩
end
section
attribute [local go_sem] max2_int min2_int max_two min_two max_three min_three max_four min_four
def spec_l20Open.f (l0 : List Int) : Option (List Int × Int) := if (l0.length : Int) > 2000 then (if 2000 ≤ (l0.length : Int) then (some (l0.take 2000, 0)) else (none)) else (some (l0, 0))
set_option maxHeartbeats 8000000 in
set_option maxRecDepth 100000 in
theorem spec_l20Open.calls (A0 : Option Addr) (c0 : Nat) (l0 : List Int) (r1 : List Int) (r2 : Int) (w0 w : World) (hB : Below w0.heap.size w0 w) (hr0 : Kd.C (Kd.int .u8) w0 A0 l0.length l0) (hc0 : l0.length ≤ c0) (h : spec_l20Open.f l0 = some (r1, r2)) :
  Calls Try.prog 69 #[.slice A0 l0.length c0] w fun e w' => ∃ g_ : Nat, e = .returned (.pointer (some ⟨g_, 0, none⟩)) ∧ IsS110 w0 w' g_ r1 r2 ∧ Below w0.heap.size w0 w' ∧ Below w.heap.size w w' := by
 have hu110:=Try.underlying110;have b1:=zqm hr0;have b5:=zqm hc0;clear hr0 hc0;have HBW:=zqm (Below.refl w.heap.size w);have b2:=zqm hB.size;have HB:=zqm hB;clear hB;have H:(if(l0.length:Int)>2000 then(if 2000≤(l0.length:Int) then(some (l0.take 2000,0)) else(none)) else(some (l0,0)))=some (r1,r2):=h;clear h
 by_cases c2:(l0.length:Int)>2000
 ·rw [if_pos c2] at H;have b3:decide (2000<(l0.length:Int))=true:=decide_eq_true c2;have b4:decide (2000<l0.length)=true:=decide_eq_true (by omega);clear c2
  by_cases c3:2000≤(l0.length:Int)
  ·rw [if_pos c3] at H;have b7:=eq_true c3;have b8:decide (2000≤(l0.length:Int))=true:=decide_eq_true c3;clear c3;simp only [Option.some.injEq,Prod.mk.injEq] at H;obtain⟨rfl,rfl⟩:=H;obtain⟨i04,a5,_,hsz4,_⟩:=info_parts info5;obtain⟨hcut4,hA4,hC4⟩:=print_take_of (P:=Try.prog) (Value.int .u8) 0 22 5 .i64 Try.underlying22 a5 hsz4 A0 c0 l0 2000 (by omega) (zqo) b5.out;have b0:=zqm (Kd.C_of_reads (h1:=fun _=>rfl) (hA4 _ (Kd.reads_of_C b1.out)));have b6:=zqm hC4;clear hA4 hC4 a5 hsz4
   go_enter Try.func69,Try.ntmps69
   go_wp2_with (first|((with_reducible refine gate_dst (N:=10) rfl ?_);refine box_event ?hg (N:=10) ?hd (cs:= #[.slice A0 (l0.take 2000).length c0,.int .i64 0]) (t:=110) ?hr ?_;(case hd=>rfl);(case hg=>rfl);(case hr=> exact zq9);intro a0 hg w5 hbox hb;have a2:=zqm (below_step HBW.out hb);replace HB:=zqm (below_step zq2 hb);have a6:=zqm (hbox);have a8:=zqm ((by rw [hg];exact(below_size zq82):w.heap.size≤a0));have a3:=zqm ((Nat.le_trans b2.out (by rw [hg];exact(below_size zq82):w.heap.size≤a0):w0.heap.size≤a0));clear HBW;have HBW:=a2;clear a2 hb hbox hg))
   go_ret
   exact⟨_,rfl,(show IsS110 w0 _ a0 (l0.take 2000) 0 from ⟨_,_,zqe a6.out,a3.out,b0.out⟩),zq28,by repeat(first|(with_reducible first|exact HBW.out|apply below_alloc|apply pw_below_drewN|apply below_drew1|refine below_set ?_ a8.out)|exact HBW.out)⟩
  ·rw [if_neg c3] at H;exact absurd H (by simp)
 ·rw [if_neg c2] at H;have b3:decide (2000<(l0.length:Int))=false:=decide_eq_false c2;have b4:decide (2000<l0.length)=false:=decide_eq_false (by omega);clear c2;simp only [Option.some.injEq,Prod.mk.injEq] at H;obtain⟨rfl,rfl⟩:=H
  go_enter Try.func69,Try.ntmps69
  go_wp2_with (first|((with_reducible refine gate_dst (N:=10) rfl ?_);refine box_event ?hg (N:=10) ?hd (cs:= #[.slice A0 l0.length c0,.int .i64 0]) (t:=110) ?hr ?_;(case hd=>rfl);(case hg=>rfl);(case hr=> exact zq9);intro a1 hg w6 hbox hb;have a2:=zqm (below_step HBW.out hb);replace HB:=zqm (below_step zq2 hb);have a7:=zqm (hbox);have a9:=zqm ((by rw [hg];exact(below_size zq82):w.heap.size≤a1));have a4:=zqm ((Nat.le_trans b2.out (by rw [hg];exact(below_size zq82):w.heap.size≤a1):w0.heap.size≤a1));clear HBW;have HBW:=a2;clear a2 hb hbox hg))
  go_ret
  exact⟨_,rfl,(show IsS110 w0 _ a1 l0 0 from ⟨_,_,zqe a7.out,a4.out,b1.out⟩),zq37,by repeat(first|(with_reducible first|exact HBW.out|apply below_alloc|apply pw_below_drewN|apply below_drew1|refine below_set ?_ a9.out)|exact HBW.out)⟩
end
section
attribute [local go_sem] max2_int min2_int max_two min_two max_three min_three max_four min_four
def spec_DrawStatesOf.f (k : Nat) (l0 : List Int) : Option ((List (List Int)) × List Int) := (spec_l20Open.f l0).bind fun bt989 => ((spec_l20Logic.f k bt989.1 bt989.2 9).bind fun bt992 => (some (bt992.1, bt992.2.1)))
set_option maxHeartbeats 8000000 in
set_option maxRecDepth 100000 in
theorem spec_DrawStatesOf.calls (k : Nat) (A0 : Option Addr) (c0 : Nat) (l0 : List Int) (r1 : List (List Int)) (r2 : List Int) (w : World) (hr0 : Kd.C (Kd.int .u8) w A0 l0.length l0) (hc0 : l0.length ≤ c0) (h : spec_DrawStatesOf.f k l0 = some (r1, r2)) :
  Calls Try.prog 48 #[.slice A0 l0.length c0] w fun e w' => ∃ v0_ v1_ : Value, e = .returned (.agg #[v0_, v1_]) ∧ Kd.S (Kd.slice 3 (Kd.int .i64)) 24 w' w.heap.size (fun k_ => some k_ ≠ (v1_ : Value).ownBlock) v0_ r1 ∧ Kd.Q (Kd.int .i64) 3 w' w.heap.size (fun _ => True) v1_ r2 ∧ Below w.heap.size w w' := by
 have hu26:=Try.underlying26;have c7:=zqm hr0;have c6:=zqm hc0;clear hr0 hc0;have HB:=zqm (Below.refl w.heap.size w);have H:((spec_l20Open.f l0).bind fun b7=>((spec_l20Logic.f k b7.1 b7.2 9).bind fun a4=>(some (a4.1,a4.2.1))))=some (r1,r2):=h;clear h;replace H:=Option.bind_eq_some_iff.mp H;obtain⟨⟨b2,b3⟩,b9,H⟩:=H;replace H:((spec_l20Logic.f k b2 b3 9).bind fun a4=>(some (a4.1,a4.2.1)))=some (r1,r2):=H;have A2:=zqm b9;clear b9;replace H:=Option.bind_eq_some_iff.mp H;obtain⟨⟨a5,a8,c5⟩,c1,H⟩:=H;replace H:(some (a5,a8))=some (r1,r2):=H;have A3:=zqm c1;clear c1;simp only [Option.some.injEq,Prod.mk.injEq] at H;obtain⟨rfl,rfl⟩:=H
 go_enter Try.func48,Try.ntmps48
 go_wp2_with (first|((with_reducible refine gate_dst (N:=2) rfl ?_);refine box_event ?hg (N:=2) ?hd (cs:= #[.slice none 0 0,.slice none 0 0]) (t:=26) ?hr ?_;(case hd=>rfl);(case hg=>rfl);(case hr=> exact zq9);intro a1 hg w4 hbox hb;have a9:=zqm (below_step zq2 hb);have a0:=zqm (hbox);have d3:=zqm ((by rw [hg];exact(below_size zq2):w.heap.size≤a1));have a3:=zqm ((by rw [hg];exact(below_size zq2):w.heap.size≤a1));clear HB;have HB:=a9;clear a9 hb hbox hg)|((with_reducible refine gate_callee (f:=69) rfl ?_);refine goesL_ (some 4) rfl rfl Try.func69 zqk rfl #[.slice A0 l0.length c0] rfl zq5 ?_;(with_reducible refine(spec_l20Open.calls _ _ l0 b2 b3 w _ ?side1 ?side2 ?side3 A2.out).mono ?_);(case side1=> exact zq28);(case side2=>exact c7.out);(case side3=>exact c6.out);rintro e w5 ⟨g991,rfl,hi,hb,hb2⟩;refine⟨_,rfl,?_⟩;have a9:=zqm (blk_below (g:=a1) (o:= .cells #[.slice none 0 0,.slice none 0 0] 26 (0,0)) (zqe a0.out) hb2);replace HB:=zqm (hb);have a2:=zqm (hi);have a7:=zqm (IsS110.ne_blk hi (blk_below (g:=a1) (o:= .cells #[.slice none 0 0,.slice none 0 0] 26 (0,0)) (zqe a0.out) hb2) (by decide));have a6:=zqm (Ne.symm (IsS110.ne_blk hi (blk_below (g:=a1) (o:= .cells #[.slice none 0 0,.slice none 0 0] 26 (0,0)) (zqe a0.out) hb2) (by decide)));clear a0;have a0:=a9;clear a9 hb hb2 hi)|((with_reducible refine gate_callee (f:=68) rfl ?_);refine goesL_ (some 5) rfl rfl Try.func68 zqk rfl #[.pointer (some ⟨g991,0,none⟩),.int .i64 9] rfl zq5 ?_;(with_reducible refine(spec_l20Logic.calls k g991 b2 b3 9 a5 a8 c5 w _ ?side1 ?side2 A3.out).mono ?_);(case side1=> exact zq60);(case side2=> exact zq51);rintro e w6 ⟨d6,d7,rfl,c2,c3,hi,hb,hk⟩;refine⟨_,rfl,?_⟩;replace a0:=zqm (KeepBut.blk hk (g':=a1) (o:= .cells #[.slice none 0 0,.slice none 0 0] 26 (0,0)) (zqe a0.out) a6.out (by simp));have b5:=zqm (Kd.S_lower c2 (below_size zq51));have b6:=zqm (Kd.Q_lower c3 (below_size zq51));replace HB:=zqm (hb);replace a2:=zqm (hi);clear hb hk hi c2 c3;obtain⟨b4,b8,c8⟩:=Kd.S_slice b5.out;subst c8;have d4:=a6.out;have d5:=a7.out;have c9:w6.cell? ⟨a1,0,none⟩=some (.slice none 0 0):=(blk_cell a0.out 0).trans rfl;have d0:w6.cell? ⟨a1,1,none⟩=some (.slice none 0 0):=(blk_cell a0.out 1).trans rfl;have d1:=blk_frozen a0.out 0;have d2:=blk_frozen a0.out 1;obtain⟨b0,b1,c4,_⟩:=Kd.Q_slice b6.out;subst c4))
 refine bodyPost_ret (results_cell_row rfl _ _ a1 26 #[.slice b4 a5.length b8,.slice b0 a8.length b1] (0,0) _ rfl (by refine zqe ?_;refine blk_put (cs:= #[.slice b4 a5.length b8,.slice none 0 0]) ?_ 1 _ rfl;refine zqe ?_;refine blk_put (cs:= #[.slice none 0 0,.slice none 0 0]) ?_ 0 _ rfl;refine zqe ?_;exact a0.out) Try.underlying26 rfl zqk) rfl ?_;exact⟨_,_,zq13,by refine zqfS ?_;exact Kd.S_mono (Kd.S_far (p:=⟨a1,1,none⟩) (Kd.S_far (p:=⟨a1,0,none⟩) (Kd.S_types b5.out a0.out (by decide)) (fun _ hk=>hk.2) (.slice b4 a5.length b8)) (fun _ hk=>hk.2) (.slice b0 a8.length b1)) (fun _ hk=>hk.1),by refine zqfQ ?_;exact Kd.Q_mono (Kd.Q_far (p:=⟨a1,1,none⟩) (Kd.Q_far (p:=⟨a1,0,none⟩) (Kd.Q_types b6.out a0.out (by decide)) (fun _ hk=>hk.2) (.slice b4 a5.length b8)) (fun _ hk=>hk.2) (.slice b0 a8.length b1)) (fun _ hk=>trivial),zq51⟩
end
end Go.Proofs.Ytcbjpdaogicibaa.Print
end
section
namespace Oml
section
universe u
structure OL (α : Type u) where
 le:α→α→Prop
 meet:α→α→α
 join:α→α→α
 neg:α→α
 bot:α
 le_refl: ∀a,le a a
 le_antisymm: ∀a b,le a b→le b a→a=b
 le_trans: ∀a b c,le a b→le b c→le a c
 meet_l: ∀a b,le (meet a b) a
 meet_r: ∀a b,le (meet a b) b
 le_meet: ∀a b c,le c a→le c b→le c (meet a b)
 join_l: ∀a b,le a (join a b)
 join_r: ∀a b,le b (join a b)
 join_le: ∀a b c,le a c→le b c→le (join a b) c
 neg_neg: ∀a,neg (neg a)=a
 neg_anti: ∀a b,le a b→le (neg b) (neg a)
 meet_neg: ∀a,meet a (neg a)=bot
 bot_le: ∀a,le bot a
namespace OL
variable {α : Type u} (L : OL α)
def top : α := L.neg L.bot
theorem le_top (a : α) : L.le a L.top := by
 have h := L.neg_anti _ _ (L.bot_le (L.neg a))
 rw [L.neg_neg] at h
 exact h
theorem neg_le_iff (a b : α) : L.le (L.neg a) b ↔ L.le (L.neg b) a := by
 constructor <;> intro h
 ·have:=L.neg_anti _ _ h;rwa [L.neg_neg] at this
 ·have:=L.neg_anti _ _ h;rwa [L.neg_neg] at this
theorem meet_comm (a b : α) : L.meet a b = L.meet b a :=
 L.le_antisymm _ _ (L.le_meet _ _ _ (L.meet_r _ _) (L.meet_l _ _)) (L.le_meet _ _ _ (L.meet_r _ _) (L.meet_l _ _))
theorem join_comm (a b : α) : L.join a b = L.join b a :=
 L.le_antisymm _ _ (L.join_le _ _ _ (L.join_r _ _) (L.join_l _ _)) (L.join_le _ _ _ (L.join_r _ _) (L.join_l _ _))
theorem le_join_l {a b c : α} (h : L.le c a) : L.le c (L.join a b) := L.le_trans _ _ _ h (L.join_l _ _)
theorem le_join_r {a b c : α} (h : L.le c b) : L.le c (L.join a b) := L.le_trans _ _ _ h (L.join_r _ _)
theorem meet_eq_l (a b : α) : L.meet a b = a ↔ L.le a b := by
 constructor
 ·intro h; rw [← h]; exact L.meet_r _ _
 ·intro h; exact L.le_antisymm _ _ (L.meet_l _ _) (L.le_meet _ _ _ (L.le_refl _) h)
theorem meet_eq_r (a b : α) : L.meet a b = b ↔ L.le b a := by rw [L.meet_comm]; exact L.meet_eq_l b a
theorem join_eq_r (a b : α) : L.join a b = b ↔ L.le a b := by
 constructor
 ·intro h; rw [← h]; exact L.join_l _ _
 ·intro h; exact L.le_antisymm _ _ (L.join_le _ _ _ h (L.le_refl _)) (L.join_r _ _)
theorem join_self (a : α) : L.join a a = a := (L.join_eq_r a a).2 (L.le_refl _)
theorem neg_meet (a b : α) : L.neg (L.meet a b) = L.join (L.neg a) (L.neg b) := by
 apply L.le_antisymm
 ·rw [L.neg_le_iff]
  exact L.le_meet _ _ _ (by rw [L.neg_le_iff];exact L.join_l _ _) (by rw [L.neg_le_iff];exact L.join_r _ _)
 ·exact L.join_le _ _ _ (L.neg_anti _ _ (L.meet_l _ _)) (L.neg_anti _ _ (L.meet_r _ _))
theorem join_neg (a : α) : L.join a (L.neg a) = L.top := by
 have := L.neg_meet a (L.neg a)
 rw [L.meet_neg, L.neg_neg, L.join_comm] at this
 exact this.symm
theorem neg_top : L.neg L.top = L.bot := L.neg_neg _
theorem meet_top (a : α) : L.meet a L.top = a := (L.meet_eq_l _ _).2 (L.le_top _)
theorem le_bot {a : α} (h : L.le a L.bot) : a = L.bot := L.le_antisymm _ _ h (L.bot_le _)
def Keeps : Prop := ∀ a b, L.le a b → L.join a (L.meet b (L.neg a)) = b
def C (a b : α) : Prop := L.join (L.meet a b) (L.meet a (L.neg b)) = a
def Split (a b c : α) : Prop := L.meet a (L.join b c) = L.join (L.meet a b) (L.meet a c)
def Boolean : Prop := ∀ a b c, L.Split a b c
def Modular : Prop := ∀ a b c, L.le a c → L.join a (L.meet b c) = L.meet c (L.join a b)
variable {L}
theorem Boolean.modular (B : L.Boolean) : L.Modular := by
 intro a b c h
 have := B c a b
 unfold Split at this
 rw [this, (L.meet_eq_r c a).2 h, L.meet_comm b c]
theorem Modular.keeps (M : L.Modular) : L.Keeps := by
 intro a b h
 have := M a (L.neg a) b h
 rw [L.join_neg, L.meet_top] at this
 rwa [L.meet_comm] at this
theorem Boolean.keeps (B : L.Boolean) : L.Keeps := B.modular.keeps
theorem Boolean.C (B : L.Boolean) (a b : α) : L.C a b := by
 have := B a b (L.neg b)
 unfold Split at this
 rw [L.join_neg, L.meet_top] at this
 exact this.symm
def lt (L : OL α) (a b : α) : Prop := L.le a b ∧ a ≠ b
structure High (L : OL α) (h : α → Nat) : Prop where
 mono : ∀ a b, L.le a b → a ≠ b → h a < h b
 step : ∀ a, h a ≠ 0 → ∃ b, L.le b a ∧ b ≠ a ∧ h b + 1 = h a
theorem High.eq {h : α → Nat} (H : L.High h) {a b : α} (k : L.le a b) (e : h b ≤ h a) : a = b := by
 apply Classical.byContradiction
 intro ne
 have := H.mono _ _ k ne
 omega
theorem High.bot_iff {h : α → Nat} (H : L.High h) (a : α) : h a = 0 ↔ a = L.bot := by
 constructor
 ·intro e
  exact(H.eq (L.bot_le a) (by omega)).symm
 ·rintro rfl
  apply Classical.byContradiction
  intro ne
  obtain⟨b,hb,hne,_⟩:=H.step _ ne
  exact hne (L.le_bot hb)
structure State (L : OL α) (s : α → Bool) : Prop where
 top : s L.top = true
 neg : ∀ a, s (L.neg a) = !s a
 join : ∀ a b, L.le a (L.neg b) → s (L.join a b) = (s a || s b) ∧ (s a && s b) = false
theorem State.bot {s : α → Bool} (S : L.State s) : s L.bot = false := by
 have := S.neg L.top; rw [L.neg_top, S.top] at this; exact this
theorem State.up (K : L.Keeps) {s : α → Bool} (S : L.State s) {a b : α} (h : L.le a b) (ha : s a = true) : s b = true := by
 have e:=K a b h
 have:=(S.join a (L.meet b (L.neg a)) (by rw [L.neg_meet,L.neg_neg];exact L.join_r _ _)).1
 rw [e,ha] at this
 simpa using this
def Atom (L : OL α) (p : α) : Prop := p ≠ L.bot ∧ ∀ b, L.le b p → b = L.bot ∨ b = p
theorem Boolean.atom_prime (B : L.Boolean) {p : α} (hp : L.Atom p) (a b : α) : L.le p (L.join a b) ↔ L.le p a ∨ L.le p b := by
 constructor
 ·intro h
  have e:=B p a b
  unfold Split at e
  rw [(L.meet_eq_l _ _).2 h] at e
  rcases hp.2 (L.meet p a) (L.meet_l _ _) with h1|h1
  ·rcases hp.2 (L.meet p b) (L.meet_l _ _) with h2|h2
   ·rw [h1,h2,L.join_self] at e;exact absurd e hp.1
   ·exact .inr ((L.meet_eq_l _ _).1 h2)
  ·exact .inl ((L.meet_eq_l _ _).1 h1)
 ·rintro (h|h)
  ·exact L.le_join_l h
  ·exact L.le_join_r h
theorem Boolean.atom_neg (B : L.Boolean) {p : α} (hp : L.Atom p) (a : α) : L.le p (L.neg a) ↔ ¬ L.le p a := by
 constructor
 ·intro h k
  have:=L.le_meet _ _ _ k h
  rw [L.meet_neg] at this
  exact hp.1 (L.le_bot this)
 ·intro h
  have:L.le p (L.join a (L.neg a)):=by rw [L.join_neg];exact L.le_top _
  rcases (B.atom_prime hp _ _).1 this with k|k
  ·exact absurd k h
  ·exact k
theorem Boolean.atom_state (B : L.Boolean) {p : α} (hp : L.Atom p) (s : α → Bool) (hs : ∀ a, s a = true ↔ L.le p a) : L.State s := by
 refine⟨(hs _).2 (L.le_top _),fun a=>?_,fun a b hab=>⟨?_,?_⟩⟩
 ·rw [Bool.eq_iff_iff,hs,B.atom_neg hp]
  rw [← hs a];cases s a <;> simp
 ·rw [Bool.eq_iff_iff,hs,B.atom_prime hp,← hs a,← hs b];simp
 ·rw [Bool.eq_false_iff]
  intro h
  simp only [Bool.and_eq_true] at h
  have h1:=(hs a).1 h.1
  have h2:=(hs b).1 h.2
  exact(B.atom_neg hp b).1 (L.le_trans _ _ _ h1 hab) h2
theorem Boolean.state_meet (B : L.Boolean) {s : α → Bool} (S : L.State s) {a b : α} (ha : s a = true) (hb : s b = true) : s (L.meet a b) = true := by
 have e:L.join (L.meet a b) (L.meet a (L.neg b))=a:=B.C a b
 have j:=(S.join (L.meet a b) (L.meet a (L.neg b)) (by rw [L.neg_meet,L.neg_neg];exact L.le_join_r (L.meet_r _ _))).1
 rw [e,ha] at j
 cases hm:s (L.meet a b)
 ·rw [hm] at j
  have h2:s (L.meet a (L.neg b))=true:=by simpa using j.symm
  have h3:=S.up B.keeps (L.meet_r a (L.neg b)) h2
  rw [S.neg,hb] at h3
  simp at h3
 ·rfl
theorem Boolean.state_atom (B : L.Boolean) {s : α → Bool} (S : L.State s) {p : α} (hp : s p = true) (hl : ∀ a, s a = true → L.le p a) : L.Atom p ∧ ∀ a, s a = true ↔ L.le p a := by
 refine⟨⟨fun e=>?_,fun b hb=>?_⟩,fun a=>⟨hl a,fun h=>S.up B.keeps h hp⟩⟩
 ·rw [e,S.bot] at hp;exact absurd hp (by simp)
 ·cases h:s b
  ·left
   have h2:s (L.neg b)=true:=by rw [S.neg,h];rfl
   have h3:=hl _ h2
   have:=L.le_meet _ _ _ (L.le_refl b) (L.le_trans _ _ _ hb h3)
   rw [L.meet_neg] at this
   exact L.le_bot this
  ·right;exact L.le_antisymm _ _ hb (hl b h)
end OL
end
section
def at1 (N : List Int) (a : Nat) : Int := N.getD a 0
def at2 (U : List (List Int)) (a b : Nat) : Int := (U.getD a []).getD b 0
def leB (U : List (List Int)) (a b : Nat) : Bool := at2 U a b == 1
def allN (n : Nat) (p : Nat → Bool) : Bool := (List.range n).all p
def findN (n : Nat) (p : Nat → Bool) : Option Nat := (List.range n).find? p
theorem allN_iff {n : Nat} {p : Nat → Bool} : allN n p = true ↔ ∀ i, i < n → p i = true := by
 simp [allN, List.all_eq_true]
theorem allN_false {n : Nat} {p : Nat → Bool} : allN n p = false ↔ ∃ i, i < n ∧ p i = false := by
 rw [← Bool.not_eq_true,allN_iff]
 constructor
 ·intro h
  apply Classical.byContradiction
  intro k
  exact h fun i hi=>by
   cases e:p i
   ·exact absurd ⟨i,hi,e⟩ k
   ·rfl
 ·rintro ⟨i,hi,e⟩ h
  rw [h i hi] at e
  exact absurd e (by simp)
theorem findN_some {n : Nat} {p : Nat → Bool} {i : Nat} (h : findN n p = some i) : i < n ∧ p i = true := by
 have h1:=List.find?_some h
 have h2:=List.mem_of_find?_eq_some h
 exact⟨by simpa using h2,h1⟩
theorem findN_none {n : Nat} {p : Nat → Bool} : findN n p = none ↔ ∀ i, i < n → p i = false := by
 unfold findN
 rw [List.find?_eq_none]
 constructor
 ·intro h i hi
  have:=h i (by simpa using hi)
  simpa using this
 ·intro h i hi
  have:=h i (by simpa using hi)
  simp [this]
theorem findN_first {n : Nat} {p : Nat → Bool} {i : Nat} (h : findN n p = some i) : ∀ j, j < i → p j = false := by
 unfold findN at h
 rw [List.find?_range_eq_some] at h
 intro j hj
 have:=h.2.2 j hj
 simpa using this
theorem findN_of {n : Nat} {p : Nat → Bool} {i : Nat} (hi : i < n) (h : p i = true) (hf : ∀ j, j < i → p j = false) : findN n p = some i := by
 unfold findN
 rw [List.find?_range_eq_some]
 exact⟨h,by simpa using hi,fun j hj=>by simp [hf j hj]⟩
theorem findN_uniq {n : Nat} {p : Nat → Bool} {i : Nat} (hi : i < n) (h : p i = true) (hu : ∀ j, j < n → p j = true → j = i) : findN n p = some i := by
 refine findN_of hi h fun j hj=>?_
 cases e:p j
 ·rfl
 ·have:=hu j (by omega) e;omega
theorem findN_isSome {n : Nat} {p : Nat → Bool} : (findN n p).isSome = true ↔ ∃ i, i < n ∧ p i = true := by
 constructor
 ·intro h
  obtain⟨i,hi⟩:=Option.isSome_iff_exists.1 h
  exact⟨i,findN_some hi⟩
 ·rintro ⟨i,hi,h⟩
  cases e:findN n p with
  |none=>rw [findN_none.1 e i hi] at h;exact absurd h (by simp)
  |some j=>rfl
structure Order (U : List (List Int)) : Prop where
 pos:1≤U.length
 small:U.length≤12
 row: ∀a,a<U.length→(U.getD a []).length=U.length
 bit: ∀a b,a<U.length→b<U.length→at2 U a b=0∨at2 U a b=1
 refl: ∀a,a<U.length→leB U a a=true
 anti: ∀a b,a<U.length→b<U.length→leB U a b=true→leB U b a=true→a=b
 trans: ∀a b c,a<U.length→b<U.length→c<U.length→leB U a b=true→leB U b c=true→leB U a c=true
def orderB (U : List (List Int)) : Bool :=
 decide (1≤U.length) && (decide (U.length≤12) && (allN U.length (fun a=>(U.getD a []).length==U.length && allN U.length fun b=>at2 U a b==0||at2 U a b==1) &&
  allN U.length fun a=>leB U a a && allN U.length fun b=>((a==b)||!(leB U a b && leB U b a)) && allN U.length fun c=>!(leB U a b && leB U b c)||leB U a c))
theorem orderB_iff {U : List (List Int)} : orderB U = true ↔ Order U := by
 unfold orderB
 simp only [Bool.and_eq_true,decide_eq_true_eq,allN_iff,Bool.or_eq_true,beq_iff_eq,Bool.not_eq_true']
 constructor
 ·rintro ⟨h1,h2,h3,h4⟩
  refine⟨h1,h2,fun a ha=>(h3 a ha).1,fun a b ha hb=>(h3 a ha).2 b hb,fun a ha=>(h4 a ha).1,fun a b ha hb k1 k2=>?_,fun a b c ha hb hc k1 k2=>?_⟩
  ·rcases ((h4 a ha).2 b hb).1 with e|e
   ·exact e
   ·rw [k1,k2] at e;exact absurd e (by simp)
  ·rcases ((h4 a ha).2 b hb).2 c hc with e|e
   ·rw [k1,k2] at e;exact absurd e (by simp)
   ·exact e
 ·intro O
  refine⟨O.pos,O.small,fun a ha=>⟨O.row a ha,fun b hb=>O.bit a b ha hb⟩,fun a ha=>⟨O.refl a ha,fun b hb=>⟨?_,fun c hc=>?_⟩⟩⟩
  ·by_cases e:a=b
   ·exact .inl e
   ·right
    cases k1:leB U a b <;> cases k2:leB U b a <;> simp
    exact e (O.anti a b ha hb k1 k2)
  ·cases k1:leB U a b <;> cases k2:leB U b c <;> simp
   exact O.trans a b c ha hb hc k1 k2
theorem Order.val {U : List (List Int)} (O : Order U) {a b : Nat} (ha : a < U.length) (hb : b < U.length) : at2 U a b = if leB U a b = true then 1 else 0 := by
 unfold leB
 rcases O.bit a b ha hb with e|e <;> simp [e]
def meetP (U : List (List Int)) (a b c : Nat) : Bool := leB U c a && (leB U c b && allN U.length fun d => !(leB U d a && leB U d b) || leB U d c)
def joinP (U : List (List Int)) (a b c : Nat) : Bool := leB U a c && (leB U b c && allN U.length fun d => !(leB U a d && leB U b d) || leB U c d)
def meetO (U : List (List Int)) (a b : Nat) : Option Nat := findN U.length (meetP U a b)
def joinO (U : List (List Int)) (a b : Nat) : Option Nat := findN U.length (joinP U a b)
def leastO (U : List (List Int)) : Option Nat := findN U.length fun a => allN U.length fun b => leB U a b
def optI (o : Option Nat) : Int := match o with | some m => (m : Int) | none => -1
theorem meetP_iff {U : List (List Int)} {a b c : Nat} : meetP U a b c = true ↔ leB U c a = true ∧ leB U c b = true ∧ ∀ d, d < U.length → leB U d a = true → leB U d b = true → leB U d c = true := by
 unfold meetP
 simp only [Bool.and_eq_true,allN_iff,Bool.or_eq_true,Bool.not_eq_true',Bool.and_eq_false_iff]
 constructor
 ·rintro ⟨h1,h2,h3⟩
  exact⟨h1,h2,fun d hd k1 k2=>by rcases h3 d hd with (e|e)|e <;> simp_all⟩
 ·rintro ⟨h1,h2,h3⟩
  refine⟨h1,h2,fun d hd=>?_⟩
  cases k1:leB U d a
  ·exact .inl (.inl rfl)
  ·cases k2:leB U d b
   ·exact .inl (.inr rfl)
   ·exact .inr (h3 d hd k1 k2)
theorem joinP_iff {U : List (List Int)} {a b c : Nat} : joinP U a b c = true ↔ leB U a c = true ∧ leB U b c = true ∧ ∀ d, d < U.length → leB U a d = true → leB U b d = true → leB U c d = true := by
 unfold joinP
 simp only [Bool.and_eq_true,allN_iff,Bool.or_eq_true,Bool.not_eq_true',Bool.and_eq_false_iff]
 constructor
 ·rintro ⟨h1,h2,h3⟩
  exact⟨h1,h2,fun d hd k1 k2=>by rcases h3 d hd with (e|e)|e <;> simp_all⟩
 ·rintro ⟨h1,h2,h3⟩
  refine⟨h1,h2,fun d hd=>?_⟩
  cases k1:leB U a d
  ·exact .inl (.inl rfl)
  ·cases k2:leB U b d
   ·exact .inl (.inr rfl)
   ·exact .inr (h3 d hd k1 k2)
theorem Order.meet_eq {U : List (List Int)} (O : Order U) {a b c : Nat} (hc : c < U.length) (h : meetP U a b c = true) : meetO U a b = some c := by
 refine findN_uniq hc h fun j hj e=>?_
 obtain⟨h1,h2,h3⟩:=meetP_iff.1 h
 obtain⟨k1,k2,k3⟩:=meetP_iff.1 e
 exact O.anti j c hj hc (h3 j hj k1 k2) (k3 c hc h1 h2)
theorem Order.join_eq {U : List (List Int)} (O : Order U) {a b c : Nat} (hc : c < U.length) (h : joinP U a b c = true) : joinO U a b = some c := by
 refine findN_uniq hc h fun j hj e=>?_
 obtain⟨h1,h2,h3⟩:=joinP_iff.1 h
 obtain⟨k1,k2,k3⟩:=joinP_iff.1 e
 exact O.anti j c hj hc (k3 c hc h1 h2) (h3 j hj k1 k2)
structure Logic (U : List (List Int)) (N : List Int) : Prop extends Order U where
 meets: ∀a b,a<U.length→b<U.length→(meetO U a b).isSome=true
 joins: ∀a b,a<U.length→b<U.length→(joinO U a b).isSome=true
 len:N.length=U.length
 ran: ∀a,a<U.length→0≤at1 N a∧at1 N a<U.length
 inv: ∀a,a<U.length→at1 N (at1 N a).toNat=a
 comp: ∀a,a<U.length→meetO U a (at1 N a).toNat=leastO U
 turn: ∀a b,a<U.length→b<U.length→leB U a b=true→leB U (at1 N b).toNat (at1 N a).toNat=true
def latticeB (U : List (List Int)) : Bool := orderB U && allN U.length fun a => allN U.length fun b => (meetO U a b).isSome && (joinO U a b).isSome
def logicB (U : List (List Int)) (N : List Int) : Bool :=
 latticeB U && (N.length==U.length && (allN U.length (fun a=>decide (0≤at1 N a) && decide (at1 N a<U.length)) &&
  allN U.length fun a=>at1 N (at1 N a).toNat==(a:Int) && (meetO U a (at1 N a).toNat==leastO U && allN U.length fun b=>!leB U a b||leB U (at1 N b).toNat (at1 N a).toNat)))
theorem latticeB_order {U : List (List Int)} (h : latticeB U = true) : Order U := by
 unfold latticeB at h
 exact orderB_iff.1 (Bool.and_eq_true_iff.1 h).1
theorem logicB_iff {U : List (List Int)} {N : List Int} : logicB U N = true ↔ Logic U N := by
 unfold logicB latticeB
 simp only [Bool.and_eq_true,decide_eq_true_eq,allN_iff,beq_iff_eq,Bool.or_eq_true,Bool.not_eq_true',orderB_iff]
 constructor
 ·rintro ⟨⟨h0,h1⟩,h2,h3,h4⟩
  refine { toOrder:=h0,meets:=fun a b ha hb=>(h1 a ha b hb).1,joins:=fun a b ha hb=>(h1 a ha b hb).2,len:=h2,ran:=h3,inv:=fun a ha=>(h4 a ha).1,comp:=fun a ha=>(h4 a ha).2.1,turn:=fun a b ha hb k=>?_ }
  rcases (h4 a ha).2.2 b hb with e|e
  ·rw [k] at e;exact absurd e (by simp)
  ·exact e
 ·intro L
  refine⟨⟨L.toOrder,fun a ha b hb=>⟨L.meets a b ha hb,L.joins a b ha hb⟩⟩,L.len,L.ran,fun a ha=>⟨L.inv a ha,L.comp a ha,fun b hb=>?_⟩⟩
  cases k:leB U a b
  ·exact .inl rfl
  ·exact .inr (L.turn a b ha hb k)
section
variable {U : List (List Int)} {N : List Int} (L : Logic U N)
def Logic.mt (a b : Fin U.length) : Fin U.length := ⟨(meetO U a b).get (L.meets a b a.2 b.2), (findN_some (Option.some_get _).symm).1⟩
def Logic.jn (a b : Fin U.length) : Fin U.length := ⟨(joinO U a b).get (L.joins a b a.2 b.2), (findN_some (Option.some_get _).symm).1⟩
def Logic.ng (a : Fin U.length) : Fin U.length := ⟨(at1 N a).toNat, by have := L.ran a a.2; omega⟩
theorem Logic.mt_eq (a b : Fin U.length) : meetO U a b = some (L.mt a b).1 := (Option.some_get _).symm
theorem Logic.jn_eq (a b : Fin U.length) : joinO U a b = some (L.jn a b).1 := (Option.some_get _).symm
theorem Logic.ng_eq (a : Fin U.length) : at1 N a = ((L.ng a).1 : Int) := by
 have := L.ran a a.2
 show at1 N a = (((at1 N a).toNat : Nat) : Int)
 omega
theorem Logic.mt_spec (a b : Fin U.length) : meetP U a b (L.mt a b) = true := (findN_some (L.mt_eq a b)).2
theorem Logic.jn_spec (a b : Fin U.length) : joinP U a b (L.jn a b) = true := (findN_some (L.jn_eq a b)).2
theorem Logic.ng_ng (a : Fin U.length) : L.ng (L.ng a) = a := by
 apply Fin.ext
 show (at1 N (at1 N a).toNat).toNat = a
 rw [L.inv a a.2]
 simp
include L in
theorem Logic.least_some : ∃ m, leastO U = some m := by
 have h0:0<U.length:=L.pos
 have:=L.comp 0 h0
 obtain⟨m,hm⟩:=Option.isSome_iff_exists.1 (L.meets 0 (at1 N 0).toNat h0 (by have:=L.ran 0 h0;omega))
 exact⟨m,by rw [← this,hm]⟩
def Logic.no : Fin U.length := ⟨(leastO U).get (by obtain ⟨m, h⟩ := L.least_some; rw [h]; rfl), (findN_some (Option.some_get _).symm).1⟩
theorem Logic.no_eq : leastO U = some L.no.1 := (Option.some_get _).symm
theorem Logic.no_le (b : Fin U.length) : leB U L.no b = true := allN_iff.1 (findN_some L.no_eq).2 b b.2
def Logic.ol : OL (Fin U.length) where
 le a b:=leB U a b=true
 meet:=L.mt
 join:=L.jn
 neg:=L.ng
 bot:=L.no
 le_refl a:=L.refl a a.2
 le_antisymm a b h k:=Fin.ext (L.anti a b a.2 b.2 h k)
 le_trans a b c h k:=L.trans a b c a.2 b.2 c.2 h k
 meet_l a b:=(meetP_iff.1 (L.mt_spec a b)).1
 meet_r a b:=(meetP_iff.1 (L.mt_spec a b)).2.1
 le_meet a b c h k:=(meetP_iff.1 (L.mt_spec a b)).2.2 c c.2 h k
 join_l a b:=(joinP_iff.1 (L.jn_spec a b)).1
 join_r a b:=(joinP_iff.1 (L.jn_spec a b)).2.1
 join_le a b c h k:=(joinP_iff.1 (L.jn_spec a b)).2.2 c c.2 h k
 neg_neg a:=L.ng_ng a
 neg_anti a b h:=L.turn a b a.2 b.2 h
 meet_neg a:=by
  apply Fin.ext
  have h:=L.comp a a.2
  have e1:=L.mt_eq a (L.ng a)
  rw [L.no_eq] at h
  have:some (L.mt a (L.ng a)).1=some L.no.1:=e1.symm.trans h
  exact Option.some.inj this
 bot_le a:=L.no_le a
end
end
end Oml
end
section
namespace Go.Proofs.Ytcbjpdaogicibaa.Print
open Oml
def turnL (U : List (List Int)) : List (List Int) := (List.range U.length).map fun a => (List.range U.length).map fun b => at2 U b a
end Go.Proofs.Ytcbjpdaogicibaa.Print
end
section
namespace Go.Proofs.Ytcbjpdaogicibaa.Print
open Go.RowKit Go.Proofs.YtcbjpdaogicibaaW.PrintWords Go.Proofs.YtcbjpdaogicibaaW.PrintLast Go.Proofs.YtcbjpdaogicibaaW.PrintMore
open Oml
def tabI (n : Nat) (f : Nat → Nat → Int) : List (List Int) := (List.range n).map fun a => (List.range n).map fun b => f a b
def mI (U : List (List Int)) (a b : Nat) : Int := optI (meetO U a b)
def jI (U : List (List Int)) (a b : Nat) : Int := optI (joinO U a b)
def rowT (f : Nat → Nat → Int) (a b : Nat) : List Int := (List.range b).map fun b => f a b
def tabT (n : Nat) (f : Nat → Nat → Int) (a : Nat) : List (List Int) := (List.range a).map fun a => rowT f a n
theorem rowT_succ (f : Nat → Nat → Int) (a b : Nat) : rowT f a (b + 1) = rowT f a b ++ [f a b] := by simp [rowT, List.range_succ]
theorem tabT_succ (n : Nat) (f : Nat → Nat → Int) (a : Nat) : tabT n f (a + 1) = tabT n f a ++ [rowT f a n] := by simp [tabT, List.range_succ]
theorem rowT_length (f : Nat → Nat → Int) (a b : Nat) : (rowT f a b).length = b := by simp [rowT]
theorem tabT_length (n : Nat) (f : Nat → Nat → Int) (a : Nat) : (tabT n f a).length = a := by simp [tabT]
theorem tabI_length (n : Nat) (f : Nat → Nat → Int) : (tabI n f).length = n := by simp [tabI]
theorem wrap_small {x : Int} (h0 : 0 ≤ x) (h : x < 1000000) : wrap64 x = x := by unfold wrap64; omega
theorem reads_one {W : World} {p : Addr} {v : Value} {row : List Int} (h : W.cell? p = some v) : ReadsRow (fun x cs => x = row ∧ cs = [v]) 1 W (some p) 1 [row] := by
 refine⟨rfl,by omega,fun _=>⟨p,rfl,fun j q hq=>?_⟩⟩
 have hj:j=0:=by
  rcases j with _|j
  ·rfl
  ·simp at hq
 subst hj
 have hq':row=q:=by simpa using hq
 refine⟨[v],rfl,⟨hq'.symm,rfl⟩,fun i u hu=>?_⟩
 rcases i with _|i
 ·have:v=u:=by simpa using hu
  subst this
  simpa [Addr.add] using h
 ·simp at hu
theorem grown_cell {W w1 : World} {row : Option Nat} (hg : W.grownBy w1 row) {p : Addr} {v : Value} (h : W.cell? p = some v) (hne : some p.block ≠ row) : w1.cell? p = some v := by
 have:=hg.block p.block (World.block_lt_of_cell? W p h) hne
 unfold World.cell? at*
 rw [this];exact h
theorem infoInt : (Try.prog.info? 3).map (fun i => (i.zero, i.size, i.bytes)) = some (some (.int .i64 0), 1, 8) := by kernel_rfl
theorem infoRow : (Try.prog.info? 24).map (fun i => (i.zero, i.size, i.bytes)) = some (some (.slice none 0 0), 1, 24) := by kernel_rfl
def AlgAt (W : World) (g : Nat) (U A O : List (List Int)) (N : List Int) (no yes : Int) : Prop :=
 ∃A0 c0 A1 c1 A2 c2 A3 c3,W.heap[g]? =some (.cells #[.slice A0 U.length c0,.slice A1 A.length c1,.slice A2 O.length c2,.slice A3 N.length c3,.int .i64 no,.int .i64 yes] 74 (0,0))∧
  (U.length≤c0∧A.length≤c1∧O.length≤c2∧N.length≤c3)∧Kd.C (Kd.slice 3 (Kd.int .i64)) W A0 U.length U∧Kd.C (Kd.slice 3 (Kd.int .i64)) W A1 A.length A∧Kd.C (Kd.slice 3 (Kd.int .i64)) W A2 O.length O∧Kd.C (Kd.int .i64) W A3 N.length N
def AlgOf (W : World) (g : Nat) (U : List (List Int)) (N : List Int) : Prop :=
 AlgAt W g U (tabI U.length (mI U)) (tabI U.length (jI U)) N (optI (leastO U)) (at1 N (optI (leastO U)).toNat)
theorem AlgAt.below {W W1 : World} {g : Nat} {U A O : List (List Int)} {N : List Int} {no yes : Int} (h : AlgAt W g U A O N no yes) (hb : Below W.heap.size W W1) : AlgAt W1 g U A O N no yes := by
 obtain⟨A0,c0,A1,c1,A2,c2,A3,c3,h1,hc,k0,k1,k2,k3⟩:=h
 exact⟨A0,c0,A1,c1,A2,c2,A3,c3,blk_below h1 hb,hc,Kd.C_below k0 hb,Kd.C_below k1 hb,Kd.C_below k2 hb,Kd.C_below k3 hb⟩
theorem ints_cell {W : World} {A : Option Addr} {n : Nat} {xs : List Int} (h : Kd.C (Kd.int .i64) W A n xs) (i : Int) (h0 : 0 ≤ i) (h1 : i < n) : ∃ ad, A = some ad ∧ W.cell? (ad.add i.toNat) = some (.int .i64 (at1 xs i.toNat)) := Kd.at_int h i h0 h1
theorem rows_cell {W : World} {A : Option Addr} {n : Nat} {xs : List (List Int)} (h : Kd.C (Kd.slice 3 (Kd.int .i64)) W A n xs) (i : Int) (h0 : 0 ≤ i) (h1 : i < n) :
 ∃ad Ar cr,A=some ad∧W.cell? (ad.add i.toNat)=some (.slice Ar (xs.getD i.toNat []).length cr)∧(xs.getD i.toNat []).length≤cr∧Kd.C (Kd.int .i64) W Ar (xs.getD i.toNat []).length (xs.getD i.toNat []):=by
 obtain⟨ad,c,e,_,hK,hc0⟩:=Kd.C_get h ([]:List Int) i h0 h1
 have hc: ∀j u,c[j]? =some u→W.cell? (ad.add (i.toNat*1+j))=some u:=hc0
 obtain⟨Ar,cr,rfl,l0,g0⟩:=hK
 exact⟨ad,Ar,cr,e,by have hq:=hc 0 _ rfl;rwa [Nat.mul_one,Nat.add_zero] at hq,l0,g0⟩
theorem mat_cell {W : World} {A : Option Addr} {n : Nat} {xs : List (List Int)} (h : Kd.C (Kd.slice 3 (Kd.int .i64)) W A n xs) (hr : ∀ a, a < n → (xs.getD a []).length = n) (a b : Int) (ha : 0 ≤ a) (ha' : a < n) (hb : 0 ≤ b) (hb' : b < n) :
 ∃ad ad' cr,A=some ad∧W.cell? (ad.add a.toNat)=some (.slice (some ad') n cr)∧W.cell? (ad'.add b.toNat)=some (.int .i64 (at2 xs a.toNat b.toNat))∧n≤cr:=by
 obtain⟨ad,Ar,cr,e,hc,hl,hk⟩:=rows_cell h a ha ha'
 have hn:=hr a.toNat (by omega)
 rw [hn] at hc hl hk
 obtain⟨ad',e',hc'⟩:=ints_cell hk b hb hb'
 subst e'
 exact⟨ad,ad',cr,e,hc,hc',hl⟩
theorem tabI_row (n : Nat) (f : Nat → Nat → Int) : ∀ a, a < n → ((tabI n f).getD a []).length = n := by
 intro a ha
 simp [tabI, List.getD_eq_getElem?_getD, ha]
theorem tabI_at (n : Nat) (f : Nat → Nat → Int) (a b : Nat) (ha : a < n) (hb : b < n) : at2 (tabI n f) a b = f a b := by
 simp [at2, tabI, List.getD_eq_getElem?_getD, ha, hb]
theorem tab_cell {W : World} {A : Option Addr} {n m : Nat} {f : Nat → Nat → Int} (h : Kd.C (Kd.slice 3 (Kd.int .i64)) W A m (tabI n f)) (a b : Int) (ha : 0 ≤ a) (ha' : a < n) (hb : 0 ≤ b) (hb' : b < n) :
 ∃ad ad' cr,A=some ad∧W.cell? (ad.add a.toNat)=some (.slice (some ad') n cr)∧W.cell? (ad'.add b.toNat)=some (.int .i64 (f a.toNat b.toNat))∧n≤cr:=by
 have hm:(tabI n f).length=m:=Kd.C_len h
 rw [tabI_length] at hm
 subst hm
 obtain⟨ad,ad',cr,h1,h2,h3,h4⟩:=mat_cell h (tabI_row n f) a b ha ha' hb hb'
 rw [tabI_at n f _ _ (by omega) (by omega)] at h3
 exact⟨ad,ad',cr,h1,h2,h3,h4⟩
theorem cell_up {w W : World} {B : Nat} {a : Addr} {v : Value} (h : w.cell? a = some v) (hb : Below B w W) (hB : B = w.heap.size) : W.cell? a = some v := by
 subst hB
 exact(hb.cell (World.block_lt_of_cell? w a h)).trans h
def ToldPost (U : List (List Int)) (N : List Int) (w : World) (e : Ending) (w' : World) : Prop :=
 Below w.heap.size w w'∧((logicB U N=true∧ ∃g,e= .returned (.pointer (some ⟨g,0,none⟩))∧w.heap.size≤g∧AlgOf w' g U N)∨(logicB U N=false∧e= .returned (.pointer none)))
end Go.Proofs.Ytcbjpdaogicibaa.Print
end
section
namespace Go.Proofs.Ytcbjpdaogicibaa.Print
open Go.RowKit Go.Proofs.YtcbjpdaogicibaaW.PrintWords Go.Proofs.YtcbjpdaogicibaaW.PrintLast Go.Proofs.YtcbjpdaogicibaaW.PrintMore
section
attribute [local go_sem] max2_int min2_int max_two min_two max_three min_three max_four min_four
mutual
def impl_turned.l0 : Nat → List (List Int) → List (List Int) → Int → Int → Option ((List (List Int)))
 | 0, _, _, _, _ => none
 | k + 1, x0, x3, x10, x11 => if x11 < x10 then (if 0 ≤ (x0.length : Int) then (if ((x0.length : Int) : Int).toNat ≤ 35184372088832 then (if 0 ≤ x11 then (if x11 < (x3.length : Int) then (impl_turned.l1 k x0 (x3.set (x11 : Int).toNat (List.replicate ((x0.length : Int) : Int).toNat 0)) x11 x10 x11 (x0.length : Int) 0) else (none)) else (none)) else (none)) else (none)) else (some x3)
def impl_turned.l1 : Nat → List (List Int) → List (List Int) → Int → Int → Int → Int → Int → Option ((List (List Int)))
 | 0, _, _, _, _, _, _, _ => none
 | k + 1, x0, x3, x4, x10, x11, x21, x22 => if x22 < x21 then (if 0 ≤ x4 then (if x4 < (x3.length : Int) then (if 0 ≤ x22 then (if x22 < (x0.length : Int) then (if x4 < ((rd_L2 x0 x22).length : Int) then (if x22 < ((rd_L2 x3 x4).length : Int) then (impl_turned.l1 k x0 (x3.set (x4 : Int).toNat ((rd_L2 x3 x4).set (x22 : Int).toNat (rd (rd_L2 x0 x22) x4))) x4 x10 x11 x21 (wrap64 (x22 + 1))) else (none)) else (none)) else (none)) else (none)) else (none)) else (none)) else (impl_turned.l0 k x0 x3 x10 (wrap64 (x11 + 1)))
end
def impl_turned.f (k : Nat) (l0 : List (List Int)) : Option ((List (List Int))) := if 0 ≤ (l0.length : Int) then (if ((l0.length : Int) : Int).toNat ≤ 11728124029610 then (impl_turned.l0 k l0 (List.replicate ((l0.length : Int) : Int).toNat []) (l0.length : Int) 0) else (none)) else (none)
def impl_turned.T9 : Bool × List (List Nat × List Nat) := (true, [([], []), ([], []), ([0, 1], [0, 1]), ([2], [2]), ([], []), ([], []), ([], []), ([5, 6], [5, 6]), ([7], [7]), ([], []), ([8, 9], [8, 9]), ([10], [10]), ([3, 4, 0, 1, 2, 3, 4, 5, 6, 7, 8, 9, 10, 11], [3, 4]), ([12, 11, 0, 1, 2, 3, 4, 5, 6, 7, 8, 9, 10, 11], [11, 12])])
def impl_turned.B9 : List Nat := [0, 0, 3, 7, 0, 0, 0, 96, 224, 0, 992, 2016, 4095, 8191]
theorem impl_turned.tab9 : rtab .any (opsOf Try.f133 9) = impl_turned.T9 := by kernel_rfl
theorem impl_turned.bits9 : waitsOk impl_turned.T9.2 impl_turned.B9 = true := by kernel_rfl
set_option maxHeartbeats 8000000 in
set_option maxRecDepth 100000 in
theorem impl_turned.calls (k : Nat) (A0 : Option Addr) (c0 : Nat) (l0 : List (List Int)) (r : List (List Int)) (w : World) (hr0 : Kd.C (Kd.slice 3 (Kd.int .i64)) w A0 l0.length l0) (hc0 : l0.length ≤ c0) (h : impl_turned.f k l0 = some r) :
  Calls Try.prog 133 #[.slice A0 l0.length c0] w fun e w' => ∃ v0_ : Value, e = .returned (v0_) ∧ Kd.S (Kd.slice 3 (Kd.int .i64)) 24 w' w.heap.size (fun _ => True) v0_ r ∧ Below w.heap.size w w' := by
 have l2:=zqm hr0;have o3:=zqm hc0;clear hr0 hc0;have HB:=zqm (Below.refl w.heap.size w);have H:(if 0≤(l0.length:Int) then(if((l0.length:Int):Int).toNat≤11728124029610 then(impl_turned.l0 k l0 (List.replicate ((l0.length:Int):Int).toNat []) (l0.length:Int) 0) else(none)) else(none))=some r:=h;clear h
 by_cases c2:0≤(l0.length:Int)
 ·rw [if_pos c2] at H;have m8:=eq_true c2;have m9:decide (0≤(l0.length:Int))=true:=decide_eq_true c2;clear c2
  by_cases c3:((l0.length:Int):Int).toNat≤11728124029610
  ·rw [if_pos c3] at H;have n0:=eq_true c3;have n1:decide (((l0.length:Int):Int).toNat≤11728124029610)=true:=decide_eq_true c3;clear c3;obtain⟨i6,d0⟩: ∃y_:List (List Int),y_=(List.replicate ((l0.length:Int):Int).toNat []):=⟨_,rfl⟩;replace H:(impl_turned.l0 k l0 i6 (l0.length:Int) 0)=some r:=zqy d0 H;have f0:=zqm d0;clear d0;have H':=zqm H;clear H
   go_enter Try.func133,Try.ntmps133
   go_wp2_with (first|((with_reducible refine gate_dst (N:=8) rfl ?_);refine Kd.S_make (Kd.slice 3 (Kd.int .i64)) _ 24 rfl (N:=8) rfl 23 _ _ rfl (l0.length:Int) rfl rfl Try.underlying23 (.slice none 0 0) 24 info24 rfl (by decide) (by omega) [] (ok:=fun _=>True) (okp:=fun _=>True) ⟨_,rfl,Kd.R_nil _ _ _ _ _⟩ (fun _ hk=>hk) trivial (zqo) (Nat.le_trans (Nat.mul_le_mul_right _ (zqo:(l0.length:Int).toNat≤11728124029610)) (by omega)) (Below.refl _ _) (Nat.le_refl _) ?_;intro k4 w4 d8 hb hg_ hnew_;clear hg_ hnew_;(first|rw [← f0.out] at d8|(simp only [Int.reduceToNat] at d8;rw [← f0.out] at d8));have i8:=zqm (Kd.S_lower d8 (below_size zq2));replace HB:=zqm (below_step zq2 hb);clear hb d8))
   go_loopg [11] k (fun kq l5 w'=> ∃(a3:List (List Int)) (a0:Int),l5= .int .i64 a0∧Aside0 (impl_turned.l0 kq l0 a3 (l0.length:Int) a0=some r)∧Aside0 (kq≤k)∧Aside0 (Kd.S (Kd.slice 3 (Kd.int .i64)) 24 w' w.heap.size (fun _=>True) k4 a3)∧Aside0 (Below w.heap.size w w'))
   case atStart=>exact⟨(i6),(0),zq6,H',⟨Nat.le_refl _⟩,⟨zqfS i8.out⟩,⟨zq2⟩⟩
   case round=>
    clear H';obtain⟨a3,a0,rfl,HA,e8,HO_3,HB⟩:=hrel
    cases gk with
    |zero=>exact absurd HA.out (by simp [impl_turned.l0])
    |succ k1=>
     have H:=HA.out;clear HA;simp only [impl_turned.l0] at H
     by_cases c6:a0<(l0.length:Int)
     ·rw [if_pos c6] at H;have j5:decide (a0<(l0.length:Int))=true:=decide_eq_true c6;clear c6
      by_cases c7:0≤(l0.length:Int)
      ·rw [if_pos c7] at H;have n2:=eq_true c7;have n3:decide (0≤(l0.length:Int))=true:=decide_eq_true c7;clear c7
       by_cases c8:((l0.length:Int):Int).toNat≤35184372088832
       ·rw [if_pos c8] at H;have n4:=eq_true c8;have n5:decide (((l0.length:Int):Int).toNat≤35184372088832)=true:=decide_eq_true c8;clear c8;obtain⟨e5,d1⟩: ∃y_:List Int,y_=(List.replicate ((l0.length:Int):Int).toNat 0):=⟨_,rfl⟩;replace H:(if 0≤a0 then(if a0<(a3.length:Int) then(impl_turned.l1 k1 l0 (a3.set (a0:Int).toNat e5) a0 (l0.length:Int) a0 (l0.length:Int) 0) else(none)) else(none))=some r:=zqy d1 H;have f1:=zqm d1;clear d1
        by_cases c9:0≤a0
        ·rw [if_pos c9] at H;have n6:decide (0≤a0)=true:=decide_eq_true c9;clear c9
         by_cases f3:a0<(a3.length:Int)
         ·rw [if_pos f3] at H;have m0:decide (a0<(a3.length:Int))=true:=decide_eq_true f3;clear f3;obtain⟨e6,d2⟩: ∃y_:List (List Int),y_=(a3.set (a0:Int).toNat e5):=⟨_,rfl⟩;replace H:(impl_turned.l1 k1 l0 e6 a0 (l0.length:Int) a0 (l0.length:Int) 0)=some r:=zqy d2 H;have i9:=zqm d2;clear d2;have H':=zqm H;clear H
          go_wp2_with (first|((with_reducible refine gate_dst (N:=18) rfl ?_);refine Kd.R_make (Kd.int .i64) _ 3 rfl (N:=18) rfl 24 _ _ rfl (l0.length:Int) rfl rfl Try.underlying24 (.int .i64 0) 8 info3 rfl (by decide) (by omega) 0 (ok:=fun _=>True) (okp:=fun _=>True) rfl (fun _ hk=>hk) trivial (zqo) (Nat.le_trans (Nat.mul_le_mul_right _ (zqo:(l0.length:Int).toNat≤35184372088832)) (by omega)) (Below.refl _ _) (Nat.le_refl _) ?_;intro b4 i4 b3 hb hg_ hnew_;clear hg_ hnew_;(first|rw [← f1.out] at b3|(simp only [Int.reduceToNat] at b3;rw [← f1.out] at b3));replace HO_3:=zqm (Kd.S_elder' (zqfS HO_3.out) (Kd.R_base b3) hb);have c4:=zqm (Kd.R_lower b3 (below_size zq2));replace HB:=zqm (below_step zq2 hb);clear hb b3;have i0:0≤(a0:Int):=zqo;have i2:(a0:Int)<((a3.length:Int):Int):=zqo;obtain⟨a8,e0,g8,h0,j9,o0,g4⟩:=Kd.S_form HO_3.out (by omega);(first|cases g8|(injection g8 with ea_ en_ ec_;(first|subst ea_|(injection ea_ with ea_;subst ea_));subst ec_;clear en_));have GB11:=zqm h0;have GG11:=zqm g4;clear h0 j9 g4;obtain⟨_,n7,hcl11,hM11,g0,hfr11,_,_⟩:=Kd.S_elem HO_3.out [] (a0:Int) i0 i2;obtain⟨l7,rfl,l3⟩:=hM11;have h7:=g0 0 _ rfl;have h4:=hfr11 0;(try simp only [show ((Kd.slice 3 (Kd.int .i64))).sz=1 from rfl,Nat.mul_one,Nat.add_zero] at h7);(try simp only [show ((Kd.slice 3 (Kd.int .i64))).sz=1 from rfl,Nat.mul_one,Nat.add_zero] at h4);clear hcl11 g0 hfr11;replace i0:=eq_true i0;replace i2:=eq_true i2;have n_:=zqm (Kd.S_mono (ok':=(fun k_=>some k_≠(b4:Value).ownBlock)) HO_3.out (fun k_ hk=>hk.2));clear HO_3;have HO_3:=n_;clear n_;have HX14:=zqm (show Kd.S (Kd.slice 3 (Kd.int .i64)) 24 i4 w.heap.size (fun k_=>((fun _=>True)) k_∧ ¬((fun k_=>some k_=(b4:Value).ownBlock)) k_) (.slice (some ⟨a8,0,none⟩) a3.length e0) a3 from zq180);obtain⟨oki14,n8,hcl14,hM14,g1,hfr14,hoki14,hH14⟩:=Kd.S_elem HX14.out [] (a0:Int) (zqo) (by have h_:(a0:Int)<((a3.length:Int):Int):=zqo;first|exact h_|(have e_:=(Kd.S_reads' HO_3.out).1;omega)|simpa using h_);obtain⟨l8,rfl,l4⟩:=hM14;have HP14:=Kd.S_seg hH14 (zqo) (by have h_:(a0:Int)<((a3.length:Int):Int):=zqo;first|exact h_|(have e_:=(Kd.S_reads' HO_3.out).1;omega)|simpa using h_) (seg:= [b4]) (j:=0) (show 1≤1 from by decide) (x':=e5) (Kd.M_row (Kd.R_mono (Kd.R_tight rfl (Kd.R_mono (ok':=fun k_=>((fun _=>True)) k_∧k_≠a8) (Kd.R_apart' (c4.out) (Kd.S_typed HO_3.out) (by decide)) (fun k_ hk=>⟨trivial,fun e_=>(hk.2) (by rw [e_];rfl)⟩))) (fun _ h_=>Or.inr (h_)))) (fun _ hk=>hk) (fun k_ hk_=>((Kd.R_mono (ok':=fun k_=>((fun _=>True)) k_∧k_≠a8) (Kd.R_apart' (c4.out) (Kd.S_typed HO_3.out) (by decide)) (fun k_ hk=>⟨trivial,fun e_=>(hk.2) (by rw [e_];rfl)⟩))).1 k_ hk_.symm);have h8:=g1 0 _ rfl;(try simp only [show ((Kd.slice 3 (Kd.int .i64))).sz=1 from rfl,Nat.mul_one,Nat.add_zero] at h8);have h5:=hfr14 0;(try simp only [show ((Kd.slice 3 (Kd.int .i64))).sz=1 from rfl,Nat.mul_one,Nat.add_zero] at h5);clear hcl14 g1 hfr14 hoki14 hH14;(try simp only [show ((Kd.slice 3 (Kd.int .i64))).sz=1 from rfl,Nat.mul_one,Nat.add_zero] at HP14))|((with_reducible refine gate_store (t:=24) (p:=19) rfl ?_);refine store_event (t:=24) (p:=19) (v:=?vo_w15) (w1:=(i4.setCell ⟨a8,(a0:Int).toNat,none⟩ (b4))) ?hg ?ho ?hn ?hr ?_;(case ho=>rfl);(case hg=>rfl);(case hn=>rfl);(case hr=>first|(go_simp;done)|(go_simp;rfl)|(obtain⟨a_,c_,e_⟩:=Kd.R_slice (Aside0.out ‹Aside0 (Kd.R _ _ _ _ _ b4 _)›);rw [e_];first|(go_simp;done)|(go_simp;rfl)));intro i5 hw;have hg:i4.grownBy i5 (some a8):=(by rw [hw];exact HP14.2);have hp_:Kd.S (Kd.slice 3 (Kd.int .i64)) 24 i5 w.heap.size (fun _=>True) (.slice (some ⟨a8,0,none⟩) a3.length e0) e6:=(by rw [hw,i9.out];exact HP14.1);clear HP14;replace HO_3:=zqm (hp_);replace HB:=zqm ((by rw [hw];exact below_set (HB.out) GB11.out:Below w.heap.size w i5));clear c4;clear hg hw hp_))
          go_loopg [22] k1 (fun kq l6 w'=> ∃(a2:List (List Int)) (a1:Int),l6= .int .i64 a1∧Aside0 (impl_turned.l1 kq l0 a2 a0 (l0.length:Int) a0 (l0.length:Int) a1=some r)∧Aside0 (kq≤k1)∧Aside0 (Kd.S (Kd.slice 3 (Kd.int .i64)) 24 w' w.heap.size (fun _=>True) (.slice (some ⟨a8,0,none⟩) a3.length e0) a2)∧Aside0 (Below w.heap.size w w'))
          case atStart=>exact⟨(e6),(0),zq6,H',⟨Nat.le_refl _⟩,⟨zqfS HO_3.out⟩,⟨zq2⟩⟩
          case round=>
           clear H';obtain⟨a2,a1,rfl,HA,e9,HO_3,HB⟩:=hrel;have a9:=(Kd.S_reads' HO_3.out).1;rw [a9] at HO_3;(try simp only [a9])
           cases gk with
           |zero=>exact absurd HA.out (by simp [impl_turned.l1])
           |succ k2=>
            have H:=HA.out;clear HA;simp only [impl_turned.l1] at H
            by_cases b6:a1<(l0.length:Int)
            ·rw [if_pos b6] at H;have j4:decide (a1<(l0.length:Int))=true:=decide_eq_true b6;clear b6
             by_cases f4:0≤a0
             ·rw [if_pos f4] at H;have m1:decide (0≤a0)=true:=decide_eq_true f4;clear f4
              by_cases f5:a0<(a2.length:Int)
              ·rw [if_pos f5] at H;have m2:decide (a0<(a2.length:Int))=true:=decide_eq_true f5;clear f5
               by_cases f6:0≤a1
               ·rw [if_pos f6] at H;have m3:decide (0≤a1)=true:=decide_eq_true f6;clear f6
                by_cases f7:a1<(l0.length:Int)
                ·rw [if_pos f7] at H;have m4:decide (a1<(l0.length:Int))=true:=decide_eq_true f7;clear f7
                 by_cases f8:a0<((rd_L2 l0 a1).length:Int)
                 ·rw [if_pos f8] at H;have m5:decide (a0<((rd_L2 l0 a1).length:Int))=true:=decide_eq_true f8;clear f8
                  by_cases f9:a1<((rd_L2 a2 a0).length:Int)
                  ·rw [if_pos f9] at H;have m6:decide (a1<((rd_L2 a2 a0).length:Int))=true:=decide_eq_true f9;clear f9;obtain⟨e7,d3⟩: ∃y_:List Int,y_=((rd_L2 a2 a0).set (a1:Int).toNat (rd (rd_L2 l0 a1) a0)):=⟨_,rfl⟩;replace H:(impl_turned.l1 k2 l0 (a2.set (a0:Int).toNat e7) a0 (l0.length:Int) a0 (l0.length:Int) (wrap64 (a1+1)))=some r:=zqy d3 H;have j0:=zqm d3;clear d3;obtain⟨i7,d4⟩: ∃y_:List (List Int),y_=(a2.set (a0:Int).toNat e7):=⟨_,rfl⟩;replace H:(impl_turned.l1 k2 l0 i7 a0 (l0.length:Int) a0 (l0.length:Int) (wrap64 (a1+1)))=some r:=zqy d4 H;have j1:=zqm d4;clear d4;have H':=zqm H;clear H;(try go_wp2);replace HO_3:=zqm (Kd.S_drew HO_3.out);replace HB:=zqm (below_drew1 HB.out);have d5:0≤(a0:Int):=zqo;have d6:a0<(a2.length:Int):=zqo;obtain⟨j2,k8,g6,j6,a4,b9,b7⟩:=at_L2 (Kd.S_reads' HO_3.out).2.2 a0 d5 d6;obtain rfl:(⟨a8,0,none⟩:Addr)=j2:=(by injection j6);obtain⟨m7,h3,h2,d7⟩:=Kd.S_get HO_3.out [] a0 d5 (by first|exact d6|exact zqo|(have e_:=(Kd.S_reads' HO_3.out).1;omega));obtain⟨k7,rfl,b2⟩:=h2;have a5:=d7 0 _ rfl;rw [Nat.add_zero,show ((Kd.slice 3 (Kd.int .i64))).sz=1 from rfl,Nat.mul_one] at a5;replace a5:=Option.some.inj (a5.symm.trans a4);rw [a5] at b2;have b1:=zqm (show Kd.R (Kd.int .i64) 3 _ _ _ _ (rd_L2 a2 a0) from b2);clear a5 b2;have HX419_0:=zqm a4;clear d7 h3;(first|simp only [add_plain] at a4|simp only [add_at] at a4|simp only [Addr.add,Nat.zero_add] at a4|skip);have g3:=zqm b7;have k5:=zqm b9;clear b7 b9;replace d5:=eq_true d5;replace d6:=eq_true d6;have e1:0≤(a1:Int):=zqo;have e3:a1<(l0.length:Int):=zqo;obtain⟨j3,k9,g7,j7,a6,c1,b8⟩:=at_L2 l2.out a1 e1 e3;have hw420_0:=a6
                   cases j7
                   replace a6:=(HB.out.cell (World.block_lt_of_cell? w _ a6)).trans a6;have b5:=zqm b8;have k6:=zqm c1;clear b8 c1;replace e1:=eq_true e1;replace e3:=eq_true e3;have e2:0≤(a0:Int):=zqo;have e4:a0<((rd_L2 l0 a1).length:Int):=zqo;obtain⟨f2,j8,a7⟩:=Kd.at_int b5.out a0 e2 e4;have hw421_0:=a7
                   cases j8
                   replace a7:=(HB.out.cell (World.block_lt_of_cell? w _ a7)).trans a7;replace e2:=eq_true e2;replace e4:=eq_true e4;have i1:0≤(a1:Int):=zqo;have i3:(a1:Int)<(((rd_L2 a2 a0).length:Int):Int):=zqo;obtain⟨k3,o2,g9,h1,k0,o1,g5⟩:=Kd.R_form b1.out (by omega);(first|cases g9|(injection g9 with ea_ en_ ec_;(first|subst ea_|(injection ea_ with ea_;subst ea_));subst ec_;clear en_));have GB23:=zqm h1;have GG23:=zqm g5;clear h1 k0 g5;obtain⟨h9,h6⟩:=Kd.R_celln 0 b1.out (a1:Int) i1 i3;replace i1:=eq_true i1;replace i3:=eq_true i3;have hq25:(a0:Int)<(a2.length:Int):=(by have h_:(a0:Int)<((a2.length:Int):Int):=zqo;first|exact h_|(have e_:=(Kd.S_reads' HO_3.out).1;omega)|simpa only [List.length_set,List.length_set] using h_);obtain⟨oki25,n9,hcl25,hM25,g2,hok25,hbk25⟩:=Kd.S_borrow HO_3.out [] (a0:Int) (zqo) hq25;obtain⟨l9,rfl,b0⟩:=hM25;have c5:=g2 0 _ rfl;rw [Nat.add_zero,show ((Kd.slice 3 (Kd.int .i64))).sz=1 from rfl,Nat.mul_one] at c5;replace c5:=Option.some.inj (c5.symm.trans HX419_0.out);subst c5;clear g2 hcl25;replace b0:=(show Kd.R (Kd.int .i64) 3 _ _ _ _ (rd_L2 a2 a0) from b0);have HP25:=Kd.R_putg b0 (a1:Int) (rd (rd_L2 l0 a1) a0);rw [← j0.out] at HP25;have d9:=hbk25 HP25.2 (fun k_ e_=>by injection e_ with e_;subst e_;exact b0.1 _ rfl) (x':=e7) (Kd.M_row HP25.1);rw [← j1.out] at d9;have HQ25:=zqm d9;clear HP25 d9 hbk25 hok25;refine start_ (n:=14) (S:=fun w'=>w'.cell? ⟨a8,(a0).toNat,none⟩=some (.slice (some ⟨k3,0,none⟩) (rd_L2 a2 a0).length g6)∧w'.cell? (j3.add (a1).toNat)=some (.slice (some f2) (rd_L2 l0 a1).length g7)∧w'.cell? (f2.add (a0).toNat)=some (.int .i64 (rd (rd_L2 l0 a1) a0))) (ds:= [13]) (zqb 14 0) zqk rfl rfl ⟨a4,((HB.out.cell (World.block_lt_of_cell? w _ hw420_0)).trans hw420_0),((HB.out.cell (World.block_lt_of_cell? w _ hw421_0)).trans hw421_0)⟩ (fun hHeld=>?_);refine with_tabW impl_turned.tab9 impl_turned.bits9 (fun HT_ HW_=>?_);generalize wr.drew=o4 at HO_3 HB GG23 b1 HQ25 g3 b5 HX419_0 h6 h9 a4 a6 a7 hHeld ⊢;refine zqp 0 25 (zqb 14 1) HT_ ?_;refine zqp 1 26 (zqb 14 3) HT_ ?_;refine zqp 2 27 (zqb 14 7) HT_ ?_;refine zqp 4 29 (zqb 14 23) HT_ ?_;refine zqp 5 30 (zqb 14 55) HT_ ?_;refine zqp 6 31 (zqb 14 119) HT_ ?_;refine zqp 7 32 (zqb 14 247) HT_ ?_;refine zqp 9 34 (zqb 14 759) HT_ ?_;refine zqw 3 28 (zqb 14 767) HT_ HW_ hHeld ?_;refine zqw 8 33 (zqb 14 1023) HT_ HW_ hHeld ?_;refine zqp 10 35 (zqb 14 2047) HT_ ?_;refine zqw 11 36 (zqb 14 4095) HT_ HW_ hHeld ?_;refine zqp 12 37 (zqb 14 8191) HT_ ?_;refine last_ (i:=13) (N:=none) (zqb 14 16383) rfl rfl (one_of HT_.out zqk) (by decide) (fun K hK=>?_);refine skip_ (w1:=?_) (by rfl) rfl ?_ ?_;rotate_left
                   ·go_simp;rfl
                   refine hK.out _ _ ?_;clear hK K;refine done_ (done_of HT_.out zqk) ?_;(try go_wp2);(try simp only [← a9])
                   go_roundg k2
                   (case measure=> exact zq197);case rel=>exact⟨(i7),(wrap64 (a1+1)),zq6,H',⟨zq197⟩,⟨by(try simp only [a9]);refine zqfS ?_;exact HQ25.out⟩,⟨by repeat(first|(with_reducible first|exact HB.out|apply below_alloc|apply pw_below_drewN|apply below_drew1|refine below_set ?_ GB23.out)|exact HB.out)⟩⟩
                  ·rw [if_neg f9] at H;exact absurd H (by simp)
                 ·rw [if_neg f8] at H;exact absurd H (by simp)
                ·rw [if_neg f7] at H;exact absurd H (by simp)
               ·rw [if_neg f6] at H;exact absurd H (by simp)
              ·rw [if_neg f5] at H;exact absurd H (by simp)
             ·rw [if_neg f4] at H;exact absurd H (by simp)
            ·rw [if_neg b6] at H;have j4:decide (a1<(l0.length:Int))=false:=decide_eq_false b6;clear b6;have H':=zqm H;clear H
             go_wp2
             (try simp only [← a9])
             go_roundg k2
             (case measure=> exact zq197);case rel=>exact⟨(a2),(wrap64 (a0+1)),zq6,H',⟨zq197⟩,⟨by(try simp only [a9]);refine zqfS ?_;exact HO_3.out⟩,⟨zq2⟩⟩
         ·rw [if_neg f3] at H;exact absurd H (by simp)
        ·rw [if_neg c9] at H;exact absurd H (by simp)
       ·rw [if_neg c8] at H;exact absurd H (by simp)
      ·rw [if_neg c7] at H;exact absurd H (by simp)
     ·rw [if_neg c6] at H;have j5:decide (a0<(l0.length:Int))=false:=decide_eq_false c6;clear c6;obtain rfl:=Option.some.inj H
      go_wp2
      go_ret
      exact⟨_,zq13,zqfS HO_3.out,zq2⟩
  ·rw [if_neg c3] at H;exact absurd H (by simp)
 ·rw [if_neg c2] at H;exact absurd H (by simp)
end
section
attribute [local go_sem] max2_int min2_int max_two min_two max_three min_three max_four min_four
mutual
def impl_meet.l0 : Nat → List (List Int) → Int → Int → Int → Int → Option (Int)
 | 0, _, _, _, _, _ => none
 | k + 1, x0, x1, x2, x11, x12 => if x12 < x11 then (if 0 ≤ x12 then (if x12 < (x0.length : Int) then (if 0 ≤ x1 then (if x1 < ((rd_L2 x0 x12).length : Int) then (if (rd (rd_L2 x0 x12) x1) = 0 then (impl_meet.j1 k x0 x1 x2 x12 x11 x12 true) else (if 0 ≤ x2 then (if x2 < ((rd_L2 x0 x12).length : Int) then (impl_meet.j1 k x0 x1 x2 x12 x11 x12 ((rd (rd_L2 x0 x12) x2) == 0)) else (none)) else (none))) else (none)) else (none)) else (none)) else (none)) else (some (-1))
def impl_meet.j1 : Nat → List (List Int) → Int → Int → Int → Int → Int → Bool → Option (Int)
 | 0, _, _, _, _, _, _, _ => none
 | k + 1, x0, x1, x2, x7, x11, x12, x32 => if x32 = true then (impl_meet.l0 k x0 x1 x2 x11 (wrap64 (x12 + 1))) else (impl_meet.l1 k x0 x1 x2 x7 true x11 x12 (x0.length : Int) 0)
def impl_meet.l1 : Nat → List (List Int) → Int → Int → Int → Bool → Int → Int → Int → Int → Option (Int)
 | 0, _, _, _, _, _, _, _, _, _ => none
 | k + 1, x0, x1, x2, x7, x8, x11, x12, x34, x35 => if x35 < x34 then (if x8 = true then (if 0 ≤ x35 then (if x35 < (x0.length : Int) then (if 0 ≤ x1 then (if x1 < ((rd_L2 x0 x35).length : Int) then (if (rd (rd_L2 x0 x35) x1) = 0 then (impl_meet.l1 k x0 x1 x2 x7 true x11 x12 x34 (wrap64 (x35 + 1))) else (if 0 ≤ x2 then (if x2 < ((rd_L2 x0 x35).length : Int) then (if (rd (rd_L2 x0 x35) x2) = 0 then (impl_meet.l1 k x0 x1 x2 x7 true x11 x12 x34 (wrap64 (x35 + 1))) else (if 0 ≤ x7 then (if x7 < ((rd_L2 x0 x35).length : Int) then (impl_meet.l1 k x0 x1 x2 x7 ((rd (rd_L2 x0 x35) x7) == 1) x11 x12 x34 (wrap64 (x35 + 1))) else (none)) else (none))) else (none)) else (none))) else (none)) else (none)) else (none)) else (none)) else (impl_meet.l1 k x0 x1 x2 x7 false x11 x12 x34 (wrap64 (x35 + 1)))) else (if x8 = true then (some x7) else (impl_meet.l0 k x0 x1 x2 x11 (wrap64 (x12 + 1))))
end
def impl_meet.f (k : Nat) (l0 : List (List Int)) (a1 : Int) (a2 : Int) : Option (Int) := impl_meet.l0 k l0 a1 a2 (l0.length : Int) 0
set_option maxHeartbeats 8000000 in
set_option maxRecDepth 100000 in
theorem impl_meet.calls (k : Nat) (A0 : Option Addr) (c0 : Nat) (l0 : List (List Int)) (a1 : Int) (a2 : Int) (r : Int) (w : World) (hr0 : Kd.C (Kd.slice 3 (Kd.int .i64)) w A0 l0.length l0) (hc0 : l0.length ≤ c0) (h : impl_meet.f k l0 a1 a2 = some r) :
  Calls Try.prog 134 #[.slice A0 l0.length c0, .int .i64 a1, .int .i64 a2] w fun e w' => e = .returned (.int .i64 r) ∧ Drawn0 w w' := by
 have d3:=zqm hr0;have o7:=zqm hc0;clear hr0 hc0;have H:(impl_meet.l0 k l0 a1 a2 (l0.length:Int) 0)=some r:=h;clear h;have H':=zqm H;clear H
 go_enter Try.func134,Try.ntmps134
 go_wp2
 go_loopg [12] k (fun kq m9 w'=> ∃(a3:Int),m9= .int .i64 a3∧Aside0 (impl_meet.l0 kq l0 a1 a2 (l0.length:Int) a3=some r)∧Aside0 (kq≤k)∧Drawn0 w w')
 case atStart=>exact⟨(0),zq6,H',⟨Nat.le_refl _⟩,zq8⟩
 case round=>
  clear H';obtain⟨a3,rfl,HA,b0,⟨m1,rfl⟩⟩:=hrel
  cases gk with
  |zero=>exact absurd HA.out (by simp [impl_meet.l0])
  |succ k1=>
   have H:=HA.out;clear HA;simp only [impl_meet.l0] at H
   by_cases c4:a3<(l0.length:Int)
   ·rw [if_pos c4] at H;have l4:decide (a3<(l0.length:Int))=true:=decide_eq_true c4;clear c4;have j4:=zqm H;clear H
    go_upto_region 4 with (fail)
    go_cut [32] (fun n0 wc=> ∃(kq:Nat) (d8:Bool),n0= .bool d8∧Aside0 (impl_meet.j1 kq l0 a1 a2 a3 (l0.length:Int) a3 d8=some r)∧Aside0 (kq≤k1)∧Drawn0 w wc)
    case first=>
     have H:=j4.out;clear j4
     by_cases c6:0≤a3
     ·rw [if_pos c6] at H;have j7:decide (0≤a3)=true:=decide_eq_true c6;clear c6;(first|rw [j7]|(simp only [i64_w,i32_w];rw [j7])|skip)
      by_cases c7:a3<(l0.length:Int)
      ·rw [if_pos c7] at H;have o4:decide (a3<(l0.length:Int))=true:=decide_eq_true c7;clear c7
       by_cases c8:0≤a1
       ·rw [if_pos c8] at H;have o5:decide (0≤a1)=true:=decide_eq_true c8;clear c8
        by_cases c9:a1<((rd_L2 l0 a3).length:Int)
        ·rw [if_pos c9] at H;have o6:decide (a1<((rd_L2 l0 a3).length:Int))=true:=decide_eq_true c9;clear c9
         by_cases d9:(rd (rd_L2 l0 a3) a1)=0
         ·rw [if_pos d9] at H;have k5:((rd (rd_L2 l0 a3) a1)==0)=true:=beq_iff_eq.mpr d9;have k6:((rd (rd_L2 l0 a3) a1) !=0)=false:=bne_eq_false_iff_eq.mpr d9;clear d9;have H':=zqm H;clear H;have b9:0≤(a3:Int):=zqo;have c5:a3<(l0.length:Int):=zqo;obtain⟨g8,j2,j5,f6,f1,b4,b2⟩:=at_L2 d3.out a3 b9 c5
          cases f6
          have d5:=zqm b2;have i3:=zqm b4;clear b2 b4;replace b9:=eq_true b9;replace c5:=eq_true c5;have c1:0≤(a1:Int):=zqo;have d0:a1<((rd_L2 l0 a3).length:Int):=zqo;obtain⟨j9,f7,i7⟩:=Kd.at_int d5.out a1 c1 d0
          cases f7
          replace c1:=eq_true c1;replace d0:=eq_true d0
          go_wp2
          go_meet
          case rel=>exact⟨_,(true),zq6,H',⟨by have:=b0.out;first|omega|exact Nat.le_refl _⟩,zq8⟩
         ·rw [if_neg d9] at H;have k5:((rd (rd_L2 l0 a3) a1)==0)=false:=beq_eq_false_iff_ne.mpr d9;have k6:((rd (rd_L2 l0 a3) a1) !=0)=true:=bne_iff_ne.mpr d9
          by_cases h0:0≤a2
          ·rw [if_pos h0] at H;have n4:decide (0≤a2)=true:=decide_eq_true h0;clear h0
           by_cases h1:a2<((rd_L2 l0 a3).length:Int)
           ·rw [if_pos h1] at H;have n5:decide (a2<((rd_L2 l0 a3).length:Int))=true:=decide_eq_true h1;clear h1;have H':=zqm H;clear H;have b9:0≤(a3:Int):=zqo;have c5:a3<(l0.length:Int):=zqo;obtain⟨g8,j2,j5,f6,f1,b4,b2⟩:=at_L2 d3.out a3 b9 c5
            cases f6
            have d5:=zqm b2;have i3:=zqm b4;clear b2 b4;replace b9:=eq_true b9;replace c5:=eq_true c5;have c1:0≤(a1:Int):=zqo;have d0:a1<((rd_L2 l0 a3).length:Int):=zqo;obtain⟨j9,f7,i7⟩:=Kd.at_int d5.out a1 c1 d0
            cases f7
            replace c1:=eq_true c1;replace d0:=eq_true d0;have g0:0≤(a3:Int):=zqo;have g4:a3<(l0.length:Int):=zqo;obtain⟨k0,m5,m7,l5,i8,e9,e7⟩:=at_L2 d3.out a3 g0 g4;obtain rfl:g8=k0:=(by injection l5);have i5:=zqm e7;have l9:=zqm e9;clear e7 e9;replace g0:=eq_true g0;replace g4:=eq_true g4;have ea_:=Option.some.inj (f1.symm.trans i8);injection ea_ with ea_ en_ ec_;subst ea_;subst ec_;clear en_;have g1:0≤(a2:Int):=zqo;have g5:a2<((rd_L2 l0 a3).length:Int):=zqo;obtain⟨n2,l6,m2⟩:=Kd.at_int i5.out a2 g1 g5
            cases l6
            replace g1:=eq_true g1;replace g5:=eq_true g5
            go_wp2
            go_meet
            case rel=>exact⟨_,(((rd (rd_L2 l0 a3) a2)==0)),zq6,H',⟨by have:=b0.out;first|omega|exact Nat.le_refl _⟩,zq8⟩
           ·rw [if_neg h1] at H;exact absurd H (by simp)
          ·rw [if_neg h0] at H;exact absurd H (by simp)
        ·rw [if_neg c9] at H;exact absurd H (by simp)
       ·rw [if_neg c8] at H;exact absurd H (by simp)
      ·rw [if_neg c7] at H;exact absurd H (by simp)
     ·rw [if_neg c6] at H;exact absurd H (by simp)
    case rest=>
     clear j4;obtain⟨kq,d8,rfl,HA,b7,⟨mc4,rfl⟩⟩:=hcut
     cases kq with
     |zero=>exact absurd HA.out (by simp [impl_meet.j1])
     |succ j8=>
      have H:=HA.out;clear HA;simp only [impl_meet.j1] at H
      by_cases h2:d8=true
      ·subst h2;rw [if_pos rfl] at H;have H':=zqm H;clear H
       go_wp2
       go_roundg j8
       (case measure=>have:=b0.out;have:=b7.out;omega);case rel=>exact⟨(wrap64 (a3+1)),zq6,H',⟨by have:=b0.out;have:=b7.out;omega⟩,zq8⟩
      ·replace h2:=Bool.eq_false_iff.mpr h2;subst h2;rw [if_neg (show¬(false=true) by decide)] at H;have H':=zqm H;clear H
       go_wp2
       go_loopg [8,35] j8 (fun kq v8 n1 w'=> ∃(e4:Bool) (a0:Int),v8= .bool e4∧n1= .int .i64 a0∧Aside0 (impl_meet.l1 kq l0 a1 a2 a3 e4 (l0.length:Int) a3 (l0.length:Int) a0=some r)∧Aside0 (kq≤j8)∧Drawn0 w w')
       case atStart=>exact⟨(true),(0),zq6,zq6,H',⟨Nat.le_refl _⟩,zq8⟩
       case round=>
        clear H';obtain⟨e4,a0,rfl,rfl,HA,b8,⟨m3,rfl⟩⟩:=hrel
        cases gk with
        |zero=>exact absurd HA.out (by simp [impl_meet.l1])
        |succ k3=>
         have H:=HA.out;clear HA;simp only [impl_meet.l1] at H
         by_cases e6:a0<(l0.length:Int)
         ·rw [if_pos e6] at H;have k7:decide (a0<(l0.length:Int))=true:=decide_eq_true e6;clear e6
          by_cases h3:e4=true
          ·subst h3;rw [if_pos rfl] at H
           by_cases h4:0≤a0
           ·rw [if_pos h4] at H;have n6:decide (0≤a0)=true:=decide_eq_true h4;clear h4
            by_cases h5:a0<(l0.length:Int)
            ·rw [if_pos h5] at H;have n7:decide (a0<(l0.length:Int))=true:=decide_eq_true h5;clear h5
             by_cases h6:0≤a1
             ·rw [if_pos h6] at H;have n8:decide (0≤a1)=true:=decide_eq_true h6;clear h6
              by_cases h7:a1<((rd_L2 l0 a0).length:Int)
              ·rw [if_pos h7] at H;have n9:decide (a1<((rd_L2 l0 a0).length:Int))=true:=decide_eq_true h7;clear h7
               by_cases e0:(rd (rd_L2 l0 a0) a1)=0
               ·rw [if_pos e0] at H;have k8:((rd (rd_L2 l0 a0) a1)==0)=true:=beq_iff_eq.mpr e0;have k9:((rd (rd_L2 l0 a0) a1) !=0)=false:=bne_eq_false_iff_eq.mpr e0;clear e0;have H':=zqm H;clear H;have a6:0≤(a0:Int):=zqo;have a8:a0<(l0.length:Int):=zqo;obtain⟨d4,f4,f5,e2,b6,a5,a4⟩:=at_L2 d3.out a0 a6 a8
                cases e2
                have b1:=zqm a4;have e5:=zqm a5;clear a4 a5;replace a6:=eq_true a6;replace a8:=eq_true a8;have a7:0≤(a1:Int):=zqo;have a9:a1<((rd_L2 l0 a0).length:Int):=zqo;obtain⟨g9,e3,f2⟩:=Kd.at_int b1.out a1 a7 a9
                cases e3
                replace a7:=eq_true a7;replace a9:=eq_true a9
                go_wp2
                go_roundg k3
                (case measure=> exact zq96);case rel=>exact⟨(true),(wrap64 (a0+1)),zq6,zq6,H',⟨zq96⟩,zq8⟩
               ·rw [if_neg e0] at H;have k8:((rd (rd_L2 l0 a0) a1)==0)=false:=beq_eq_false_iff_ne.mpr e0;have k9:((rd (rd_L2 l0 a0) a1) !=0)=true:=bne_iff_ne.mpr e0
                by_cases h8:0≤a2
                ·rw [if_pos h8] at H;have o0:decide (0≤a2)=true:=decide_eq_true h8;clear h8
                 by_cases h9:a2<((rd_L2 l0 a0).length:Int)
                 ·rw [if_pos h9] at H;have o1:decide (a2<((rd_L2 l0 a0).length:Int))=true:=decide_eq_true h9;clear h9
                  by_cases e1:(rd (rd_L2 l0 a0) a2)=0
                  ·rw [if_pos e1] at H;have l2:((rd (rd_L2 l0 a0) a2)==0)=true:=beq_iff_eq.mpr e1;have l3:((rd (rd_L2 l0 a0) a2) !=0)=false:=bne_eq_false_iff_eq.mpr e1;clear e1;have H':=zqm H;clear H;have a6:0≤(a0:Int):=zqo;have a8:a0<(l0.length:Int):=zqo;obtain⟨d4,f4,f5,e2,b6,a5,a4⟩:=at_L2 d3.out a0 a6 a8
                   cases e2
                   have b1:=zqm a4;have e5:=zqm a5;clear a4 a5;replace a6:=eq_true a6;replace a8:=eq_true a8;have a7:0≤(a1:Int):=zqo;have a9:a1<((rd_L2 l0 a0).length:Int):=zqo;obtain⟨g9,e3,f2⟩:=Kd.at_int b1.out a1 a7 a9
                   cases e3
                   replace a7:=eq_true a7;replace a9:=eq_true a9;have c2:0≤(a0:Int):=zqo;have d1:a0<(l0.length:Int):=zqo;obtain⟨f3,j3,j6,f8,d7,b5,b3⟩:=at_L2 d3.out a0 c2 d1;obtain rfl:d4=f3:=(by injection f8);have d6:=zqm b3;have i4:=zqm b5;clear b3 b5;replace c2:=eq_true c2;replace d1:=eq_true d1;have ea_:=Option.some.inj (b6.symm.trans d7);injection ea_ with ea_ en_ ec_;subst ea_;subst ec_;clear en_;have c3:0≤(a2:Int):=zqo;have d2:a2<((rd_L2 l0 a0).length:Int):=zqo;obtain⟨k2,f9,i9⟩:=Kd.at_int d6.out a2 c3 d2
                   cases f9
                   replace c3:=eq_true c3;replace d2:=eq_true d2
                   go_wp2
                   go_roundg k3
                   (case measure=> exact zq96);case rel=>exact⟨(true),(wrap64 (a0+1)),zq6,zq6,H',⟨zq96⟩,zq8⟩
                  ·rw [if_neg e1] at H;have l2:((rd (rd_L2 l0 a0) a2)==0)=false:=beq_eq_false_iff_ne.mpr e1;have l3:((rd (rd_L2 l0 a0) a2) !=0)=true:=bne_iff_ne.mpr e1
                   by_cases i0:0≤a3
                   ·rw [if_pos i0] at H;have o2:decide (0≤a3)=true:=decide_eq_true i0;clear i0
                    by_cases i1:a3<((rd_L2 l0 a0).length:Int)
                    ·rw [if_pos i1] at H;have o3:decide (a3<((rd_L2 l0 a0).length:Int))=true:=decide_eq_true i1;clear i1;have H':=zqm H;clear H;have a6:0≤(a0:Int):=zqo;have a8:a0<(l0.length:Int):=zqo;obtain⟨d4,f4,f5,e2,b6,a5,a4⟩:=at_L2 d3.out a0 a6 a8
                     cases e2
                     have b1:=zqm a4;have e5:=zqm a5;clear a4 a5;replace a6:=eq_true a6;replace a8:=eq_true a8;have a7:0≤(a1:Int):=zqo;have a9:a1<((rd_L2 l0 a0).length:Int):=zqo;obtain⟨g9,e3,f2⟩:=Kd.at_int b1.out a1 a7 a9
                     cases e3
                     replace a7:=eq_true a7;replace a9:=eq_true a9;have c2:0≤(a0:Int):=zqo;have d1:a0<(l0.length:Int):=zqo;obtain⟨f3,j3,j6,f8,d7,b5,b3⟩:=at_L2 d3.out a0 c2 d1;obtain rfl:d4=f3:=(by injection f8);have d6:=zqm b3;have i4:=zqm b5;clear b3 b5;replace c2:=eq_true c2;replace d1:=eq_true d1;have ea_:=Option.some.inj (b6.symm.trans d7);injection ea_ with ea_ en_ ec_;subst ea_;subst ec_;clear en_;have c3:0≤(a2:Int):=zqo;have d2:a2<((rd_L2 l0 a0).length:Int):=zqo;obtain⟨k2,f9,i9⟩:=Kd.at_int d6.out a2 c3 d2
                     cases f9
                     replace c3:=eq_true c3;replace d2:=eq_true d2;have g2:0≤(a0:Int):=zqo;have g6:a0<(l0.length:Int):=zqo;obtain⟨k4,m6,m8,l7,j0,f0,e8⟩:=at_L2 d3.out a0 g2 g6;obtain rfl:d4=k4:=(by injection l7);have i6:=zqm e8;have m0:=zqm f0;clear e8 f0;replace g2:=eq_true g2;replace g6:=eq_true g6;have ea_:=Option.some.inj (b6.symm.trans j0);injection ea_ with ea_ en_ ec_;subst ea_;subst ec_;clear en_;have g3:0≤(a3:Int):=zqo;have g7:a3<((rd_L2 l0 a0).length:Int):=zqo;obtain⟨n3,l8,m4⟩:=Kd.at_int i6.out a3 g3 g7
                     cases l8
                     replace g3:=eq_true g3;replace g7:=eq_true g7
                     go_wp2
                     go_roundg k3
                     (case measure=> exact zq96);case rel=>exact⟨(((rd (rd_L2 l0 a0) a3)==1)),(wrap64 (a0+1)),zq6,zq6,H',⟨zq96⟩,zq8⟩
                    ·rw [if_neg i1] at H;exact absurd H (by simp)
                   ·rw [if_neg i0] at H;exact absurd H (by simp)
                 ·rw [if_neg h9] at H;exact absurd H (by simp)
                ·rw [if_neg h8] at H;exact absurd H (by simp)
              ·rw [if_neg h7] at H;exact absurd H (by simp)
             ·rw [if_neg h6] at H;exact absurd H (by simp)
            ·rw [if_neg h5] at H;exact absurd H (by simp)
           ·rw [if_neg h4] at H;exact absurd H (by simp)
          ·replace h3:=Bool.eq_false_iff.mpr h3;subst h3;rw [if_neg (show¬(false=true) by decide)] at H;have H':=zqm H;clear H
           go_wp2
           go_roundg k3
           (case measure=> exact zq96);case rel=>exact⟨(false),(wrap64 (a0+1)),zq6,zq6,H',⟨zq96⟩,zq8⟩
         ·rw [if_neg e6] at H;have k7:decide (a0<(l0.length:Int))=false:=decide_eq_false e6;clear e6
          by_cases i2:e4=true
          ·subst i2;rw [if_pos rfl] at H;obtain rfl:=Option.some.inj H
           go_wp2
           go_ret
           exact⟨zq6,zq8⟩
          ·replace i2:=Bool.eq_false_iff.mpr i2;subst i2;rw [if_neg (show¬(false=true) by decide)] at H;have H':=zqm H;clear H
           go_wp2
           go_roundg k3
           (case measure=> exact zq96);case rel=>exact⟨(wrap64 (a3+1)),zq6,H',⟨zq96⟩,zq8⟩
   ·rw [if_neg c4] at H;have l4:decide (a3<(l0.length:Int))=false:=decide_eq_false c4;clear c4;obtain rfl:=Option.some.inj H
    go_wp2
    go_ret
    exact⟨zq6,zq8⟩
end
section
attribute [local go_sem] max2_int min2_int max_two min_two max_three min_three max_four min_four
mutual
def impl_LatticeOk.l0 : Nat → List (List Int) → List (List Int) → Int → Int → Option (Bool)
 | 0, _, _, _, _ => none
 | k + 1, x0, x3, x12, x13 => if x13 < x12 then (impl_LatticeOk.l1 k x0 x3 x13 x12 x13 (x0.length : Int) 0) else (some true)
def impl_LatticeOk.l1 : Nat → List (List Int) → List (List Int) → Int → Int → Int → Int → Int → Option (Bool)
 | 0, _, _, _, _, _, _, _ => none
 | k + 1, x0, x3, x4, x12, x13, x17, x18 => if x18 < x17 then ((impl_meet.f k x0 x4 x18).bind fun t439 => (if t439 < 0 then (some false) else ((impl_meet.f k x3 x4 x18).bind fun t440 => (if t440 < 0 then (some false) else (impl_LatticeOk.l1 k x0 x3 x4 x12 x13 x17 (wrap64 (x18 + 1))))))) else (impl_LatticeOk.l0 k x0 x3 x12 (wrap64 (x13 + 1)))
end
def impl_LatticeOk.f (k : Nat) (l0 : List (List Int)) : Option (Bool) := (impl_OrderOk.f k l0).bind fun t435 => (if t435 = true then ((impl_turned.f k l0).bind fun t436 => (impl_LatticeOk.l0 k l0 t436 (l0.length : Int) 0)) else (some false))
set_option maxHeartbeats 8000000 in
set_option maxRecDepth 100000 in
theorem impl_LatticeOk.calls (k : Nat) (A0 : Option Addr) (c0 : Nat) (l0 : List (List Int)) (r : Bool) (w : World) (hr0 : Kd.C (Kd.slice 3 (Kd.int .i64)) w A0 l0.length l0) (hc0 : l0.length ≤ c0) (h : impl_LatticeOk.f k l0 = some r) :
  Calls Try.prog 132 #[.slice A0 l0.length c0] w fun e w' => e = .returned (.bool r) ∧ Below w.heap.size w w' := by
 have a6:=zqm hr0;have a5:=zqm hc0;clear hr0 hc0;have HB:=zqm (Below.refl w.heap.size w);have H:((impl_OrderOk.f k l0).bind fun a8=>(if a8=true then((impl_turned.f k l0).bind fun a2=>(impl_LatticeOk.l0 k l0 a2 (l0.length:Int) 0)) else(some false)))=some r:=h;clear h;replace H:=Option.bind_eq_some_iff.mp H;obtain⟨a8,b6,H⟩:=H;(try dsimp only at H);have A2:=zqm b6;clear b6
 by_cases c3:a8=true
 ·subst c3;rw [if_pos rfl] at H;replace H:=Option.bind_eq_some_iff.mp H;obtain⟨a2,b7,H⟩:=H;(try dsimp only at H);have A4:=zqm b7;clear b7;have H':=zqm H;clear H
  go_enter Try.func132,Try.ntmps132
  go_wp2_with (first|((with_reducible refine gate_callee (f:=81) rfl ?_);refine goesL_ (some 7) rfl rfl Try.func81 zqk rfl #[.slice A0 l0.length c0] rfl zq5 ?_;(with_reducible refine(impl_OrderOk.calls k _ _ l0 true _ ?side1 ?side2 A2.out).mono ?_);(case side1=> exact zq98);(case side2=>exact a5.out);rintro e w' ⟨rfl,⟨nd,rfl⟩⟩;refine⟨_,rfl,?_⟩)|((with_reducible refine gate_callee (f:=133) rfl ?_);refine goesL_ (some 10) rfl rfl Try.func133 zqk rfl #[.slice A0 l0.length c0] rfl zq5 ?_;(with_reducible refine(impl_turned.calls k _ _ l0 a2 _ ?side1 ?side2 A4.out).mono ?_);(case side1=> exact zq98);(case side2=>exact a5.out);rintro e w5 ⟨b2,rfl,b9,hb⟩;refine⟨_,rfl,?_⟩;have b3:=zqm (Kd.S_lower b9 (below_size zq2));replace HB:=zqm (below_step zq2 hb);clear hb b9))
  go_loopg [13] k (fun kq d0 w'=> ∃(a0:Int),d0= .int .i64 a0∧Aside0 (impl_LatticeOk.l0 kq l0 a2 (l0.length:Int) a0=some r)∧Aside0 (kq≤k)∧Aside0 (Kd.S (Kd.slice 3 (Kd.int .i64)) 24 w' w.heap.size (fun _=>True) b2 a2)∧Aside0 (Below w.heap.size w w'))
  case atStart=>exact⟨(0),zq6,H',⟨Nat.le_refl _⟩,⟨zqfS b3.out⟩,⟨zq2⟩⟩
  case round=>
   clear H';obtain⟨a0,rfl,HA,a9,HO_3,HB⟩:=hrel
   cases gk with
   |zero=>exact absurd HA.out (by simp [impl_LatticeOk.l0])
   |succ k1=>
    have H:=HA.out;clear HA;simp only [impl_LatticeOk.l0] at H
    by_cases c6:a0<(l0.length:Int)
    ·rw [if_pos c6] at H;have c1:decide (a0<(l0.length:Int))=true:=decide_eq_true c6;clear c6;have H':=zqm H;clear H
     go_wp2
     go_loopg [18] k1 (fun kq d1 w'=> ∃(a1:Int),d1= .int .i64 a1∧Aside0 (impl_LatticeOk.l1 kq l0 a2 a0 (l0.length:Int) a0 (l0.length:Int) a1=some r)∧Aside0 (kq≤k1)∧Aside0 (Kd.S (Kd.slice 3 (Kd.int .i64)) 24 w' w.heap.size (fun _=>True) b2 a2)∧Aside0 (Below w.heap.size w w'))
     case atStart=>exact⟨(0),zq6,H',⟨Nat.le_refl _⟩,⟨zqfS HO_3.out⟩,⟨zq2⟩⟩
     case round=>
      clear H';obtain⟨a1,rfl,HA,b0,HO_3,HB⟩:=hrel
      cases gk with
      |zero=>exact absurd HA.out (by simp [impl_LatticeOk.l1])
      |succ k2=>
       have H:=HA.out;clear HA;simp only [impl_LatticeOk.l1] at H
       by_cases c7:a1<(l0.length:Int)
       ·rw [if_pos c7] at H;have c2:decide (a1<(l0.length:Int))=true:=decide_eq_true c7;clear c7;replace H:=Option.bind_eq_some_iff.mp H;obtain⟨a3,b8,H⟩:=H;(try dsimp only at H);have A8:=zqm b8;clear b8
        by_cases c9:a3<0
        ·rw [if_pos c9] at H;have c4:decide (a3<0)=true:=decide_eq_true c9;clear c9;obtain rfl:=Option.some.inj H
         go_wp2_with (first|((with_reducible refine gate_callee (f:=134) rfl ?_);refine goesL_ (some 24) rfl rfl Try.func134 zqk rfl #[.slice A0 l0.length c0,.int .i64 a0,.int .i64 a1] rfl zq5 ?_;(with_reducible refine(impl_meet.calls k2 _ _ l0 a0 a1 a3 _ ?side1 ?side2 A8.out).mono ?_);(case side1=> exact zq18);(case side2=>exact a5.out);rintro e w' ⟨rfl,⟨nd,rfl⟩⟩;refine⟨_,rfl,?_⟩))
         go_ret
         exact⟨zq13,zq2⟩
        ·rw [if_neg c9] at H;have c4:decide (a3<0)=false:=decide_eq_false c9;clear c9;replace H:=Option.bind_eq_some_iff.mp H;obtain⟨a4,b1,H⟩:=H;(try dsimp only at H);have b5:=zqm b1;clear b1
         by_cases a7:a4<0
         ·rw [if_pos a7] at H;have b4:decide (a4<0)=true:=decide_eq_true a7;clear a7;obtain rfl:=Option.some.inj H
          go_wp2_with (first|((with_reducible refine gate_callee (f:=134) rfl ?_);refine goesL_ (some 24) rfl rfl Try.func134 zqk rfl #[.slice A0 l0.length c0,.int .i64 a0,.int .i64 a1] rfl zq5 ?_;(with_reducible refine(impl_meet.calls k2 _ _ l0 a0 a1 a3 _ ?side1 ?side2 A8.out).mono ?_);(case side1=> exact zq18);(case side2=>exact a5.out);rintro e w' ⟨rfl,⟨nd,rfl⟩⟩;refine⟨_,rfl,?_⟩;obtain⟨d2,d4,c5⟩:=Kd.S_slice HO_3.out;subst c5)|(go_at_call 134;(with_reducible refine(impl_meet.calls k2 _ _ a2 a0 a1 a4 _ ?side1 ?side2 b5.out).mono ?_);(case side1=> exact zq124);(case side2=>exact(Kd.S_reads' HO_3.out).2.1);rintro e w' ⟨rfl,⟨nd,rfl⟩⟩))
          go_ret
          exact⟨zq13,zq2⟩
         ·rw [if_neg a7] at H;have b4:decide (a4<0)=false:=decide_eq_false a7;clear a7;have H':=zqm H;clear H
          go_wp2_with (first|((with_reducible refine gate_callee (f:=134) rfl ?_);refine goesL_ (some 24) rfl rfl Try.func134 zqk rfl #[.slice A0 l0.length c0,.int .i64 a0,.int .i64 a1] rfl zq5 ?_;(with_reducible refine(impl_meet.calls k2 _ _ l0 a0 a1 a3 _ ?side1 ?side2 A8.out).mono ?_);(case side1=> exact zq18);(case side2=>exact a5.out);rintro e w' ⟨rfl,⟨nd,rfl⟩⟩;refine⟨_,rfl,?_⟩;obtain⟨d3,d5,c8⟩:=Kd.S_slice HO_3.out;subst c8)|(go_at_call 134;(with_reducible refine(impl_meet.calls k2 _ _ a2 a0 a1 a4 _ ?side1 ?side2 b5.out).mono ?_);(case side1=> exact zq124);(case side2=>exact(Kd.S_reads' HO_3.out).2.1);rintro e w' ⟨rfl,⟨nd,rfl⟩⟩))
          go_roundg k2
          (case measure=> exact zq195);case rel=>exact⟨(wrap64 (a1+1)),zq6,H',⟨zq195⟩,⟨zqfS HO_3.out⟩,⟨zq2⟩⟩
       ·rw [if_neg c7] at H;have c2:decide (a1<(l0.length:Int))=false:=decide_eq_false c7;clear c7;have H':=zqm H;clear H
        go_wp2
        go_roundg k2
        (case measure=> exact zq195);case rel=>exact⟨(wrap64 (a0+1)),zq6,H',⟨zq195⟩,⟨zqfS HO_3.out⟩,⟨zq2⟩⟩
    ·rw [if_neg c6] at H;have c1:decide (a0<(l0.length:Int))=false:=decide_eq_false c6;clear c6;obtain rfl:=Option.some.inj H
     go_wp2
     go_ret
     exact⟨zq13,zq2⟩
 ·replace c3:=Bool.eq_false_iff.mpr c3;subst c3;rw [if_neg (show¬(false=true) by decide)] at H;obtain rfl:=Option.some.inj H
  go_enter Try.func132,Try.ntmps132
  go_wp2_with (first|((with_reducible refine gate_callee (f:=81) rfl ?_);refine goesL_ (some 7) rfl rfl Try.func81 zqk rfl #[.slice A0 l0.length c0] rfl zq5 ?_;(with_reducible refine(impl_OrderOk.calls k _ _ l0 false _ ?side1 ?side2 A2.out).mono ?_);(case side1=> exact zq98);(case side2=>exact a5.out);rintro e w' ⟨rfl,⟨nd,rfl⟩⟩;refine⟨_,rfl,?_⟩))
  go_ret
  exact⟨zq13,zq2⟩
end
section
attribute [local go_sem] max2_int min2_int max_two min_two max_three min_three max_four min_four
def impl_isAnswer.f (l0 : List (List Int)) (a1 : Int) : Option (Bool) := if a1 ≥ 0 then (some (decide (a1 < (l0.length : Int)))) else (some false)
set_option maxHeartbeats 8000000 in
set_option maxRecDepth 100000 in
theorem impl_isAnswer.calls (A0 : Option Addr) (c0 : Nat) (l0 : List (List Int)) (a1 : Int) (r : Bool) (w : World) (hr0 : Kd.C (Kd.slice 3 (Kd.int .i64)) w A0 l0.length l0) (hc0 : l0.length ≤ c0) (h : impl_isAnswer.f l0 a1 = some r) :
  Calls Try.prog 135 #[.slice A0 l0.length c0, .int .i64 a1] w fun e w' => e = .returned (.bool r) ∧ Drawn0 w w' := by
 have HR0 := Aside0.mk hr0
 have HC0 := Aside0.mk hc0
 clear hr0 hc0
 have H : (if a1 ≥ 0 then (some (decide (a1 < (l0.length : Int)))) else (some false)) = some r := h
 clear h
 by_cases c3 : a1 ≥ 0
 ·rw [if_pos c3] at H
  have c3b0 : decide (0 ≤ a1) = true := decide_eq_true c3
  clear c3
  obtain rfl := Option.some.inj H
  go_enter Try.func135, Try.ntmps135
  go_wp2
  go_ret
  exact ⟨zq105, by repeat (first | exact Drawn0.refl _ | apply Drawn0.step)⟩
 ·rw [if_neg c3] at H
  have c3b0 : decide (0 ≤ a1) = false := decide_eq_false c3
  clear c3
  obtain rfl := Option.some.inj H
  go_enter Try.func135, Try.ntmps135
  go_wp2
  go_ret
  exact ⟨zq105, by repeat (first | exact Drawn0.refl _ | apply Drawn0.step)⟩
end
end Go.Proofs.Ytcbjpdaogicibaa.Print
end
section
namespace Go.Proofs.Ytcbjpdaogicibaa.Print
open Go.RowKit Go.Proofs.YtcbjpdaogicibaaW.PrintWords Go.Proofs.YtcbjpdaogicibaaW.PrintLast Go.Proofs.YtcbjpdaogicibaaW.PrintMore
open Oml
structure ToldFacts (k : Nat) (U : List (List Int)) : Prop where
 lat:impl_LatticeOk.f k U=some (latticeB U)
 turn:latticeB U=true→impl_turned.f k U=some (turnL U)
 meet:latticeB U=true→ ∀a b:Nat,a<U.length→b<U.length→impl_meet.f k U a b=some (mI U a b)
 join:latticeB U=true→ ∀a b:Nat,a<U.length→b<U.length→impl_meet.f k (turnL U) a b=some (jI U a b)
 least:latticeB U=true→impl_LeastOf.f k U=some (optI (leastO U),(leastO U).isSome)
set_option maxHeartbeats 1000000 in
set_option maxRecDepth 100000 in
theorem told_flat (k : Nat) (A0 : Option Addr) (c0 : Nat) (U : List (List Int)) (A1 : Option Addr) (c1 : Nat) (N : List Int) (w : World)
 (hr0:Kd.C (Kd.slice 3 (Kd.int .i64)) w A0 U.length U) (hc0:U.length≤c0) (hr1:Kd.C (Kd.int .i64) w A1 N.length N) (hc1:N.length≤c1) (hLat:impl_LatticeOk.f k U=some false):
 Calls Try.prog 70 #[.agg #[.slice A0 U.length c0,.slice A1 N.length c1]] w fun e w'=>e= .returned (.pointer none)∧Below w.heap.size w w':=by
 have hu30:=Try.underlying26
 have HR0:=zqm hr0
 have HLat:=zqm hLat
 clear hr0 hLat hr1
 go_enter Try.func70,Try.ntmps70
 go_wp2_with (first|((with_reducible refine gate_dst (N:=1) rfl ?_);refine box_event ?hg (N:=1) ?hd (cs:= #[.slice A0 U.length c0,.slice A1 N.length c1]) (t:=26) ?hr ?_;(case hd=>rfl);(case hg=>rfl);(case hr=>first|(go_simp;done)|(go_simp;rfl));intro gb hg_gb w1 hbox_gb hb;have HB:=zqm hb;have hx0:w1.cell? ⟨gb,0,none⟩=some (.slice A0 U.length c0):=(blk_cell hbox_gb 0).trans rfl;have hx1:w1.cell? ⟨gb,1,none⟩=some (.slice A1 N.length c1):=(blk_cell hbox_gb 1).trans rfl;have HX:=zqm hbox_gb;clear hbox_gb hb hg_gb)|(go_at_call 132;(with_reducible refine(impl_LatticeOk.calls k _ _ U false _ ?s1 ?s2 HLat.out).mono ?_);(case s1=>exact Kd.C_below HR0.out HB.out);(case s2=>assumption);rintro e w2 ⟨rfl,hb⟩;have hbox:=blk_below HX.out hb;have hy0:w2.cell? ⟨gb,0,none⟩=some (.slice A0 U.length c0):=(blk_cell hbox 0).trans rfl;have hy1:w2.cell? ⟨gb,1,none⟩=some (.slice A1 N.length c1):=(blk_cell hbox 1).trans rfl;have HB2:=zqm (below_step HB.out hb);have HX2:=zqm hbox;clear hbox hb hx0 hx1 HX HB))
 go_ret
 exact⟨rfl,HB2.out⟩
set_option maxHeartbeats 1000000 in
set_option maxRecDepth 100000 in
theorem told_long (k : Nat) (A0 : Option Addr) (c0 : Nat) (U : List (List Int)) (A1 : Option Addr) (c1 : Nat) (N : List Int) (w : World)
 (hr0:Kd.C (Kd.slice 3 (Kd.int .i64)) w A0 U.length U) (hc0:U.length≤c0) (hr1:Kd.C (Kd.int .i64) w A1 N.length N) (hc1:N.length≤c1) (hLat:impl_LatticeOk.f k U=some true) (hl:N.length≠U.length):
 Calls Try.prog 70 #[.agg #[.slice A0 U.length c0,.slice A1 N.length c1]] w fun e w'=>e= .returned (.pointer none)∧Below w.heap.size w w':=by
 have hu30:=Try.underlying26
 have HR0:=zqm hr0
 have HLat:=zqm hLat
 have hne:((N.length:Int) !=(U.length:Int))=true:=by rw [bne_iff_ne];omega
 clear hr0 hLat hr1 hl
 go_enter Try.func70,Try.ntmps70
 go_wp2_with (first|((with_reducible refine gate_dst (N:=1) rfl ?_);refine box_event ?hg (N:=1) ?hd (cs:= #[.slice A0 U.length c0,.slice A1 N.length c1]) (t:=26) ?hr ?_;(case hd=>rfl);(case hg=>rfl);(case hr=>first|(go_simp;done)|(go_simp;rfl));intro gb hg_gb w1 hbox_gb hb;have HB:=zqm hb;have hx0:w1.cell? ⟨gb,0,none⟩=some (.slice A0 U.length c0):=(blk_cell hbox_gb 0).trans rfl;have hx1:w1.cell? ⟨gb,1,none⟩=some (.slice A1 N.length c1):=(blk_cell hbox_gb 1).trans rfl;have HX:=zqm hbox_gb;clear hbox_gb hb hg_gb)|(go_at_call 132;(with_reducible refine(impl_LatticeOk.calls k _ _ U true _ ?s1 ?s2 HLat.out).mono ?_);(case s1=>exact Kd.C_below HR0.out HB.out);(case s2=>assumption);rintro e w2 ⟨rfl,hb⟩;have hbox:=blk_below HX.out hb;have hy0:w2.cell? ⟨gb,0,none⟩=some (.slice A0 U.length c0):=(blk_cell hbox 0).trans rfl;have hy1:w2.cell? ⟨gb,1,none⟩=some (.slice A1 N.length c1):=(blk_cell hbox 1).trans rfl;have HB2:=zqm (below_step HB.out hb);have HX2:=zqm hbox;clear hbox hb hx0 hx1 HX HB))
 go_ret
 exact⟨rfl,HB2.out⟩
def impl_told.T15 : Bool × List (List Nat × List Nat) := (true, [([], []), ([], []), ([], []), ([2], [2]), ([3], [3]), ([4], [4]), ([], []), ([6], [6]), ([5, 7], [5, 7]), ([], []), ([9], [9]), ([10], [10]), ([11], [11]), ([], []), ([13], [13]), ([12, 14, 8], [12, 14]), ([0, 0, 2, 3, 4, 5, 6, 7, 8, 12, 15], [0]), ([16, 0, 2, 3, 4, 5, 6, 7, 8, 12, 15], [16]), ([17, 8, 15, 0, 2, 3, 4, 5, 6, 7, 8, 12, 15], [8, 17]), ([1, 0, 1, 2, 3, 4, 5, 6, 7, 8, 9, 10, 11, 12, 13, 14, 15, 16, 17, 18], [1]), ([19, 0, 1, 2, 3, 4, 5, 6, 7, 8, 9, 10, 11, 12, 13, 14, 15, 16, 17, 18], [19]), ([20, 15, 18, 0, 1, 2, 3, 4, 5, 6, 7, 8, 9, 10, 11, 12, 13, 14, 15, 16, 17, 18], [15, 20])])
def impl_told.B15 : List Nat := [0, 0, 0, 4, 12, 28, 0, 64, 252, 0, 512, 1536, 3584, 0, 8192, 32764, 65533, 131069, 262141, 524287, 1048575, 2097151]
theorem impl_told.tab15 : rtab .any (opsOf Try.f70 15) = impl_told.T15 := by kernel_rfl
theorem impl_told.bits15 : waitsOk impl_told.T15.2 impl_told.B15 = true := by kernel_rfl
def impl_told.T34 : Bool × List (List Nat × List Nat) := (true, [([], []), ([], []), ([1], [1]), ([], []), ([3], [3]), ([4], [4]), ([5], [5]), ([2, 6], [2, 6]), ([7], [7]), ([0, 0, 1, 2, 3, 4, 5, 6, 7, 8], [0]), ([9, 0, 1, 2, 3, 4, 5, 6, 7, 8], [9]), ([10, 8, 0, 1, 2, 3, 4, 5, 6, 7, 8], [8, 10])])
def impl_told.B34 : List Nat := [0, 0, 2, 0, 8, 24, 56, 126, 254, 511, 1023, 2047]
theorem impl_told.tab34 : rtab .any (opsOf Try.f70 34) = impl_told.T34 := by kernel_rfl
theorem impl_told.bits34 : waitsOk impl_told.T34.2 impl_told.B34 = true := by kernel_rfl
theorem optI_inj {a b : Option Nat} (h : optI a = optI b) : a = b := by
 cases a <;> cases b <;> simp [optI] at h ⊢ <;> omega
def Ok3 (U : List (List Int)) (N : List Int) (i : Nat) : Prop := 0 ≤ at1 N i ∧ at1 N i < U.length ∧ at1 N (at1 N i).toNat = i ∧ meetO U i (at1 N i).toNat = leastO U
def Ok5 (U : List (List Int)) (N : List Int) (i j : Nat) : Prop := leB U i j = true → leB U (at1 N j).toNat (at1 N i).toNat = true
theorem logicB_no3 {U : List (List Int)} {N : List Int} {a : Nat} (ha : a < U.length) (h : ¬ Ok3 U N a) : logicB U N = false := by
 rw [Bool.eq_false_iff]
 intro hl
 have L:=logicB_iff.1 hl
 exact h ⟨(L.ran a ha).1,(L.ran a ha).2,L.inv a ha,L.comp a ha⟩
theorem logicB_no5 {U : List (List Int)} {N : List Int} {a b : Nat} (ha : a < U.length) (hb : b < U.length) (h : ¬ Ok5 U N a b) : logicB U N = false := by
 rw [Bool.eq_false_iff]
 intro hl
 have L:=logicB_iff.1 hl
 exact h (L.turn a b ha hb)
theorem logicB_yes {U : List (List Int)} {N : List Int} (h1 : latticeB U = true) (h2 : N.length = U.length) (h3 : ∀ i, i < U.length → Ok3 U N i) (h5 : ∀ i, i < U.length → ∀ j, j < U.length → Ok5 U N i j) : logicB U N = true := by
 have O:=latticeB_order h1
 unfold latticeB at h1
 simp only [Bool.and_eq_true,allN_iff] at h1
 exact logicB_iff.2 { toOrder:=O,meets:=fun a b ha hb=>(h1.2 a ha b hb).1,joins:=fun a b ha hb=>(h1.2 a ha b hb).2,len:=h2,ran:=fun a ha=>⟨(h3 a ha).1,(h3 a ha).2.1⟩,inv:=fun a ha=>(h3 a ha).2.2.1,comp:=fun a ha=>(h3 a ha).2.2.2,turn:=fun a b ha hb=>h5 a ha b hb }
set_option maxHeartbeats 16000000 in
set_option maxRecDepth 100000 in
theorem told_walk (k : Nat) (A0 : Option Addr) (c0 : Nat) (U : List (List Int)) (A1 : Option Addr) (c1 : Nat) (N : List Int) (w : World)
 (hr0:Kd.C (Kd.slice 3 (Kd.int .i64)) w A0 U.length U) (hc0:U.length≤c0) (hr1:Kd.C (Kd.int .i64) w A1 N.length N) (hc1:N.length≤c1) (hF:ToldFacts k U) (hl:N.length=U.length) (hlat:latticeB U=true):
 Calls Try.prog 70 #[.agg #[.slice A0 U.length c0,.slice A1 N.length c1]] w (ToldPost U N w):=by
 have hu30:=Try.underlying26
 have hu70:=Try.underlying74
 have HR0:=zqm hr0
 have HR1:=zqm hr1
 have HL:=zqm hl
 have HLat:=zqm (hlat ▸ hF.lat)
 have HTurn:=zqm (hF.turn hlat)
 have HF:=zqm hF
 have HLB:=zqm hlat
 have HSM:=zqm (latticeB_order hlat).small
 have hne:((N.length:Int) !=(U.length:Int))=false:=by rw [hl];simp
 clear hr0 hr1 hl hF hlat
 go_enter Try.func70,Try.ntmps70
 go_wp2_with (first|((with_reducible refine gate_dst (N:=1) rfl ?_);refine box_event ?hg (N:=1) ?hd (cs:= #[.slice A0 U.length c0,.slice A1 N.length c1]) (t:=26) ?hr ?_;(case hd=>rfl);(case hg=>rfl);(case hr=> exact zq9);intro gb hg_gb w1 hbox_gb hb;have HB:=zqm hb;have hx0:w1.cell? ⟨gb,0,none⟩=some (.slice A0 U.length c0):=(blk_cell hbox_gb 0).trans rfl;have hx1:w1.cell? ⟨gb,1,none⟩=some (.slice A1 N.length c1):=(blk_cell hbox_gb 1).trans rfl;have HX:=zqm hbox_gb;clear hbox_gb hb hg_gb)|(go_at_call 132;(with_reducible refine(impl_LatticeOk.calls k _ _ U true _ ?s1 ?s2 HLat.out).mono ?_);(case s1=> exact zq143);(case s2=>assumption);rintro e w2 ⟨rfl,hb⟩;have hbox:=blk_below HX.out hb;have hy0:w2.cell? ⟨gb,0,none⟩=some (.slice A0 U.length c0):=(blk_cell hbox 0).trans rfl;have hy1:w2.cell? ⟨gb,1,none⟩=some (.slice A1 N.length c1):=(blk_cell hbox 1).trans rfl;have HB2:=zqm (below_step HB.out hb);have HX2:=zqm hbox;clear hbox hb hx0 hx1 HX HB)|((with_reducible refine gate_dst (N:=33) rfl ?_);refine box_event ?hg (N:=33) ?hd (cs:= #[.slice A0 U.length c0,.slice none 0 0,.slice none 0 0,.slice A1 N.length c1,.int .i64 0,.int .i64 0]) (t:=74) ?hr ?_;(case hd=>rfl);(case hg=>rfl);(case hr=> exact zq9);intro g hg_g w3 hbox_g hb;have HB3:=zqm (below_step HB2.out hb);have HG3:=zqm hbox_g;have HGE:=zqm ((by rw [hg_g];exact below_size HB2.out):w.heap.size≤g);have hbox:=blk_below HX2.out hb;have HNE:=zqm ((by rw [hg_g];exact Nat.ne_of_lt (blk_lt HX2.out)):gb≠g);have hz0:w3.cell? ⟨gb,0,none⟩=some (.slice A0 U.length c0):=(blk_cell hbox 0).trans rfl;have hz1:w3.cell? ⟨gb,1,none⟩=some (.slice A1 N.length c1):=(blk_cell hbox 1).trans rfl;have HX3:=zqm hbox;clear hbox hb hbox_g hg_g hy0 hy1 HX2 HB2)|(go_at_call 133;(with_reducible refine(impl_turned.calls k _ _ U (turnL U) _ ?s1 ?s2 HTurn.out).mono ?_);(case s1=>exact Kd.C_below HR0.out HB3.out);(case s2=>assumption);rintro e w4 ⟨vo,rfl,ho,hb⟩;have HB4:=zqm (below_step HB3.out hb);have HG4:=zqm (blk_below HG3.out hb);have hbox:=blk_below HX3.out hb;have hq0:w4.cell? ⟨gb,0,none⟩=some (.slice A0 U.length c0):=(blk_cell hbox 0).trans rfl;have hq1:w4.cell? ⟨gb,1,none⟩=some (.slice A1 N.length c1):=(blk_cell hbox 1).trans rfl;have HX4:=zqm hbox;obtain⟨Ao,co,rfl⟩:=Kd.S_slice ho;have HOv:=zqm ((Kd.S_reads' ho).2.1);have hlt_:=blk_lt HG3.out;have HOr:=zqm (show Kd.R (Kd.slice 3 (Kd.int .i64)) 24 w4 w.heap.size (fun k_=>(k_≠g∧some k_≠(Value.slice none 0 0).ownBlock)∧some k_≠(Value.slice none 0 0).ownBlock) (.slice Ao (turnL U).length co) (turnL U) from Kd.R_mono (Kd.R_lower (Kd.R_bound (Kd.S_R ho)) (below_size HB3.out)) (fun k_ hk=>⟨⟨by have:=hk.2.1;omega,by simp [Value.ownBlock]⟩,by simp [Value.ownBlock]⟩));clear hbox hb hz0 hz1 HX3 HB3 HG3 ho hlt_))
 go_loopg [40] (U.length+1) (fun kq v40 W=> ∃(a:Nat) (vA vO:Value),v40= .int .i64 a∧Aside0 (a+kq=U.length+1)∧Aside0 (a≤U.length)∧Aside0 (W.heap[g]? =some (.cells #[.slice A0 U.length c0,vA,vO,.slice A1 N.length c1,.int .i64 (0),.int .i64 (0)] 74 (0,0)))∧Aside0 (Kd.R (Kd.slice 3 (Kd.int .i64)) 24 W w.heap.size (fun k_=>True∧some k_≠vO.ownBlock) vA (tabT U.length (mI U) a))∧Aside0 (Kd.R (Kd.slice 3 (Kd.int .i64)) 24 W w.heap.size (fun k_=>True∧some k_≠vA.ownBlock) vO (tabT U.length (jI U) a))∧Aside0 (W.heap[gb]? =some (.cells #[.slice A0 U.length c0,.slice A1 N.length c1] 26 (0,0)))∧Aside0 (Kd.R (Kd.slice 3 (Kd.int .i64)) 24 W w.heap.size (fun k_=>(k_≠g∧some k_≠vO.ownBlock)∧some k_≠vA.ownBlock) (.slice Ao (turnL U).length co) (turnL U))∧Aside0 (Below w.heap.size w W))
 case atStart=>exact⟨0,.slice none 0 0,.slice none 0 0,rfl,⟨by omega⟩,⟨by omega⟩,⟨HG4.out⟩,⟨Kd.R_nil _ _ _ _ _⟩,⟨Kd.R_nil _ _ _ _ _⟩,⟨HX4.out⟩,⟨HOr.out⟩,⟨HB4.out⟩⟩
 case round=>
  clear HG4 HX4 HB4 HOr hq0 hq1
  obtain⟨a,vA,vO,rfl,HK,HK2,HG,HA,HO,HX,HOr,HB⟩:=hrel
  cases gk with
  |zero=>exact absurd HK.out (by have:=HK2.out;omega)
  |succ kn=>
  have hq0:wr.cell? ⟨gb,0,none⟩=some (.slice A0 U.length c0):=(blk_cell HX.out 0).trans rfl
  have hq1:wr.cell? ⟨gb,1,none⟩=some (.slice A1 N.length c1):=(blk_cell HX.out 1).trans rfl
  by_cases hlt:a<U.length
  ·have hlt':decide (a<U.length)=true:=decide_eq_true hlt
   have HLT:=zqm hlt
   clear hlt
   go_wp2_with (first|((with_reducible refine gate_dst (N:=43) rfl ?_);refine Kd.R_lit (Kd.int .i64) _ 3 ?hg (N:=43) ?hd (xs:=([]:List Int)) (inner:= []) (ok:=fun _=>True) (okp:=fun _=>True) ?hr ?hp (fun _ hk=>hk) trivial (Below.refl _ _) (Nat.le_refl _) (by simp) ?_;(case hd=>rfl);(case hg=>rfl);(case hr=> exact zq9);(case hp=>exact(Reps.none _ _));intro va wa ho hb hg_ hnew_;clear hg_;have HBa:=zqm hb;have HVa:=zqm ho;have hr0:wa.cell? ⟨gb,0,none⟩=some (.slice A0 U.length c0):=(blk_cell (blk_below HX.out hb) 0).trans rfl;clear ho hb hnew_)|((with_reducible refine gate_dst (N:=44) rfl ?_);refine Kd.R_lit (Kd.int .i64) _ 3 ?hg (N:=44) ?hd (xs:=([]:List Int)) (inner:= []) (ok:=fun _=>True) (okp:=fun _=>True) ?hr ?hp (fun _ hk=>hk) trivial (Below.refl _ _) (Nat.le_refl _) (by simp) ?_;(case hd=>rfl);(case hg=>rfl);(case hr=> exact zq9);(case hp=>exact(Reps.none _ _));intro vb wb ho hb hg_ hnew_;clear hg_;have HBi:=zqm (below_step HBa.out hb);have hr1:wb.cell? ⟨gb,0,none⟩=some (.slice A0 U.length c0):=(blk_cell (blk_below HX.out HBi.out) 0).trans rfl;have HVO:=zqm (Kd.R_mono (Kd.R_lower (Kd.R_newR ho HVa.out) (below_size HBa.out)) (fun k_ hk=>hk));have HVA:=zqm (Kd.R_mono (Kd.R_elder HVa.out ho hb) (fun k_ hk=>hk));clear ho hb hnew_ HVa HBa hr0))
   obtain⟨wo,rfl⟩: ∃wo:World,wo=wr:=⟨_,rfl⟩
   have HOC:=zqm (Kd.R_reads' HOr.out).2.2
   clear hr1 hq0 hq1
   go_loopg [6,7,48] (U.length+1) (fun kj v6 v7 v48 W=> ∃(b:Nat),v48= .int .i64 b∧Aside0 (b+kj=U.length+1)∧Aside0 (b≤U.length)∧Aside0 (Kd.R (Kd.int .i64) 3 W wo.heap.size (fun k_=>True∧some k_≠v7.ownBlock) v6 (rowT (mI U) a b))∧Aside0 (Kd.R (Kd.int .i64) 3 W wo.heap.size (fun k_=>True∧some k_≠v6.ownBlock) v7 (rowT (jI U) a b))∧Aside0 (Below wo.heap.size wo W))
   case atStart=>exact⟨0,rfl,⟨by omega⟩,⟨by omega⟩,⟨HVA.out⟩,⟨HVO.out⟩,⟨HBi.out⟩⟩
   case round=>
    clear HVA HVO HBi
    obtain⟨b,rfl,HKj,HKj2,HVA,HVO,HBi⟩:=hrel
    cases gk with
    |zero=>exact absurd HKj.out (by have:=HKj2.out;omega)
    |succ kj=>
    have hs0:wr.cell? ⟨gb,0,none⟩=some (.slice A0 U.length c0):=(blk_cell (blk_below HX.out HBi.out) 0).trans rfl
    by_cases hltb:b<U.length
    ·have hltb':decide (b<U.length)=true:=decide_eq_true hltb
     have HLTb:=zqm hltb
     clear hltb
     have HM1:=zqm (HF.out.meet HLB.out a b HLT.out HLTb.out)
     have HM2:=zqm (HF.out.join HLB.out a b HLT.out HLTb.out)
     go_wp2_with (first|(go_at_call 134;(first|(with_reducible refine(impl_meet.calls k _ _ U a b (mI U a b) _ ?s1 ?s2 HM1.out).mono ?_)|(with_reducible refine(impl_meet.calls k _ _ (turnL U) a b (jI U a b) _ ?s1 ?s2 HM2.out).mono ?_));(case s1=>(repeat(first|exact Kd.C_below HR0.out (below_step HB.out HBi.out)|exact Kd.C_below HOC.out HBi.out|exact Kd.C_below HR0.out (below_step HB.out HBj.out)|exact Kd.C_below HOC.out HBj.out|refine Kd.C_alloc ?_ _|refine Kd.C_drewN ?_ _)));(case s2=>first|assumption|exact HOv.out);rintro e w' ⟨rfl,⟨nd,rfl⟩⟩)|(at_builtin;refine Kd.R_append (Kd.int .i64) (w0:=wo) wo.heap.size rfl (.tmp 51) (.tmp 57) 24 3 (.int .i64 0) 8 rfl Try.underlying24 infoInt rfl (by decide) (by omega) u6 (rowT (mI U) a b) (mI U a b) [.int .i64 ((mI U a b))] (fun k_=>True∧some k_≠(u7:Value).ownBlock) (fun _=>False) rfl rfl ?aP (fun _ hk=>hk.elim) ?aF ?aO ?aB ?aS ?aL ?_;(case aP=>exact rfl);(case aF=>exact fun k_ hk=>⟨trivial,Kd.fresh_ok (Kd.R_drewN HVO.out _) k_ hk⟩);(case aO=>exact Kd.R_drewN HVA.out _);(case aB=>exact pw_below_drewN HBi.out _);(case aS=>exact below_size (pw_below_drewN HBi.out _));(case aL=>have:=HLTb.out;have:=HSM.out;rw [rowT_length];omega);intro va2 w5 ho hb hg hat;rw [← rowT_succ] at ho;have HBj:=zqm hb;have HVA2:=zqm ho;have HVO2:=zqm (Kd.R_after (Kd.R_drewN HVO.out _) hg hat);have hs1:w5.cell? ⟨gb,0,none⟩=some (.slice A0 U.length c0):=(blk_cell (blk_below HX.out HBj.out) 0).trans rfl;clear ho hb hg hat HVA HVO HBi hs0)|(at_builtin;refine Kd.R_append (Kd.int .i64) (w0:=wo) wo.heap.size rfl (.tmp 59) (.tmp 64) 24 3 (.int .i64 0) 8 rfl Try.underlying24 infoInt rfl (by decide) (by omega) u7 (rowT (jI U) a b) (jI U a b) [.int .i64 ((jI U a b))] (fun k_=>True∧some k_≠(va2:Value).ownBlock) (fun _=>False) rfl rfl ?aP (fun _ hk=>hk.elim) ?aF ?aO ?aB ?aS ?aL ?_;(case aP=>exact rfl);(case aF=>exact fun k_ hk=>⟨trivial,Kd.fresh_ok (Kd.R_drewN HVA2.out _) k_ hk⟩);(case aO=>exact Kd.R_drewN HVO2.out _);(case aB=>exact pw_below_drewN HBj.out _);(case aS=>exact below_size (pw_below_drewN HBj.out _));(case aL=>have:=HLTb.out;have:=HSM.out;rw [rowT_length];omega);intro vo2 w6 ho hb hg hat;rw [← rowT_succ] at ho;have HBk:=zqm hb;have HVO3:=zqm ho;have HVA3:=zqm (Kd.R_after (Kd.R_drewN HVA2.out _) hg hat);clear ho hb hg hat HVA2 HVO2 HBj hs1))
     go_roundg kj
     case measure=>omega
     case rel=>exact⟨b+1,by rw [wrap_small (by omega) (by have:=HLTb.out;have:=HSM.out;omega)];go_num,⟨by have:=HKj.out;omega⟩,⟨by have:=HLTb.out;omega⟩,⟨HVA3.out⟩,⟨HVO3.out⟩,⟨HBk.out⟩⟩
    ·have hltb':decide (b<U.length)=false:=decide_eq_false hltb
     obtain rfl:b=U.length:=by have:=HKj2.out;omega
     clear hltb
     obtain⟨AA,cA,rfl⟩:=Kd.R_slice HA.out
     obtain⟨AO,cO,rfl⟩:=Kd.R_slice HO.out
     obtain⟨Aa,ca,rfl⟩:=Kd.R_slice HVA.out
     obtain⟨Ab,cb,rfl⟩:=Kd.R_slice HVO.out
     have HrA:=zqm (show Kd.R (Kd.int .i64) 3 wr w.heap.size (fun k_=>some k_≠(Value.slice AO (tabT U.length (jI U) a).length cO).ownBlock∧some k_≠(Value.slice AA (tabT U.length (mI U) a).length cA).ownBlock) (.slice Aa (rowT (mI U) a U.length).length ca) (rowT (mI U) a U.length) from Kd.R_mono (Kd.R_lower (Kd.R_newR (Kd.R_newR HVA.out HA.out) HO.out) (below_size HB.out)) (fun k_ hk=>⟨hk.2,hk.1.2⟩))
     have HrO:=zqm (show Kd.R (Kd.int .i64) 3 wr w.heap.size (fun k_=>some k_≠(Value.slice AO (tabT U.length (jI U) a).length cO).ownBlock∧some k_≠(Value.slice AA (tabT U.length (mI U) a).length cA).ownBlock) (.slice Ab (rowT (jI U) a U.length).length cb) (rowT (jI U) a U.length) from Kd.R_mono (Kd.R_lower (Kd.R_newR (Kd.R_newR HVO.out HA.out) HO.out) (below_size HB.out)) (fun k_ hk=>⟨hk.2,hk.1.2⟩))
     have HAr:=zqm (Kd.R_below HA.out HBi.out)
     have HOr2:=zqm (Kd.R_below HO.out HBi.out)
     have HVr:=zqm (Kd.R_below HOr.out HBi.out)
     have HBr:=zqm (below_step HB.out HBi.out)
     have HXr:=zqm (blk_below HX.out HBi.out)
     have hG:=blk_below HG.out HBi.out
     have hg1:wr.cell? ⟨g,1,none⟩=some (.slice AA (tabT U.length (mI U) a).length cA):=(blk_cell hG 1).trans rfl
     have hg2:wr.cell? ⟨g,2,none⟩=some (.slice AO (tabT U.length (jI U) a).length cO):=(blk_cell hG 2).trans rfl
     have HGr:=zqm hG
     have ha11:a<12:=by have:=HLT.out;have:=HSM.out;omega
     clear hG HVA HVO hs0 HA HO HOr HB HX HG HOC
     go_wp2_with fail
     refine start_ (n:=22) (S:=(fun w'=>w'.cell? ⟨g,1,none⟩=some (.slice AA (tabT U.length (mI U) a).length cA)∧w'.cell? ⟨g,2,none⟩=some (.slice AO (tabT U.length (jI U) a).length cO))) (ds:= [18,21]) (zqb 22 0) zqk rfl rfl ⟨hg1,hg2⟩ (fun hHeld=>?_)
     refine with_tabW impl_told.tab15 impl_told.bits15 (fun HT_ HW_=>?_)
     generalize hwd:wr.drew=wd at hHeld ⊢
     have HWD:=zqm hwd;clear hwd
     replace HrA:=zqm (HWD.out ▸ (Kd.R_drew HrA.out))
     replace HrO:=zqm (HWD.out ▸ (Kd.R_drew HrO.out))
     replace HAr:=zqm (HWD.out ▸ (Kd.R_drew HAr.out))
     replace HOr2:=zqm (HWD.out ▸ (Kd.R_drew HOr2.out))
     replace HVr:=zqm (HWD.out ▸ (Kd.R_drew HVr.out))
     replace HBr:=zqm (HWD.out ▸ (below_drew HBr.out))
     replace HXr:=zqm (HWD.out ▸ (blk_drew HXr.out))
     replace HGr:=zqm (HWD.out ▸ (blk_drew HGr.out))
     refine zqp 0 67 (zqb 22 1) HT_ ?_
     refine zqp 1 68 (zqb 22 3) HT_ ?_
     refine zqp 2 69 (zqb 22 7) HT_ ?_
     refine zqp 3 70 (zqb 22 15) HT_ ?_
     refine zqp 4 71 (zqb 22 31) HT_ ?_
     refine zqp 6 73 (zqb 22 95) HT_ ?_
     refine zqp 9 76 (zqb 22 607) HT_ ?_
     refine zqp 10 77 (zqb 22 1631) HT_ ?_
     refine zqp 11 78 (zqb 22 3679) HT_ ?_
     refine zqp 13 80 (zqb 22 11871) HT_ ?_
     refine zqw 5 72 (zqb 22 11903) HT_ HW_ hHeld ?_
     refine zqw 12 79 (zqb 22 15999) HT_ HW_ hHeld ?_
     refine join_ (σ:=Nat × Nat × Option Addr × Nat × Option Addr × Nat) 6 (zqb 22 65535) (fun s=> [(74,.slice (some ⟨s.1,0,none⟩) 1 1),(75,.slice s.2.2.1 (tabT U.length (mI U) (a+1)).length s.2.2.2.1),(81,.slice (some ⟨s.2.1,0,none⟩) 1 1),(82,.slice s.2.2.2.2.1 (tabT U.length (jI U) (a+1)).length s.2.2.2.2.2)]) (fun s W=>W.heap[g]? =some (.cells #[.slice A0 U.length c0,.slice AA (tabT U.length (mI U) a).length cA,.slice AO (tabT U.length (jI U) a).length cO,.slice A1 N.length c1,.int .i64 (0),.int .i64 (0)] 74 (0,0))∧W.heap[gb]? =some (.cells #[.slice A0 U.length c0,.slice A1 N.length c1] 26 (0,0))∧Kd.R (Kd.slice 3 (Kd.int .i64)) 24 W w.heap.size (fun k_=>True∧some k_≠(Value.slice s.2.2.2.2.1 (tabT U.length (jI U) (a+1)).length s.2.2.2.2.2).ownBlock) (.slice s.2.2.1 (tabT U.length (mI U) (a+1)).length s.2.2.2.1) (tabT U.length (mI U) (a+1))∧Kd.R (Kd.slice 3 (Kd.int .i64)) 24 W w.heap.size (fun k_=>True∧some k_≠(Value.slice s.2.2.1 (tabT U.length (mI U) (a+1)).length s.2.2.2.1).ownBlock) (.slice s.2.2.2.2.1 (tabT U.length (jI U) (a+1)).length s.2.2.2.2.2) (tabT U.length (jI U) (a+1))∧Kd.R (Kd.slice 3 (Kd.int .i64)) 24 W w.heap.size (fun k_=>(k_≠g∧some k_≠(Value.slice s.2.2.1 (tabT U.length (mI U) (a+1)).length s.2.2.2.1).ownBlock)∧some k_≠(Value.slice s.2.2.2.2.1 (tabT U.length (jI U) (a+1)).length s.2.2.2.2.2).ownBlock) (.slice Ao (turnL U).length co) (turnL U)∧Below w.heap.size w W) ?cont (fun hC=>?_)
     rotate_left
     refine two_ (i:=7) (j:=14) (Ni:=some 74) (Nj:=some 81) (zqb 22 16127) (zqb 22 32383) rfl rfl rfl rfl zqk (by decide) (by decide) (fun K hK=>?_) (fun K hK=>?_)
     ·skip
      refine event_step (w1:=World.alloc (wd) (.cells #[.slice Aa (rowT (mI U) a U.length).length ca] 24)) (v:= .slice (some ⟨wd.heap.size,0,none⟩) 1 1) (by rfl) ?hr1 ?_
      case hr1=>first|(go_simp;done)|(go_simp;rfl)
      refine hK.out _ _ ⟨(blk_cell (blk_alloc HGr.out _) 1).trans rfl,(blk_cell (blk_alloc HGr.out _) 2).trans rfl⟩ (fun hHeld1=>?_)
      clear hK K
      (try simp only [Act.put,List.setIfInBounds_toArray,List.set_cons_zero,List.set_cons_succ])
      refine two_ (i:=8) (j:=14) (Ni:=some 75) (Nj:=some 81) (zqb 22 16383) (zqb 22 32511) rfl rfl rfl rfl zqk (by decide) (by decide) (fun K hK=>?_) (fun K hK=>?_)
      ·skip
       refine Kd.R_append_rows_step (Kd.slice 3 (Kd.int .i64)) (Rr:=fun x_ cs_=>x_=rowT (mI U) a U.length∧cs_= [.slice Aa (rowT (mI U) a U.length).length ca]) (w0:=w) w.heap.size (by rfl) (.tmp 72) (.tmp 74) 23 24 (.slice none 0 0) 24 rfl Try.underlying23 infoRow rfl (by decide) (by omega) (.slice AA (tabT U.length (mI U) a).length cA) (tabT U.length (mI U) a) [rowT (mI U) a U.length] _ 1 1 (fun k_=>True∧some k_≠(.slice AO (tabT U.length (jI U) a).length cO:Value).ownBlock) (fun k_=>some k_≠(.slice AO (tabT U.length (jI U) a).length cO:Value).ownBlock∧some k_≠(.slice AA (tabT U.length (mI U) a).length cA:Value).ownBlock) rfl rfl zq186 (reads_one zq108) ?aK2 (fun k_ hk=>⟨⟨trivial,hk.1⟩,hk.2⟩) ?aF2 zq52 (below_size zq52) (by rw [tabT_length];omega) ?_
       case aK2=>rintro x_ cs_ ⟨rfl,rfl⟩;exact⟨_,rfl,zq190⟩
       case aF2=>exact fun k_ hk=>⟨trivial,Kd.fresh_ok zq134 k_ hk⟩
       intro v7 w7 ho hb hg hat
       rw [← tabT_succ] at ho
       obtain⟨A7,c7,rfl⟩:=Kd.R_slice ho
       have HB7:=zqm hb
       have HA7:=zqm ho
       have HO7:=zqm (Kd.R_after zq134 hg hat)
       have HrO7:=zqm (Kd.R_after zq191 hg hat)
       have HV7:=zqm (Kd.R_after zq189 hg hat)
       have hg0:=Kd.R_lt HAr.out
       have HG7:=zqm (blk_grown (g:=g) (o:= .cells #[.slice A0 U.length c0,.slice AA (tabT U.length (mI U) a).length cA,.slice AO (tabT U.length (jI U) a).length cO,.slice A1 N.length c1,.int .i64 (0),.int .i64 (0)] 74 (0,0)) zq177 hg (Kd.R_ne HAr.out HGr.out (by decide)))
       have HX7:=zqm (blk_grown (g:=gb) (o:= .cells #[.slice A0 U.length c0,.slice A1 N.length c1] 26 (0,0)) zq179 hg (Kd.R_ne HAr.out HXr.out (by decide)))
       clear ho hb hg hat hg0
       refine hK.out _ _ ⟨(blk_cell HG7.out 1).trans rfl,(blk_cell HG7.out 2).trans rfl⟩ (fun hHeld7=>?_)
       clear hK K
       (try simp only [Act.put,List.setIfInBounds_toArray,List.set_cons_zero,List.set_cons_succ])
       refine one_ (i:=14) (N:=some 81) (zqb 22 32767) rfl rfl (one_of HT_.out zqk) (by decide) (fun K hK=>?_)
       refine event_step (w1:=World.alloc (w7) (.cells #[.slice Ab (rowT (jI U) a U.length).length cb] 24)) (v:= .slice (some ⟨w7.heap.size,0,none⟩) 1 1) (by rfl) ?hr3 ?_
       case hr3=>first|(go_simp;done)|(go_simp;rfl)
       refine hK.out _ _ ⟨(blk_cell (blk_alloc HG7.out _) 1).trans rfl,(blk_cell (blk_alloc HG7.out _) 2).trans rfl⟩ (fun hHeld3=>?_)
       clear hK K
       (try simp only [Act.put,List.setIfInBounds_toArray,List.set_cons_zero,List.set_cons_succ])
       refine one_ (i:=15) (N:=some 82) (zqb 22 65535) rfl rfl (one_of HT_.out zqk) (by decide) (fun K hK=>?_)
       refine Kd.R_append_rows_step (Kd.slice 3 (Kd.int .i64)) (Rr:=fun x_ cs_=>x_=rowT (jI U) a U.length∧cs_= [.slice Ab (rowT (jI U) a U.length).length cb]) (w0:=w) w.heap.size (by rfl) (.tmp 79) (.tmp 81) 23 24 (.slice none 0 0) 24 rfl Try.underlying23 infoRow rfl (by decide) (by omega) (.slice AO (tabT U.length (jI U) a).length cO) (tabT U.length (jI U) a) [rowT (jI U) a U.length] _ 1 1 (fun k_=>True∧some k_≠(.slice A7 (tabT U.length (mI U) (a+1)).length c7:Value).ownBlock) (fun k_=>some k_≠(.slice AO (tabT U.length (jI U) a).length cO:Value).ownBlock∧some k_≠(.slice A7 (tabT U.length (mI U) (a+1)).length c7:Value).ownBlock) rfl rfl zq187 (reads_one zq108) ?aK4 (fun k_ hk=>⟨⟨trivial,hk.2⟩,hk.1⟩) ?aF4 zq52 (below_size zq52) (by rw [tabT_length];omega) ?_
       case aK4=>rintro x_ cs_ ⟨rfl,rfl⟩;exact⟨_,rfl,zq182⟩
       case aF4=>exact fun k_ hk=>⟨trivial,Kd.fresh_ok zq137 k_ hk⟩
       intro v8 w8 ho hb hg hat
       rw [← tabT_succ] at ho
       obtain⟨A8,c8,rfl⟩:=Kd.R_slice ho
       have HB8:=zqm hb
       have HO8:=zqm ho
       have HA8:=zqm (Kd.R_after zq137 hg hat)
       have HV8:=zqm (Kd.R_after (Kd.R_mono (ok':=fun k_=>(k_≠g∧some k_≠(Value.slice A7 (tabT U.length (mI U) (a+1)).length c7).ownBlock)∧some k_≠(Value.slice AO (tabT U.length (jI U) a).length cO).ownBlock) zq188 (fun k_ (hk:(k_≠g∧some k_≠(Value.slice AO (tabT U.length (jI U) a).length cO).ownBlock)∧some k_≠(Value.slice A7 (tabT U.length (mI U) (a+1)).length c7).ownBlock)=>⟨⟨hk.1.1,hk.2⟩,hk.1.2⟩)) hg hat)
       have HG8:=zqm (blk_grown (g:=g) (o:= .cells #[.slice A0 U.length c0,.slice AA (tabT U.length (mI U) a).length cA,.slice AO (tabT U.length (jI U) a).length cO,.slice A1 N.length c1,.int .i64 (0),.int .i64 (0)] 74 (0,0)) zq176 hg (Kd.R_ne HO7.out HG7.out (by decide)))
       have HX8:=zqm (blk_grown (g:=gb) (o:= .cells #[.slice A0 U.length c0,.slice A1 N.length c1] 26 (0,0)) zq178 hg (Kd.R_ne HO7.out HX7.out (by decide)))
       clear ho hb hg hat
       refine hK.out _ _ ⟨(blk_cell HG8.out 1).trans rfl,(blk_cell HG8.out 2).trans rfl⟩ (fun hHeld8=>?_)
       clear hK K
       (try simp only [Act.put,List.setIfInBounds_toArray,List.set_cons_zero,List.set_cons_succ])
       exact hC ⟨wd.heap.size,w7.heap.size,A7,c7,A8,c8⟩ w8 ⟨HG8.out,HX8.out,HA8.out,HO8.out,HV8.out,HB8.out⟩
      ·skip
       refine event_step (w1:=World.alloc (World.alloc wd (.cells #[.slice Aa (rowT (mI U) a U.length).length ca] 24)) (.cells #[.slice Ab (rowT (jI U) a U.length).length cb] 24)) (v:= .slice (some ⟨wd.heap.size+1,0,none⟩) 1 1) (by rfl) ?hr5 ?_
       case hr5=>first|(go_simp;done)|(go_simp;rfl)
       refine hK.out _ _ ⟨(blk_cell (blk_alloc (blk_alloc HGr.out _) _) 1).trans rfl,(blk_cell (blk_alloc (blk_alloc HGr.out _) _) 2).trans rfl⟩ (fun hHeld2=>?_)
       clear hK K
       (try simp only [Act.put,List.setIfInBounds_toArray,List.set_cons_zero,List.set_cons_succ])
       refine one_ (i:=8) (N:=some 75) (zqb 22 32767) rfl rfl (one_of HT_.out zqk) (by decide) (fun K hK=>?_)
       refine Kd.R_append_rows_step (Kd.slice 3 (Kd.int .i64)) (Rr:=fun x_ cs_=>x_=rowT (mI U) a U.length∧cs_= [.slice Aa (rowT (mI U) a U.length).length ca]) (w0:=w) w.heap.size (by rfl) (.tmp 72) (.tmp 74) 23 24 (.slice none 0 0) 24 rfl Try.underlying23 infoRow rfl (by decide) (by omega) (.slice AA (tabT U.length (mI U) a).length cA) (tabT U.length (mI U) a) [rowT (mI U) a U.length] _ 1 1 (fun k_=>True∧some k_≠(.slice AO (tabT U.length (jI U) a).length cO:Value).ownBlock) (fun k_=>some k_≠(.slice AO (tabT U.length (jI U) a).length cO:Value).ownBlock∧some k_≠(.slice AA (tabT U.length (mI U) a).length cA:Value).ownBlock) rfl rfl zq186 (reads_one zq108) ?aK6 (fun k_ hk=>⟨⟨trivial,hk.1⟩,hk.2⟩) ?aF6 zq52 (below_size zq52) (by rw [tabT_length];omega) ?_
       case aK6=>rintro x_ cs_ ⟨rfl,rfl⟩;exact⟨_,rfl,zq190⟩
       case aF6=>exact fun k_ hk=>⟨trivial,Kd.fresh_ok zq134 k_ hk⟩
       intro v7 w7 ho hb hg hat
       rw [← tabT_succ] at ho
       obtain⟨A7,c7,rfl⟩:=Kd.R_slice ho
       have HB7:=zqm hb
       have HA7:=zqm ho
       have HO7:=zqm (Kd.R_after zq134 hg hat)
       have HrO7:=zqm (Kd.R_after zq191 hg hat)
       have HV7:=zqm (Kd.R_after zq189 hg hat)
       have hg0:=Kd.R_lt HAr.out
       have HG7:=zqm (blk_grown (g:=g) (o:= .cells #[.slice A0 U.length c0,.slice AA (tabT U.length (mI U) a).length cA,.slice AO (tabT U.length (jI U) a).length cO,.slice A1 N.length c1,.int .i64 (0),.int .i64 (0)] 74 (0,0)) zq177 hg (Kd.R_ne HAr.out HGr.out (by decide)))
       have HX7:=zqm (blk_grown (g:=gb) (o:= .cells #[.slice A0 U.length c0,.slice A1 N.length c1] 26 (0,0)) zq179 hg (Kd.R_ne HAr.out HXr.out (by decide)))
       have hcy:w7.cell? ⟨wd.heap.size+1,0,none⟩=some (.slice Ab (rowT (jI U) a U.length).length cb):=grown_cell hg (by first|(go_simp;done)|(simp;done)) (by intro e_;have:=hg0 _ e_.symm;simp at this;omega)
       clear ho hb hg hat hg0
       refine hK.out _ _ ⟨(blk_cell HG7.out 1).trans rfl,(blk_cell HG7.out 2).trans rfl⟩ (fun hHeld7=>?_)
       clear hK K
       (try simp only [Act.put,List.setIfInBounds_toArray,List.set_cons_zero,List.set_cons_succ])
       refine one_ (i:=15) (N:=some 82) (zqb 22 65535) rfl rfl (one_of HT_.out zqk) (by decide) (fun K hK=>?_)
       refine Kd.R_append_rows_step (Kd.slice 3 (Kd.int .i64)) (Rr:=fun x_ cs_=>x_=rowT (jI U) a U.length∧cs_= [.slice Ab (rowT (jI U) a U.length).length cb]) (w0:=w) w.heap.size (by rfl) (.tmp 79) (.tmp 81) 23 24 (.slice none 0 0) 24 rfl Try.underlying23 infoRow rfl (by decide) (by omega) (.slice AO (tabT U.length (jI U) a).length cO) (tabT U.length (jI U) a) [rowT (jI U) a U.length] _ 1 1 (fun k_=>True∧some k_≠(.slice A7 (tabT U.length (mI U) (a+1)).length c7:Value).ownBlock) (fun k_=>some k_≠(.slice AO (tabT U.length (jI U) a).length cO:Value).ownBlock∧some k_≠(.slice A7 (tabT U.length (mI U) (a+1)).length c7:Value).ownBlock) rfl rfl zq187 (reads_one zq108) ?aK7 (fun k_ hk=>⟨⟨trivial,hk.2⟩,hk.1⟩) ?aF7 zq52 (below_size zq52) (by rw [tabT_length];omega) ?_
       case aK7=>rintro x_ cs_ ⟨rfl,rfl⟩;exact⟨_,rfl,zq182⟩
       case aF7=>exact fun k_ hk=>⟨trivial,Kd.fresh_ok zq137 k_ hk⟩
       intro v8 w8 ho hb hg hat
       rw [← tabT_succ] at ho
       obtain⟨A8,c8,rfl⟩:=Kd.R_slice ho
       have HB8:=zqm hb
       have HO8:=zqm ho
       have HA8:=zqm (Kd.R_after zq137 hg hat)
       have HV8:=zqm (Kd.R_after (Kd.R_mono (ok':=fun k_=>(k_≠g∧some k_≠(Value.slice A7 (tabT U.length (mI U) (a+1)).length c7).ownBlock)∧some k_≠(Value.slice AO (tabT U.length (jI U) a).length cO).ownBlock) zq188 (fun k_ (hk:(k_≠g∧some k_≠(Value.slice AO (tabT U.length (jI U) a).length cO).ownBlock)∧some k_≠(Value.slice A7 (tabT U.length (mI U) (a+1)).length c7).ownBlock)=>⟨⟨hk.1.1,hk.2⟩,hk.1.2⟩)) hg hat)
       have HG8:=zqm (blk_grown (g:=g) (o:= .cells #[.slice A0 U.length c0,.slice AA (tabT U.length (mI U) a).length cA,.slice AO (tabT U.length (jI U) a).length cO,.slice A1 N.length c1,.int .i64 (0),.int .i64 (0)] 74 (0,0)) zq176 hg (Kd.R_ne HO7.out HG7.out (by decide)))
       have HX8:=zqm (blk_grown (g:=gb) (o:= .cells #[.slice A0 U.length c0,.slice A1 N.length c1] 26 (0,0)) zq178 hg (Kd.R_ne HO7.out HX7.out (by decide)))
       clear ho hb hg hat
       refine hK.out _ _ ⟨(blk_cell HG8.out 1).trans rfl,(blk_cell HG8.out 2).trans rfl⟩ (fun hHeld8=>?_)
       clear hK K
       (try simp only [Act.put,List.setIfInBounds_toArray,List.set_cons_zero,List.set_cons_succ])
       exact hC ⟨wd.heap.size,wd.heap.size+1,A7,c7,A8,c8⟩ w8 ⟨HG8.out,HX8.out,HA8.out,HO8.out,HV8.out,HB8.out⟩
     ·skip
      refine event_step (w1:=World.alloc (wd) (.cells #[.slice Ab (rowT (jI U) a U.length).length cb] 24)) (v:= .slice (some ⟨wd.heap.size,0,none⟩) 1 1) (by rfl) ?hr8 ?_
      case hr8=>first|(go_simp;done)|(go_simp;rfl)
      refine hK.out _ _ ⟨(blk_cell (blk_alloc HGr.out _) 1).trans rfl,(blk_cell (blk_alloc HGr.out _) 2).trans rfl⟩ (fun hHeld1=>?_)
      clear hK K
      (try simp only [Act.put,List.setIfInBounds_toArray,List.set_cons_zero,List.set_cons_succ])
      refine one_ (i:=7) (N:=some 74) (zqb 22 32511) rfl rfl (one_of HT_.out zqk) (by decide) (fun K hK=>?_)
      refine event_step (w1:=World.alloc (World.alloc wd (.cells #[.slice Ab (rowT (jI U) a U.length).length cb] 24)) (.cells #[.slice Aa (rowT (mI U) a U.length).length ca] 24)) (v:= .slice (some ⟨wd.heap.size+1,0,none⟩) 1 1) (by rfl) ?hr9 ?_
      case hr9=>first|(go_simp;done)|(go_simp;rfl)
      refine hK.out _ _ ⟨(blk_cell (blk_alloc (blk_alloc HGr.out _) _) 1).trans rfl,(blk_cell (blk_alloc (blk_alloc HGr.out _) _) 2).trans rfl⟩ (fun hHeld2=>?_)
      clear hK K
      (try simp only [Act.put,List.setIfInBounds_toArray,List.set_cons_zero,List.set_cons_succ])
      refine one_ (i:=8) (N:=some 75) (zqb 22 32767) rfl rfl (one_of HT_.out zqk) (by decide) (fun K hK=>?_)
      refine Kd.R_append_rows_step (Kd.slice 3 (Kd.int .i64)) (Rr:=fun x_ cs_=>x_=rowT (mI U) a U.length∧cs_= [.slice Aa (rowT (mI U) a U.length).length ca]) (w0:=w) w.heap.size (by rfl) (.tmp 72) (.tmp 74) 23 24 (.slice none 0 0) 24 rfl Try.underlying23 infoRow rfl (by decide) (by omega) (.slice AA (tabT U.length (mI U) a).length cA) (tabT U.length (mI U) a) [rowT (mI U) a U.length] _ 1 1 (fun k_=>True∧some k_≠(.slice AO (tabT U.length (jI U) a).length cO:Value).ownBlock) (fun k_=>some k_≠(.slice AO (tabT U.length (jI U) a).length cO:Value).ownBlock∧some k_≠(.slice AA (tabT U.length (mI U) a).length cA:Value).ownBlock) rfl rfl zq186 (reads_one zq108) ?aK10 (fun k_ hk=>⟨⟨trivial,hk.1⟩,hk.2⟩) ?aF10 zq52 (below_size zq52) (by rw [tabT_length];omega) ?_
      case aK10=>rintro x_ cs_ ⟨rfl,rfl⟩;exact⟨_,rfl,zq190⟩
      case aF10=>exact fun k_ hk=>⟨trivial,Kd.fresh_ok zq134 k_ hk⟩
      intro v7 w7 ho hb hg hat
      rw [← tabT_succ] at ho
      obtain⟨A7,c7,rfl⟩:=Kd.R_slice ho
      have HB7:=zqm hb
      have HA7:=zqm ho
      have HO7:=zqm (Kd.R_after zq134 hg hat)
      have HrO7:=zqm (Kd.R_after zq191 hg hat)
      have HV7:=zqm (Kd.R_after zq189 hg hat)
      have hg0:=Kd.R_lt HAr.out
      have HG7:=zqm (blk_grown (g:=g) (o:= .cells #[.slice A0 U.length c0,.slice AA (tabT U.length (mI U) a).length cA,.slice AO (tabT U.length (jI U) a).length cO,.slice A1 N.length c1,.int .i64 (0),.int .i64 (0)] 74 (0,0)) zq177 hg (Kd.R_ne HAr.out HGr.out (by decide)))
      have HX7:=zqm (blk_grown (g:=gb) (o:= .cells #[.slice A0 U.length c0,.slice A1 N.length c1] 26 (0,0)) zq179 hg (Kd.R_ne HAr.out HXr.out (by decide)))
      have hcy:w7.cell? ⟨wd.heap.size,0,none⟩=some (.slice Ab (rowT (jI U) a U.length).length cb):=grown_cell hg (by first|(go_simp;done)|(simp;done)) (by intro e_;have:=hg0 _ e_.symm;simp at this)
      clear ho hb hg hat hg0
      refine hK.out _ _ ⟨(blk_cell HG7.out 1).trans rfl,(blk_cell HG7.out 2).trans rfl⟩ (fun hHeld7=>?_)
      clear hK K
      (try simp only [Act.put,List.setIfInBounds_toArray,List.set_cons_zero,List.set_cons_succ])
      refine one_ (i:=15) (N:=some 82) (zqb 22 65535) rfl rfl (one_of HT_.out zqk) (by decide) (fun K hK=>?_)
      refine Kd.R_append_rows_step (Kd.slice 3 (Kd.int .i64)) (Rr:=fun x_ cs_=>x_=rowT (jI U) a U.length∧cs_= [.slice Ab (rowT (jI U) a U.length).length cb]) (w0:=w) w.heap.size (by rfl) (.tmp 79) (.tmp 81) 23 24 (.slice none 0 0) 24 rfl Try.underlying23 infoRow rfl (by decide) (by omega) (.slice AO (tabT U.length (jI U) a).length cO) (tabT U.length (jI U) a) [rowT (jI U) a U.length] _ 1 1 (fun k_=>True∧some k_≠(.slice A7 (tabT U.length (mI U) (a+1)).length c7:Value).ownBlock) (fun k_=>some k_≠(.slice AO (tabT U.length (jI U) a).length cO:Value).ownBlock∧some k_≠(.slice A7 (tabT U.length (mI U) (a+1)).length c7:Value).ownBlock) rfl rfl zq187 (reads_one zq108) ?aK11 (fun k_ hk=>⟨⟨trivial,hk.2⟩,hk.1⟩) ?aF11 zq52 (below_size zq52) (by rw [tabT_length];omega) ?_
      case aK11=>rintro x_ cs_ ⟨rfl,rfl⟩;exact⟨_,rfl,zq182⟩
      case aF11=>exact fun k_ hk=>⟨trivial,Kd.fresh_ok zq137 k_ hk⟩
      intro v8 w8 ho hb hg hat
      rw [← tabT_succ] at ho
      obtain⟨A8,c8,rfl⟩:=Kd.R_slice ho
      have HB8:=zqm hb
      have HO8:=zqm ho
      have HA8:=zqm (Kd.R_after zq137 hg hat)
      have HV8:=zqm (Kd.R_after (Kd.R_mono (ok':=fun k_=>(k_≠g∧some k_≠(Value.slice A7 (tabT U.length (mI U) (a+1)).length c7).ownBlock)∧some k_≠(Value.slice AO (tabT U.length (jI U) a).length cO).ownBlock) zq188 (fun k_ (hk:(k_≠g∧some k_≠(Value.slice AO (tabT U.length (jI U) a).length cO).ownBlock)∧some k_≠(Value.slice A7 (tabT U.length (mI U) (a+1)).length c7).ownBlock)=>⟨⟨hk.1.1,hk.2⟩,hk.1.2⟩)) hg hat)
      have HG8:=zqm (blk_grown (g:=g) (o:= .cells #[.slice A0 U.length c0,.slice AA (tabT U.length (mI U) a).length cA,.slice AO (tabT U.length (jI U) a).length cO,.slice A1 N.length c1,.int .i64 (0),.int .i64 (0)] 74 (0,0)) zq176 hg (Kd.R_ne HO7.out HG7.out (by decide)))
      have HX8:=zqm (blk_grown (g:=gb) (o:= .cells #[.slice A0 U.length c0,.slice A1 N.length c1] 26 (0,0)) zq178 hg (Kd.R_ne HO7.out HX7.out (by decide)))
      clear ho hb hg hat
      refine hK.out _ _ ⟨(blk_cell HG8.out 1).trans rfl,(blk_cell HG8.out 2).trans rfl⟩ (fun hHeld8=>?_)
      clear hK K
      (try simp only [Act.put,List.setIfInBounds_toArray,List.set_cons_zero,List.set_cons_succ])
      exact hC ⟨wd.heap.size+1,wd.heap.size,A7,c7,A8,c8⟩ w8 ⟨HG8.out,HX8.out,HA8.out,HO8.out,HV8.out,HB8.out⟩
     case cont=>
      rintro ⟨x74,x81,A7,c7,A8,c8⟩ w8 ⟨hG8,hX8,hA8,hO8,hV8,hB8⟩
      refine norm_ (by simp only [putAll,Act.put,List.setIfInBounds_toArray,List.set_cons_zero,List.set_cons_succ];rfl) ?_
      have HG8:=zqm hG8;clear hG8
      have HX8:=zqm hX8;clear hX8
      have HA8:=zqm hA8;clear hA8
      have HO8:=zqm hO8;clear hO8
      have HV8:=zqm hV8;clear hV8
      have HB8:=zqm hB8;clear hB8
      clear HGr HXr HAr HOr2 HVr HBr HrA HrO hHeld hg1 hg2
      refine zqp 16 83 (zqb 22 131071) HT_ ?_
      refine zqp 17 84 (zqb 22 262143) HT_ ?_
      have hs81:w8.cell? ⟨g,1,none⟩=some (.slice AA (tabT U.length (mI U) a).length cA):=(blk_cell HG8.out 1).trans rfl
      have hf81:=blk_frozen HG8.out 1
      refine last_ (i:=18) (N:=none) (zqb 22 524287) rfl rfl (one_of HT_.out zqk) (by decide) (fun K hK=>?_)
      refine skip_ (w1:=w8.setCell ⟨g,1,none⟩ (.slice A7 (tabT U.length (mI U) (a+1)).length c7)) (by rfl) rfl ?_ ?_
      ·go_simp
      refine hK.out _ _ ?_
      clear hK K
      have HG9:=zqm (show (w8.setCell ⟨g,1,none⟩ (.slice A7 (tabT U.length (mI U) (a+1)).length c7)).heap[g]? =some (.cells #[.slice A0 U.length c0,.slice A7 (tabT U.length (mI U) (a+1)).length c7,.slice AO (tabT U.length (jI U) a).length cO,.slice A1 N.length c1,.int .i64 (0),.int .i64 (0)] 74 (0,0)) from blk_put HG8.out 1 _ rfl)
      have HA9:=zqm (Kd.R_set HA8.out HG8.out (by decide) 1 (.slice A7 (tabT U.length (mI U) (a+1)).length c7))
      have HO9:=zqm (Kd.R_set HO8.out HG8.out (by decide) 1 (.slice A7 (tabT U.length (mI U) (a+1)).length c7))
      have HV9:=zqm (Kd.R_far (p:=⟨g,1,none⟩) HV8.out (fun k_ hk=>hk.1.1) (.slice A7 (tabT U.length (mI U) (a+1)).length c7))
      have HX9:=zqm (blk_far HX8.out (p:=⟨g,1,none⟩) HNE.out (.slice A7 (tabT U.length (mI U) (a+1)).length c7))
      have HB9:=zqm (below_set (j:=1) (v:= .slice A7 (tabT U.length (mI U) (a+1)).length c7) HB8.out HGE.out)
      generalize w8.setCell ⟨g,1,none⟩ (.slice A7 (tabT U.length (mI U) (a+1)).length c7)=w9 at HG9 HA9 HO9 HV9 HX9 HB9 ⊢
      clear hs81 hf81 HG8 HA8 HO8 HV8 HX8 HB8
      have hs92:w9.cell? ⟨g,2,none⟩=some (.slice AO (tabT U.length (jI U) a).length cO):=(blk_cell HG9.out 2).trans rfl
      have hf92:=blk_frozen HG9.out 2
      refine zqp 19 85 (zqb 22 1048575) HT_ ?_
      refine zqp 20 86 (zqb 22 2097151) HT_ ?_
      refine last_ (i:=21) (N:=none) (zqb 22 4194303) rfl rfl (one_of HT_.out zqk) (by decide) (fun K hK=>?_)
      refine skip_ (w1:=w9.setCell ⟨g,2,none⟩ (.slice A8 (tabT U.length (jI U) (a+1)).length c8)) (by rfl) rfl ?_ ?_
      ·go_simp
      refine hK.out _ _ ?_
      clear hK K
      have HG10:=zqm (show (w9.setCell ⟨g,2,none⟩ (.slice A8 (tabT U.length (jI U) (a+1)).length c8)).heap[g]? =some (.cells #[.slice A0 U.length c0,.slice A7 (tabT U.length (mI U) (a+1)).length c7,.slice A8 (tabT U.length (jI U) (a+1)).length c8,.slice A1 N.length c1,.int .i64 (0),.int .i64 (0)] 74 (0,0)) from blk_put HG9.out 2 _ rfl)
      have HA10:=zqm (Kd.R_set HA9.out HG9.out (by decide) 2 (.slice A8 (tabT U.length (jI U) (a+1)).length c8))
      have HO10:=zqm (Kd.R_set HO9.out HG9.out (by decide) 2 (.slice A8 (tabT U.length (jI U) (a+1)).length c8))
      have HV10:=zqm (Kd.R_far (p:=⟨g,2,none⟩) HV9.out (fun k_ hk=>hk.1.1) (.slice A8 (tabT U.length (jI U) (a+1)).length c8))
      have HX10:=zqm (blk_far HX9.out (p:=⟨g,2,none⟩) HNE.out (.slice A8 (tabT U.length (jI U) (a+1)).length c8))
      have HB10:=zqm (below_set (j:=2) (v:= .slice A8 (tabT U.length (jI U) (a+1)).length c8) HB9.out HGE.out)
      generalize w9.setCell ⟨g,2,none⟩ (.slice A8 (tabT U.length (jI U) (a+1)).length c8)=w10 at HG10 HA10 HO10 HV10 HX10 HB10 ⊢
      clear hs92 hf92 HG9 HA9 HO9 HV9 HX9 HB9
      refine done_ (done_of HT_.out zqk) ?_
      go_wp2
      go_roundg kn
      case measure=>omega
      case rel=>exact⟨a+1,_,_,by first|go_num|(rw [wrap_small (by omega) (by omega)];go_num),⟨by have:=HK.out;omega⟩,⟨by have:=HLT.out;omega⟩,HG10,HA10,HO10,HX10,⟨Kd.R_mono HV10.out (fun k_ hk=>⟨⟨hk.1.1,hk.2⟩,hk.1.2⟩)⟩,HB10⟩
  ·obtain rfl:a=U.length:=by have:=HK2.out;omega
   clear hlt
   obtain⟨AA,cA,eA⟩:=Kd.R_slice HA.out
   obtain⟨AO,cO,eO⟩:=Kd.R_slice HO.out
   rw [tabT_length] at eA eO
   subst eA eO
   have hlt':decide (U.length<U.length)=false:=by simp
   have hg4:wr.cell? ⟨g,4,none⟩=some (.int .i64 0):=(blk_cell HG.out 4).trans rfl
   have hf4:=blk_frozen HG.out 4
   have hnb:gb≠g:=HNE.out
   have hnc:g≠gb:=Ne.symm HNE.out
   have HLE:=zqm (HF.out.least HLB.out)
   go_wp2_with ((go_at_call 85;(with_reducible refine(impl_LeastOf.calls k _ _ U (optI (leastO U)) (leastO U).isSome _ ?s1 ?s2 HLE.out).mono ?_);(case s1=> exact zq143);(case s2=>assumption);rintro e w' ⟨rfl,⟨nd,rfl⟩⟩))
   go_loopg [100] (N.length+1) (fun kq v100 W=> ∃(a:Nat),v100= .int .i64 a∧Aside0 (a+kq=N.length+1)∧Aside0 (a≤N.length)∧Aside0 (W.heap[g]? =some (.cells #[.slice A0 U.length c0,.slice AA U.length cA,.slice AO U.length cO,.slice A1 N.length c1,.int .i64 (optI (leastO U)),.int .i64 (0)] 74 (0,0)))∧Aside0 (Kd.R (Kd.slice 3 (Kd.int .i64)) 24 W w.heap.size (fun _=>True) (.slice AA U.length cA) (tabI U.length (mI U)))∧Aside0 (Kd.R (Kd.slice 3 (Kd.int .i64)) 24 W w.heap.size (fun _=>True) (.slice AO U.length cO) (tabI U.length (jI U)))∧Aside0 (U.length≤cA∧U.length≤cO)∧Aside0 (W.heap[gb]? =some (.cells #[.slice A0 U.length c0,.slice A1 N.length c1] 26 (0,0)))∧Aside0 (Below w.heap.size w W)∧Aside0 (∀i,i<a→Ok3 U N i))
   case atStart=>
    refine⟨0,rfl,⟨by omega⟩,⟨by omega⟩,⟨blk_put (blk_drewN HG.out nd) 4 _ rfl⟩,⟨Kd.R_mono (Kd.R_set (Kd.R_drewN HA.out nd) (blk_drewN HG.out nd) (by decide) 4 (.int .i64 (optI (leastO U)))) (fun _ _=>trivial)⟩,⟨Kd.R_mono (Kd.R_set (Kd.R_drewN HO.out nd) (blk_drewN HG.out nd) (by decide) 4 (.int .i64 (optI (leastO U)))) (fun _ _=>trivial)⟩,⟨?_⟩,⟨blk_far (blk_drewN HX.out nd) HNE.out _⟩,⟨below_set (pw_below_drewN HB.out nd) HGE.out⟩,⟨fun i hi=>absurd hi (by omega)⟩⟩
    ·exact⟨by have h_:=(Kd.R_reads HA.out);obtain⟨A_,c_,e_,l_,k_⟩:=h_;rw [tabT_length] at e_ l_;injection e_ with e1 e2 e3;subst e3;exact l_,by have h_:=(Kd.R_reads HO.out);obtain⟨A_,c_,e_,l_,k_⟩:=h_;rw [tabT_length] at e_ l_;injection e_ with e1 e2 e3;subst e3;exact l_⟩
   case round=>
    clear hg4 hf4 hq0 hq1 HA HO HOr HB HX HG
    obtain⟨a,rfl,HK3,HK4,HG,HCA,HCO,HCC,HX,HB,HS⟩:=hrel
    cases gk with
    |zero=>exact absurd HK3.out (by have:=HK4.out;omega)
    |succ kn3=>
    have hq0:wr.cell? ⟨gb,0,none⟩=some (.slice A0 U.length c0):=(blk_cell HX.out 0).trans rfl
    have hq1:wr.cell? ⟨gb,1,none⟩=some (.slice A1 N.length c1):=(blk_cell HX.out 1).trans rfl
    by_cases hlta:a<N.length
    ·have hlta':decide (a<N.length)=true:=decide_eq_true hlta
     have HLT:=zqm hlta
     obtain⟨adN,eN,hNa⟩:=ints_cell HR1.out a (by omega) (by omega)
     subst eN
     replace hNa:=cell_up hNa HB.out rfl
     simp only [Int.toNat_natCast] at hNa
     by_cases c1:0≤at1 N a∧at1 N a<(U.length:Int)
     ·have hA1:=zqm (show impl_isAnswer.f U (at1 N a)=some true by unfold impl_isAnswer.f;rw [if_pos c1.1];simp [c1.2])
      obtain⟨adN',eN',hNb⟩:=ints_cell HR1.out (at1 N a) c1.1 (by have:=HL.out;omega)
      cases eN'
      replace hNb:=cell_up hNb HB.out rfl
      by_cases c2:at1 N (at1 N a).toNat=(a:Int)
      ·have hc2:(at1 N (at1 N a).toNat !=(a:Int))=false:=by rw [c2];simp
       obtain⟨adA,adR,cR,eA,hRa,hRb,hRl⟩:=tab_cell (Kd.R_reads' HCA.out).2.2 (a:Int) (at1 N a) (by omega) (by have:=HL.out;omega) c1.1 c1.2
       subst eA
       simp only [Int.toNat_natCast] at hRa hRb
       have hg1:wr.cell? ⟨g,1,none⟩=some (.slice (some adA) U.length cA):=(blk_cell HG.out 1).trans rfl
       have hg4:wr.cell? ⟨g,4,none⟩=some (.int .i64 (optI (leastO U))):=(blk_cell HG.out 4).trans rfl
       have p1:(0≤at1 N a)=True:=eq_true c1.1
       have p2:(at1 N a<(U.length:Int))=True:=eq_true c1.2
       have p3:(at1 N a<(N.length:Int))=True:=eq_true (by have:=HL.out;omega)
       have p4:(a<N.length)=True:=eq_true hlta
       have p5:(a<U.length)=True:=eq_true (by have:=HL.out;omega)
       have C1:=zqm c1
       have C2:=zqm c2
       clear c1 c2 hlta
       by_cases c3:meetO U a (at1 N a).toNat=leastO U
       ·have hc3:(mI U a (at1 N a).toNat !=optI (leastO U))=false:=by unfold mI;rw [c3];simp
        have C3:=zqm c3
        clear c3
        go_wp2_with fail
        go_quiet ((go_at_call 135;(with_reducible refine(impl_isAnswer.calls _ _ U (at1 N a) true _ ?s1 ?s2 hA1.out).mono ?_);(case s1=> exact zq113);(case s2=>assumption);rintro e w' ⟨rfl,⟨nd,rfl⟩⟩;(try first|exact⟨rfl,_,World.drewN_drewN _ _ _⟩|exact⟨rfl,_,Eq.trans (World.drewN_drewN _ _ _) (congrArg (World.drewN _) (Nat.add_assoc _ _ _))⟩)))
        go_wp2
        go_roundg kn3
        case measure=>omega
        case rel=>exact⟨a+1,by first|go_num|(rw [wrap_small (by omega) (by have:=HLT.out;have:=HSM.out;have:=HL.out;omega)];go_num),⟨by have:=HK3.out;omega⟩,⟨by have:=HLT.out;omega⟩,⟨blk_drewN HG.out _⟩,⟨Kd.R_drewN HCA.out _⟩,⟨Kd.R_drewN HCO.out _⟩,HCC,⟨blk_drewN HX.out _⟩,⟨pw_below_drewN HB.out _⟩,⟨fun i hi=>by
         rcases Nat.lt_or_ge i a with h|h
         ·exact HS.out i h
         ·obtain rfl:i=a:=by omega
          exact⟨C1.out.1,C1.out.2,C2.out,C3.out⟩⟩⟩
       ·have hc3:(mI U a (at1 N a).toNat !=optI (leastO U))=true:=by rw [bne_iff_ne];intro h;exact c3 (optI_inj h)
        have HNO:=zqm (logicB_no3 (U:=U) (N:=N) (a:=a) zq156 (fun h=>c3 h.2.2.2))
        clear c3
        go_wp2_with fail
        go_quiet ((go_at_call 135;(with_reducible refine(impl_isAnswer.calls _ _ U (at1 N a) true _ ?s1 ?s2 hA1.out).mono ?_);(case s1=> exact zq113);(case s2=>assumption);rintro e w' ⟨rfl,⟨nd,rfl⟩⟩;(try first|exact⟨rfl,_,World.drewN_drewN _ _ _⟩|exact⟨rfl,_,Eq.trans (World.drewN_drewN _ _ _) (congrArg (World.drewN _) (Nat.add_assoc _ _ _))⟩)))
        go_wp2
        go_ret
        exact⟨pw_below_drewN HB.out _,.inr ⟨HNO.out,rfl⟩⟩
      ·have hc2:(at1 N (at1 N a).toNat !=(a:Int))=true:=by rw [bne_iff_ne];exact c2
       have p1:(0≤at1 N a)=True:=eq_true c1.1
       have p2:(at1 N a<(U.length:Int))=True:=eq_true c1.2
       have p3:(at1 N a<(N.length:Int))=True:=eq_true (by have:=HL.out;omega)
       have p4:(a<N.length)=True:=eq_true hlta
       have HNO:=zqm (logicB_no3 (U:=U) (N:=N) (a:=a) zq156 (fun h=>c2 h.2.2.1))
       clear c1 c2 hlta
       go_wp2_with fail
       go_quiet ((go_at_call 135;(with_reducible refine(impl_isAnswer.calls _ _ U (at1 N a) true _ ?s1 ?s2 hA1.out).mono ?_);(case s1=> exact zq113);(case s2=>assumption);rintro e w' ⟨rfl,⟨nd,rfl⟩⟩;(try first|exact⟨rfl,_,World.drewN_drewN _ _ _⟩|exact⟨rfl,_,Eq.trans (World.drewN_drewN _ _ _) (congrArg (World.drewN _) (Nat.add_assoc _ _ _))⟩)))
       go_wp2
       go_ret
       exact⟨pw_below_drewN HB.out _,.inr ⟨HNO.out,rfl⟩⟩
     ·have hA1:=zqm (show impl_isAnswer.f U (at1 N a)=some false by
       unfold impl_isAnswer.f
       by_cases h:at1 N a≥0
       ·rw [if_pos h];simp;exact Int.not_lt.1 fun h2=>c1 ⟨h,h2⟩
       ·rw [if_neg h])
      have p4:(a<N.length)=True:=eq_true hlta
      have HNO:=zqm (logicB_no3 (U:=U) (N:=N) (a:=a) zq156 (fun h=>c1 ⟨h.1,h.2.1⟩))
      clear c1 hlta
      go_wp2_with fail
      go_quiet ((go_at_call 135;(with_reducible refine(impl_isAnswer.calls _ _ U (at1 N a) false _ ?s1 ?s2 hA1.out).mono ?_);(case s1=> exact zq113);(case s2=>assumption);rintro e w' ⟨rfl,⟨nd,rfl⟩⟩;(try first|exact⟨rfl,_,World.drewN_drewN _ _ _⟩|exact⟨rfl,_,Eq.trans (World.drewN_drewN _ _ _) (congrArg (World.drewN _) (Nat.add_assoc _ _ _))⟩)))
      go_wp2
      go_ret
      exact⟨pw_below_drewN HB.out _,.inr ⟨HNO.out,rfl⟩⟩
    ·have hlta':decide (a<N.length)=false:=decide_eq_false hlta
     obtain rfl:a=N.length:=by have:=HK4.out;omega
     clear hlta
     have HOrd:=zqm (latticeB_order HLB.out)
     go_wp2_with fail
     go_loopg [140] (U.length+1) (fun kq v140 W=> ∃(a:Nat),v140= .int .i64 a∧Aside0 (a+kq=U.length+1)∧Aside0 (a≤U.length)∧Aside0 (W.heap[g]? =some (.cells #[.slice A0 U.length c0,.slice AA U.length cA,.slice AO U.length cO,.slice A1 N.length c1,.int .i64 (optI (leastO U)),.int .i64 (0)] 74 (0,0)))∧Aside0 (Kd.R (Kd.slice 3 (Kd.int .i64)) 24 W w.heap.size (fun _=>True) (.slice AA U.length cA) (tabI U.length (mI U)))∧Aside0 (Kd.R (Kd.slice 3 (Kd.int .i64)) 24 W w.heap.size (fun _=>True) (.slice AO U.length cO) (tabI U.length (jI U)))∧Aside0 (U.length≤cA∧U.length≤cO)∧Aside0 (W.heap[gb]? =some (.cells #[.slice A0 U.length c0,.slice A1 N.length c1] 26 (0,0)))∧Aside0 (Below w.heap.size w W)∧Aside0 (∀i,i<a→ ∀j,j<U.length→Ok5 U N i j))
     case atStart=>exact⟨0,rfl,⟨by omega⟩,⟨by omega⟩,HG,HCA,HCO,HCC,HX,HB,⟨fun i hi=>absurd hi (by omega)⟩⟩
     case round=>
      clear hq0 hq1 HG HCA HCO HCC HX HB
      obtain⟨a,rfl,HK5,HK6,HG,HCA,HCO,HCC,HX,HB,HT⟩:=hrel
      cases gk with
      |zero=>exact absurd HK5.out (by have:=HK6.out;omega)
      |succ kn4=>
      have hq0:wr.cell? ⟨gb,0,none⟩=some (.slice A0 U.length c0):=(blk_cell HX.out 0).trans rfl
      have hq1:wr.cell? ⟨gb,1,none⟩=some (.slice A1 N.length c1):=(blk_cell HX.out 1).trans rfl
      by_cases hlta:a<U.length
      ·have hlta':decide (a<U.length)=true:=decide_eq_true hlta
       have HLT:=zqm hlta
       have hrow:=HOrd.out.row a hlta
       obtain⟨adU,Ar,cr,eU,hUa,hUl,hUr⟩:=rows_cell HR0.out a (by omega) (by omega)
       subst eU
       simp only [Int.toNat_natCast] at hUa hUl hUr
       rw [hrow] at hUa hUl hUr
       replace hUa:=cell_up hUa HB.out rfl
       have HUr:=zqm (Kd.C_below hUr HB.out)
       have p1:(a<U.length)=True:=eq_true hlta
       clear hlta hrow hUr
       go_wp2_with fail
       obtain⟨wo,rfl⟩: ∃wo:World,wo=wr:=⟨_,rfl⟩
       go_loopg [147] (U.length+1) (fun kj v147 W=> ∃(b m:Nat),v147= .int .i64 b∧Aside0 (b+kj=U.length+1)∧Aside0 (b≤U.length)∧Aside0 (∀j,j<b→Ok5 U N a j)∧W=wo.drewN m)
       case atStart=>exact⟨0,0,rfl,⟨by omega⟩,⟨by omega⟩,⟨fun i hi=>absurd hi (by omega)⟩,rfl⟩
       case round=>
        obtain⟨b,m,rfl,HKj,HKj2,HU5,rfl⟩:=hrel
        cases gk with
        |zero=>exact absurd HKj.out (by have:=HKj2.out;omega)
        |succ kj=>
        by_cases hltb:b<U.length
        ·have hltb':decide (b<U.length)=true:=decide_eq_true hltb
         have HLTb:=zqm hltb
         have p2:(b<U.length)=True:=eq_true hltb
         obtain⟨adR,eR,hRb⟩:=ints_cell HUr.out b (by omega) (by omega)
         subst eR
         simp only [Int.toNat_natCast] at hRb
         have hRb':wo.cell? (adR.add b)=some (.int .i64 (at2 U a b)):=hRb
         clear hRb
         by_cases d1:leB U a b=true
         ·have hd1:(at2 U a b==1)=true:=d1
          obtain⟨q1,q2,_,_⟩:=HS.out a zq156
          obtain⟨q3,q4,_,_⟩:=HS.out b (by have:=HL.out;omega)
          obtain⟨adN,eN,hNa⟩:=ints_cell HR1.out a (by omega) zq156
          subst eN
          obtain⟨adN',eN',hNb⟩:=ints_cell HR1.out b (by omega) (by have:=HL.out;omega)
          cases eN'
          obtain⟨ad1,ad2,cr2,e1,hM1,hM2,hMl⟩:=mat_cell HR0.out HOrd.out.row (at1 N b) (at1 N a) q3 q4 q1 q2
          cases e1
          replace hNa:=cell_up hNa HB.out rfl
          replace hNb:=cell_up hNb HB.out rfl
          replace hM1:=cell_up hM1 HB.out rfl
          replace hM2:=cell_up hM2 HB.out rfl
          simp only [Int.toNat_natCast] at hNa hNb
          have p3:(0≤at1 N a)=True:=eq_true q1
          have p4:(at1 N a<(U.length:Int))=True:=eq_true q2
          have p5:(0≤at1 N b)=True:=eq_true q3
          have p6:(at1 N b<(U.length:Int))=True:=eq_true q4
          have p7:(a<N.length)=True:=eq_true zq156
          have p8:(b<N.length)=True:=eq_true (by have:=HL.out;omega)
          have D1:=zqm d1
          clear q1 q2 q3 q4 hltb d1
          by_cases d2:leB U (at1 N b).toNat (at1 N a).toNat=true
          ·have hd2:(at2 U (at1 N b).toNat (at1 N a).toNat !=1)=false:=by have h_:(at2 U (at1 N b).toNat (at1 N a).toNat==1)=true:=d2;simpa [bne] using h_
           have D2:=zqm d2
           clear d2
           go_wp2_with fail
           go_quiet (fail)
           go_wp2
           go_roundg kj
           case measure=>omega
           case rel=>exact⟨b+1,_,zq165,⟨by have:=HKj.out;omega⟩,⟨by have:=HLTb.out;omega⟩,⟨fun i hi=>by
            rcases Nat.lt_or_ge i b with h|h
            ·exact HU5.out i h
            ·obtain rfl:i=b:=by omega
             exact fun _=>D2.out⟩,rfl⟩
          ·have hd2:(at2 U (at1 N b).toNat (at1 N a).toNat !=1)=true:=by rw [bne_iff_ne];intro h_;exact d2 (by unfold leB;rw [h_];rfl)
           have HNO:=zqm (logicB_no5 (U:=U) (N:=N) (a:=a) (b:=b) HLT.out HLTb.out (fun h=>d2 (h D1.out)))
           clear d2
           go_wp2_with fail
           go_quiet (fail)
           go_wp2
           go_ret
           exact⟨by repeat(first|exact HB.out|apply pw_below_drewN|apply below_drew1),.inr ⟨HNO.out,rfl⟩⟩
         ·have hd1:(at2 U a b==1)=false:=by simpa [leB] using d1
          have D1:=zqm d1
          clear d1 hltb
          go_wp2_with fail
          go_quiet (fail)
          go_wp2
          go_roundg kj
          case measure=>omega
          case rel=>exact⟨b+1,_,zq165,⟨by have:=HKj.out;omega⟩,⟨by have:=HLTb.out;omega⟩,⟨fun i hi=>by
           rcases Nat.lt_or_ge i b with h|h
           ·exact HU5.out i h
           ·obtain rfl:i=b:=by omega
            exact fun h=>absurd h D1.out⟩,rfl⟩
        ·have hltb':decide (b<U.length)=false:=decide_eq_false hltb
         obtain rfl:b=U.length:=by have:=HKj2.out;omega
         clear hltb
         go_wp2_with fail
         go_roundg kn4
         case measure=>omega
         case rel=>exact⟨a+1,by first|go_num|(rw [wrap_small (by omega) (by have:=HLT.out;have:=HSM.out;omega)];go_num),⟨by have:=HK5.out;omega⟩,⟨by have:=HLT.out;omega⟩,⟨blk_drewN HG.out _⟩,⟨Kd.R_drewN HCA.out _⟩,⟨Kd.R_drewN HCO.out _⟩,HCC,⟨blk_drewN HX.out _⟩,⟨pw_below_drewN HB.out _⟩,⟨fun i hi=>by
          rcases Nat.lt_or_ge i a with h|h
          ·exact HT.out i h
          ·obtain rfl:i=a:=by omega
           exact HU5.out⟩⟩
      ·have hlta':decide (a<U.length)=false:=decide_eq_false hlta
       obtain rfl:a=U.length:=by have:=HK6.out;omega
       clear hlta
       have HYES:=zqm (logicB_yes (U:=U) (N:=N) HLB.out HL.out (fun i hi=>HS.out i (by have:=HL.out;omega)) HT.out)
       have HLg:=zqm (logicB_iff.1 HYES.out)
       obtain⟨mno,hmno⟩:=HLg.out.least_some
       have hno:optI (leastO U)=(mno:Int):=by rw [hmno];rfl
       have hmn:mno<U.length:=(findN_some hmno).1
       obtain⟨adN,eN,hNa⟩:=ints_cell HR1.out mno (by omega) (by have:=HL.out;omega)
       subst eN
       replace hNa:=cell_up hNa HB.out rfl
       simp only [Int.toNat_natCast] at hNa
       rw [hno] at HG
       have hg4:wr.cell? ⟨g,4,none⟩=some (.int .i64 (mno:Int)):=(blk_cell HG.out 4).trans rfl
       have hg5:wr.cell? ⟨g,5,none⟩=some (.int .i64 0):=(blk_cell HG.out 5).trans rfl
       have hf5:=blk_frozen HG.out 5
       have p1:(mno<N.length)=True:=eq_true (by have:=HL.out;omega)
       have HNO:=zqm hno
       clear hno hmno hmn
       go_wp2_with fail
       refine start_ (n:=12) (S:=(fun w'=>w'.cell? ⟨gb,1,none⟩=some (.slice (some adN) N.length c1)∧w'.cell? ⟨g,4,none⟩=some (.int .i64 (mno:Int))∧w'.cell? (adN.add mno)=some (.int .i64 (at1 N mno)))) (ds:= [11]) (zqb 12 0) zqk rfl rfl ⟨hq1,hg4,hNa⟩ (fun hHeld=>?_)
       refine with_tabW impl_told.tab34 impl_told.bits34 (fun HT_ HW_=>?_)
       refine zqp 0 175 (zqb 12 1) HT_ ?_
       refine zqp 1 176 (zqb 12 3) HT_ ?_
       refine zqp 3 178 (zqb 12 11) HT_ ?_
       refine zqp 4 179 (zqb 12 27) HT_ ?_
       refine zqp 5 180 (zqb 12 59) HT_ ?_
       refine zqw 2 177 (zqb 12 63) HT_ HW_ hHeld ?_
       refine zqw 6 181 (zqb 12 127) HT_ HW_ hHeld ?_
       refine zqp 7 182 (zqb 12 255) HT_ ?_
       refine zqw 8 183 (zqb 12 511) HT_ HW_ hHeld ?_
       refine zqp 9 184 (zqb 12 1023) HT_ ?_
       refine zqp 10 185 (zqb 12 2047) HT_ ?_
       refine last_ (i:=11) (N:=none) (zqb 12 4095) rfl rfl (one_of HT_.out zqk) (by decide) (fun K hK=>?_)
       refine skip_ (w1:=World.setCell wr.drew ⟨g,5,none⟩ (.int .i64 (at1 N mno))) (by rfl) rfl ?_ ?_
       ·go_simp
       refine hK.out _ _ ?_
       clear hK K
       refine done_ (done_of HT_.out zqk) ?_
       go_wp2
       go_ret
       refine⟨below_set (below_drew1 HB.out) HGE.out,.inl ⟨HYES.out,g,rfl,HGE.out,?_⟩⟩
       unfold AlgOf;rw [HNO.out,Int.toNat_natCast]
       have hb5:Below w.heap.size w (World.setCell wr.drew ⟨g,5,none⟩ (.int .i64 (at1 N mno))):=below_set (below_drew1 HB.out) HGE.out
       have hA5:=(Kd.R_reads' (Kd.R_set (Kd.R_drew HCA.out) (blk_drew HG.out) (by decide) 5 (.int .i64 (at1 N mno)))).2.2
       have hO5:=(Kd.R_reads' (Kd.R_set (Kd.R_drew HCO.out) (blk_drew HG.out) (by decide) 5 (.int .i64 (at1 N mno)))).2.2
       refine⟨_,c0,AA,cA,AO,cO,_,c1,?_,⟨hc0,by rw [tabI_length];exact HCC.out.1,by rw [tabI_length];exact HCC.out.2,hc1⟩,Kd.C_below HR0.out hb5,hA5,hO5,Kd.C_below HR1.out hb5⟩
       rw [tabI_length,tabI_length];exact blk_put (blk_drew HG.out) 5 _ rfl
theorem told_calls (k : Nat) (A0 : Option Addr) (c0 : Nat) (U : List (List Int)) (A1 : Option Addr) (c1 : Nat) (N : List Int) (w : World)
 (hr0:Kd.C (Kd.slice 3 (Kd.int .i64)) w A0 U.length U) (hc0:U.length≤c0) (hr1:Kd.C (Kd.int .i64) w A1 N.length N) (hc1:N.length≤c1) (hF:ToldFacts k U):Calls Try.prog 70 #[.agg #[.slice A0 U.length c0,.slice A1 N.length c1]] w (ToldPost U N w):=by
 cases hlat:latticeB U with
 |false=>
  refine(told_flat k A0 c0 U A1 c1 N w hr0 hc0 hr1 hc1 (hlat ▸ hF.lat)).mono fun e w' h=>⟨h.2,.inr ⟨?_,h.1⟩⟩
  unfold logicB;rw [hlat];rfl
 |true=>
  by_cases hl:N.length=U.length
  ·exact told_walk k A0 c0 U A1 c1 N w hr0 hc0 hr1 hc1 hF hl hlat
  ·refine(told_long k A0 c0 U A1 c1 N w hr0 hc0 hr1 hc1 (hlat ▸ hF.lat) hl).mono fun e w' h=>⟨h.2,.inr ⟨?_,h.1⟩⟩
   rw [Bool.eq_false_iff]
   intro h2
   exact hl (logicB_iff.1 h2).len
section
def In (U : List (List Int)) (a : Int) : Prop := 0 ≤ a ∧ a < (U.length : Int)
def inR (n : Nat) (a : Int) : Bool := decide (0 ≤ a) && decide (a < (n : Int))
theorem inR_iff {U : List (List Int)} {a : Int} : inR U.length a = true ↔ In U a := by simp [inR, In]
def andI (U : List (List Int)) (a b : Int) : Int := mI U a.toNat b.toNat
def orI (U : List (List Int)) (a b : Int) : Int := jI U a.toNat b.toNat
def notI (N : List Int) (a : Int) : Int := at1 N a.toNat
def leI (U : List (List Int)) (a b : Int) : Bool := leB U a.toNat b.toNat
def noI (U : List (List Int)) : Int := optI (leastO U)
def yesI (U : List (List Int)) (N : List Int) : Int := notI N (noI U)
section
variable {U : List (List Int)} {N : List Int} (L : Logic U N)
include L
theorem _root_.Oml.Logic.in_and {a b : Int} (ha : In U a) (hb : In U b) : In U (andI U a b) := by
 obtain⟨m,hm⟩:=Option.isSome_iff_exists.1 (L.meets a.toNat b.toNat (by have:=ha.1;have:=ha.2;omega) (by have:=hb.1;have:=hb.2;omega))
 have:=(findN_some hm).1
 unfold In andI mI;rw [hm];simp only [optI];omega
theorem _root_.Oml.Logic.in_or {a b : Int} (ha : In U a) (hb : In U b) : In U (orI U a b) := by
 obtain⟨m,hm⟩:=Option.isSome_iff_exists.1 (L.joins a.toNat b.toNat (by have:=ha.1;have:=ha.2;omega) (by have:=hb.1;have:=hb.2;omega))
 have:=(findN_some hm).1
 unfold In orI jI;rw [hm];simp only [optI];omega
theorem _root_.Oml.Logic.in_not {a : Int} (ha : In U a) : In U (notI N a) := L.ran a.toNat (by have := ha.1; have := ha.2; omega)
theorem _root_.Oml.Logic.in_no : In U (noI U) := by
 obtain ⟨m, hm⟩ := L.least_some
 have := (findN_some hm).1
 unfold In noI; rw [hm]; simp only [optI]; omega
theorem _root_.Oml.Logic.in_yes : In U (yesI U N) := L.in_not L.in_no
theorem _root_.Oml.Logic.le_val {a b : Int} (ha : In U a) (hb : In U b) : at2 U a.toNat b.toNat = if leI U a b = true then 1 else 0 :=
 L.toOrder.val (by have:=ha.1;have:=ha.2;omega) (by have:=hb.1;have:=hb.2;omega)
end
structure Adr where
 aU:Addr
 aA:Addr
 aO:Addr
 aN:Addr
 cU:Nat
 cA:Nat
 cO:Nat
 cN:Nat
 rU:Nat→Addr
 rA:Nat→Addr
 rO:Nat→Addr
 qU:Nat→Nat
 qA:Nat→Nat
 qO:Nat→Nat
structure View (W : World) (g : Nat) (U : List (List Int)) (N : List Int) (v : Adr) : Prop where
 blk:W.heap[g]? =some (.cells #[.slice (some v.aU) U.length v.cU,.slice (some v.aA) U.length v.cA,.slice (some v.aO) U.length v.cO,.slice (some v.aN) U.length v.cN,.int .i64 (noI U),.int .i64 (yesI U N)] 74 (0,0))
 len:N.length=U.length
 u: ∀a,In U a→W.cell? (v.aU.add a.toNat)=some (.slice (some (v.rU a.toNat)) U.length (v.qU a.toNat))
 u2: ∀a b,In U a→In U b→W.cell? ((v.rU a.toNat).add b.toNat)=some (.int .i64 (at2 U a.toNat b.toNat))
 m: ∀a,In U a→W.cell? (v.aA.add a.toNat)=some (.slice (some (v.rA a.toNat)) U.length (v.qA a.toNat))
 m2: ∀a b,In U a→In U b→W.cell? ((v.rA a.toNat).add b.toNat)=some (.int .i64 (andI U a b))
 j: ∀a,In U a→W.cell? (v.aO.add a.toNat)=some (.slice (some (v.rO a.toNat)) U.length (v.qO a.toNat))
 j2: ∀a b,In U a→In U b→W.cell? ((v.rO a.toNat).add b.toNat)=some (.int .i64 (orI U a b))
 n: ∀a,In U a→W.cell? (v.aN.add a.toNat)=some (.int .i64 (notI N a))
 capU:U.length≤v.cU
 capR: ∀a,In U a→U.length≤v.qU a.toNat
namespace View
section
variable {W W1 : World} {g : Nat} {U : List (List Int)} {N : List Int} {v : Adr} (h : View W g U N v)
include h
theorem below (hb : Below W.heap.size W W1) : View W1 g U N v where
 blk:=blk_below h.blk hb
 len:=h.len
 u:=fun a ha=>cell_up (h.u a ha) hb rfl
 u2:=fun a b ha hb'=>cell_up (h.u2 a b ha hb') hb rfl
 m:=fun a ha=>cell_up (h.m a ha) hb rfl
 m2:=fun a b ha hb'=>cell_up (h.m2 a b ha hb') hb rfl
 j:=fun a ha=>cell_up (h.j a ha) hb rfl
 j2:=fun a b ha hb'=>cell_up (h.j2 a b ha hb') hb rfl
 n:=fun a ha=>cell_up (h.n a ha) hb rfl
 capU:=h.capU
 capR:=h.capR
theorem f0 : W.cell? ⟨g, 0, none⟩ = some (.slice (some v.aU) U.length v.cU) := (blk_cell h.blk 0).trans rfl
theorem f1 : W.cell? ⟨g, 1, none⟩ = some (.slice (some v.aA) U.length v.cA) := (blk_cell h.blk 1).trans rfl
theorem f2 : W.cell? ⟨g, 2, none⟩ = some (.slice (some v.aO) U.length v.cO) := (blk_cell h.blk 2).trans rfl
theorem f3 : W.cell? ⟨g, 3, none⟩ = some (.slice (some v.aN) U.length v.cN) := (blk_cell h.blk 3).trans rfl
theorem f4 : W.cell? ⟨g, 4, none⟩ = some (.int .i64 (noI U)) := (blk_cell h.blk 4).trans rfl
theorem f5 : W.cell? ⟨g, 5, none⟩ = some (.int .i64 (yesI U N)) := (blk_cell h.blk 5).trans rfl
theorem drewN (n : Nat) : View (W.drewN n) g U N v := h.below (pw_below_drewN (Below.refl _ _) n)
theorem alloc (o : Obj) : View (W.alloc o) g U N v := h.below (below_alloc (Below.refl _ _) o)
end
end View
theorem rows_adr {W : World} {A : Option Addr} {n m : Nat} {xs : List (List Int)} (h : Kd.C (Kd.slice 3 (Kd.int .i64)) W A m xs) (hm : m = n) (hn : 0 < n) (hr : ∀ a, a < n → (xs.getD a []).length = n) :
 ∃(ad:Addr) (r:Nat→Addr) (q:Nat→Nat),A=some ad∧(∀a,a<n→W.cell? (ad.add a)=some (.slice (some (r a)) n (q a)))∧(∀a b,a<n→b<n→W.cell? ((r a).add b)=some (.int .i64 (at2 xs a b)))∧ ∀a,a<n→n≤q a:=by
 subst hm
 obtain⟨ad,_,_,e,_⟩:=mat_cell h hr 0 0 (by omega) (by omega) (by omega) (by omega)
 have key: ∀a:Nat,∃(r:Addr) (q:Nat),a<m→W.cell? (ad.add a)=some (.slice (some r) m q)∧(∀b,b<m→W.cell? (r.add b)=some (.int .i64 (at2 xs a b)))∧m≤q:=by
  intro a
  by_cases ha:a<m
  ·obtain⟨ad1,Ar,cr,e1,hc,hl,hk⟩:=rows_cell h a (by omega) (by omega)
   rw [e] at e1
   injection e1 with e1
   subst e1
   simp only [Int.toNat_natCast] at hc hl hk
   rw [hr a ha] at hc hl hk
   obtain⟨r,e2,_⟩:=ints_cell hk 0 (by omega) (by omega)
   subst e2
   refine⟨r,cr,fun _=>⟨hc,fun b hb=>?_,hl⟩⟩
   obtain⟨r',e3,hc3⟩:=ints_cell hk b (by omega) (by omega)
   cases e3
   simpa [at2,at1] using hc3
  ·exact⟨ad,0,fun h=>absurd h ha⟩
 refine⟨ad,fun a=>Classical.choose (key a),fun a=>Classical.choose (Classical.choose_spec (key a)),e,fun a ha=>?_,fun a b ha hb=>?_,fun a ha=>?_⟩
 ·exact(Classical.choose_spec (Classical.choose_spec (key a)) ha).1
 ·exact(Classical.choose_spec (Classical.choose_spec (key a)) ha).2.1 b hb
 ·exact(Classical.choose_spec (Classical.choose_spec (key a)) ha).2.2
theorem view_of {W : World} {g : Nat} {U : List (List Int)} {N : List Int} (L : Logic U N) (h : AlgOf W g U N) : ∃ v, View W g U N v := by
 obtain⟨A0,c0,A1,c1,A2,c2,A3,c3,h1,hc,k0,k1,k2,k3⟩:=h
 have hn:0<U.length:=L.pos
 rw [tabI_length] at h1 hc k1 k2
 rw [tabI_length,L.len] at h1
 rw [tabI_length,L.len] at hc
 rw [L.len] at k3
 obtain⟨aU,rU,qU,eU,u1,u2,u3⟩:=rows_adr k0 rfl hn L.row
 obtain⟨aA,rA,qA,eA,m1,m2,m3⟩:=rows_adr k1 rfl hn (tabI_row _ _)
 obtain⟨aO,rO,qO,eO,j1,j2,j3⟩:=rows_adr k2 rfl hn (tabI_row _ _)
 obtain⟨aN,eN,_⟩:=ints_cell k3 0 (by omega) (by omega)
 subst eU eA eO eN
 have nat: ∀a,In U a→a.toNat<U.length:=fun a ha=>by have:=ha.1;have:=ha.2;omega
 refine⟨⟨aU,aA,aO,aN,c0,c1,c2,c3,rU,rA,rO,qU,qA,qO⟩,{ blk:=h1,len:=L.len,u:=fun a ha=>u1 _ (nat a ha),u2:=fun a b ha hb=>u2 _ _ (nat a ha) (nat b hb),m:=fun a ha=>m1 _ (nat a ha),m2:=fun a b ha hb=>?_,j:=fun a ha=>j1 _ (nat a ha),j2:=fun a b ha hb=>?_,n:=fun a ha=>?_,capU:=hc.1,capR:=fun a ha=>u3 _ (nat a ha) }⟩
 ·rw [m2 _ _ (nat a ha) (nat b hb),tabI_at _ _ _ _ (nat a ha) (nat b hb)];rfl
 ·rw [j2 _ _ (nat a ha) (nat b hb),tabI_at _ _ _ _ (nat a ha) (nat b hb)];rfl
 ·obtain⟨ad,e,hcell⟩:=ints_cell k3 a ha.1 ha.2
  cases e
  exact hcell
theorem told_y (k : Nat) (A0 : Option Addr) (c0 : Nat) (U : List (List Int)) (A1 : Option Addr) (c1 : Nat) (N : List Int) (w : World)
 (hr0:Kd.C (Kd.slice 3 (Kd.int .i64)) w A0 U.length U) (hc0:U.length≤c0) (hr1:Kd.C (Kd.int .i64) w A1 N.length N) (hc1:N.length≤c1) (hF:ToldFacts k U) (hL:logicB U N=true):
 Calls Try.prog 70 #[.agg #[.slice A0 U.length c0,.slice A1 N.length c1]] w fun e w'=> ∃g v,e= .returned (.pointer (some ⟨g,0,none⟩))∧View w' g U N v∧w.heap.size≤g∧Below w.heap.size w w':=by
 refine(told_calls k A0 c0 U A1 c1 N w hr0 hc0 hr1 hc1 hF).mono fun e w' h=>?_
 obtain⟨hb,h|h⟩:=h
 ·obtain⟨_,g,he,hg,ha⟩:=h
  obtain⟨v,hv⟩:=view_of (logicB_iff.1 hL) ha
  exact⟨g,v,he,hv,hg,hb⟩
 ·rw [hL] at h;exact absurd h.1 (by simp)
theorem told_n (k : Nat) (A0 : Option Addr) (c0 : Nat) (U : List (List Int)) (A1 : Option Addr) (c1 : Nat) (N : List Int) (w : World)
 (hr0:Kd.C (Kd.slice 3 (Kd.int .i64)) w A0 U.length U) (hc0:U.length≤c0) (hr1:Kd.C (Kd.int .i64) w A1 N.length N) (hc1:N.length≤c1) (hF:ToldFacts k U) (hL:logicB U N=false):
 Calls Try.prog 70 #[.agg #[.slice A0 U.length c0,.slice A1 N.length c1]] w fun e w'=>e= .returned (.pointer none)∧Below w.heap.size w w':=by
 refine(told_calls k A0 c0 U A1 c1 N w hr0 hc0 hr1 hc1 hF).mono fun e w' h=>?_
 obtain⟨hb,h|h⟩:=h
 ·rw [hL] at h;exact absurd h.1 (by simp)
 ·exact⟨h.2,hb⟩
end
theorem goesV_ {P : Program} {ops : Array Oper} {Q : Exit → Act → World → Prop} {rest : List Oper} {oi : Oper} {a : Act} {w : World} (N : Option Tmp) (hd : oi.dst = N) (hg : oi.guard = none) {f : FuncId} {fn : Func} {x : Operand} {xo : Array Operand} {ts : Array TypeId} {cs : Array Value}
 (hf : P.funcs[f]? = some fn) (hname : (fn.name == "runtime.NumGoroutine") = false) (hb : fn.body.isSome = true) (args : Array Value)
 (hop : oi.op = .call { callee := .value x, args := xo, argTypes := ts }) (hx : a.eval x = .func (.func f) #[] cs) (hargs : xo.map a.eval = args)
 (h : Calls P f (args ++ cs) w fun e w' => ∃ v, e = .returned v ∧ wpList P ops Q rest (a.put N v) w') : wpList P ops Q (oi :: rest) a w := by
 refine wpList_plain hg fun K hK => ?_
 have he := enters_ hf hname hb (args ++ cs) w
 have hrun : (execOp a.eval oi).run P w = .ok (.enter f (args ++ cs)) w := by
  unfold execOp
  simp [hop, resolve, Deferred.ofValue, invoke, hx, hargs, he]
 unfold Oper.wp
 rw [hrun, Oper.upon_enter]
 refine h.mono fun e w'' hh => ?_
 obtain ⟨v, rfl, hk⟩ := hh
 subst hd
 exact hK _ _ hk
set_option maxHeartbeats 1000000 in
set_option maxRecDepth 100000 in
theorem every_calls (g : Nat) (U : List (List Int)) (N : List Int) (v : Adr) (w : World) (hs : U.length ≤ 12) (fv : Nat) (fn : Func) (cs : Array Value) (hf : Try.prog.funcs[fv]? = some fn) (hname : (fn.name == "runtime.NumGoroutine") = false) (hb : fn.body.isSome = true)
 (p : Nat → Nat → Bool) (J : Nat → World → Prop) (hV : ∀ i w', J i w' → View w' g U N v) (hD : ∀ i w' n, J i w' → J i (w'.drewN n)) (h0 : J 0 w)
 (step : ∀ a b : Nat, a < U.length → b < U.length → ∀ w', J (a * U.length + b) w' → Calls Try.prog fv (#[.int .i64 a, .int .i64 b] ++ cs) w' fun e w'' => e = .returned (.bool (p a b)) ∧ J (a * U.length + b + 1) w'') :
 Calls Try.prog 71 #[.pointer (some ⟨g, 0, none⟩), .func (.func fv) #[] cs] w fun e w' =>
  e = .returned (.bool (allN U.length fun a => allN U.length fun b => p a b)) ∧ ∃ i, J i w' ∧ ((allN U.length fun a => allN U.length fun b => p a b) = true → i = U.length * U.length) := by
 obtain ⟨r, hr⟩ : ∃ r, r = allN U.length fun a => allN U.length fun b => p a b := ⟨_, rfl⟩
 rw [← hr]
 have hu70 := Try.underlying74
 have HF := Aside0.mk hf
 have HNM := Aside0.mk hname
 have HBD := Aside0.mk hb
 have HV := Aside0.mk hV
 have HD := Aside0.mk hD
 have HJ0 := Aside0.mk h0
 have HST := Aside0.mk step
 have HR := Aside0.mk hr
 have hf0 := (hV 0 w h0).f0
 clear hf hname hb hV hD h0 step hr
 go_enter Try.func71, Try.ntmps71
 go_wp2_with fail
 go_loopg [12] (U.length + 1) (fun kq v12 W => ∃ i s : Nat, v12 = .int .i64 i ∧ Aside0 (i + kq = U.length + 1) ∧ Aside0 (i ≤ U.length) ∧ Aside0 (s = i * U.length) ∧ Aside0 (∀ a, a < i → ∀ b, b < U.length → p a b = true) ∧ Aside0 (J s W))
 case atStart => exact ⟨0, 0, rfl, ⟨by omega⟩, ⟨by omega⟩, ⟨by simp⟩, ⟨fun j hj => absurd hj (by omega)⟩, ⟨by first | exact HJ0.out | exact HD.out _ _ _ HJ0.out⟩⟩
 case round =>
  clear hf0
  obtain ⟨i, s, rfl, HK, HK2, HSI, HS, HJ⟩ := hrel
  have hf0 := (HV.out _ _ HJ.out).f0
  cases gk with
  | zero => exact absurd HK.out (by have := HK2.out; omega)
  | succ kn =>
  by_cases hlt : i < U.length
  ·have hlt' : decide (i < U.length) = true := decide_eq_true hlt
   have HLT := Aside0.mk hlt
   clear hlt
   go_wp2_with fail
   go_loopg [20] (U.length + 1) (fun kq v20 W => ∃ j : Nat, v20 = .int .i64 j ∧ Aside0 (j + kq = U.length + 1) ∧ Aside0 (j ≤ U.length) ∧ Aside0 (∀ b, b < j → p i b = true) ∧ Aside0 (J (s + j) W))
   case atStart => exact ⟨0, rfl, ⟨by omega⟩, ⟨by omega⟩, ⟨fun j hj => absurd hj (by omega)⟩, ⟨by first | exact HJ.out | exact HD.out _ _ _ HJ.out⟩⟩
   case round =>
    clear hf0
    obtain ⟨j, rfl, HKj, HKj2, HSj, HJj⟩ := hrel
    cases gk with
    | zero => exact absurd HKj.out (by have := HKj2.out; omega)
    | succ kj =>
    by_cases hlj : j < U.length
    ·have hlj' : decide (j < U.length) = true := decide_eq_true hlj
     have HLJ := Aside0.mk hlj
     clear hlj
     cases hp : p i j with
     | true =>
      have HP := Aside0.mk hp
      clear hp
      go_wp2_with (refine goesV_ (some 26) rfl rfl HF.out HNM.out HBD.out #[.int .i64 i, .int .i64 j] rfl rfl zq68 ?_; refine (HST.out i j HLT.out HLJ.out _ ?sJ).mono ?_; (case sJ => exact zq169); rintro e w1 ⟨he, hj⟩; rw [HP.out] at he; subst he; refine ⟨_, rfl, ?_⟩; have HJ1 := Aside0.mk hj; clear hj)
      go_roundg kj
      case measure => omega
      case rel => exact ⟨j + 1, by first | go_num | (rw [wrap_small (by omega) (by have := HLJ.out; omega)]; go_num), ⟨by have := HKj.out; omega⟩, ⟨by have := HLJ.out; omega⟩, ⟨fun b hb => by
       rcases Nat.lt_or_ge b j with h | h
       ·exact HSj.out b h
       ·obtain rfl : b = j := by omega
        exact HP.out⟩, ⟨by have h1 := HJ1.out; rw [← HSI.out, Nat.add_assoc] at h1; first | exact h1 | exact HD.out _ _ _ h1⟩⟩
     | false =>
      have HP := Aside0.mk hp
      clear hp
      have hrf : r = false := by
       rw [HR.out]
       exact allN_false.2 ⟨i, HLT.out, allN_false.2 ⟨j, HLJ.out, HP.out⟩⟩
      subst hrf
      go_wp2_with (refine goesV_ (some 26) rfl rfl HF.out HNM.out HBD.out #[.int .i64 i, .int .i64 j] rfl rfl zq68 ?_; refine (HST.out i j HLT.out HLJ.out _ ?sJ).mono ?_; (case sJ => exact zq169); rintro e w1 ⟨he, hj⟩; rw [HP.out] at he; subst he; refine ⟨_, rfl, ?_⟩; have HJ1 := Aside0.mk hj; clear hj)
      go_ret
      exact ⟨rfl, _, by first | exact HJ1.out | exact HD.out _ _ _ HJ1.out, fun h => by cases h⟩
    ·have hlj' : decide (j < U.length) = false := decide_eq_false hlj
     obtain rfl : j = U.length := by have := HKj2.out; omega
     clear hlj
     go_wp2_with fail
     go_roundg kn
     case measure => omega
     case rel => exact ⟨i + 1, s + U.length, by first | go_num | (rw [wrap_small (by omega) (by have := HLT.out; omega)]; go_num), ⟨by have := HK.out; omega⟩, ⟨by have := HLT.out; omega⟩, ⟨by rw [Nat.succ_mul, HSI.out]⟩, ⟨fun a ha => by
      rcases Nat.lt_or_ge a i with h | h
      ·exact HS.out a h
      ·obtain rfl : a = i := by omega
       exact HSj.out⟩, ⟨by first | exact HJj.out | exact HD.out _ _ _ HJj.out⟩⟩
  ·have hlt' : decide (i < U.length) = false := decide_eq_false hlt
   obtain rfl : i = U.length := by have := HK2.out; omega
   have hrt : r = true := by
    rw [HR.out, allN_iff]
    intro a ha
    exact allN_iff.2 (HS.out a ha)
   subst hrt
   clear hlt
   go_wp2_with fail
   go_ret
   have hj := HJ.out
   rw [HSI.out] at hj
   exact ⟨rfl, by first | exact hj | exact HD.out _ _ _ hj⟩
theorem every_pure (g : Nat) (U : List (List Int)) (N : List Int) (v : Adr) (w : World) (hs : U.length ≤ 12) (hV : View w g U N v) (fv : Nat) (fn : Func) (cs : Array Value) (hf : Try.prog.funcs[fv]? = some fn) (hname : (fn.name == "runtime.NumGoroutine") = false) (hb : fn.body.isSome = true)
 (p : Nat → Nat → Bool) (step : ∀ a b : Nat, a < U.length → b < U.length → ∀ W, Below w.heap.size w W → Calls Try.prog fv (#[.int .i64 a, .int .i64 b] ++ cs) W fun e w'' => e = .returned (.bool (p a b)) ∧ Below W.heap.size W w'') :
 Calls Try.prog 71 #[.pointer (some ⟨g, 0, none⟩), .func (.func fv) #[] cs] w fun e w' => e = .returned (.bool (allN U.length fun a => allN U.length fun b => p a b)) ∧ Below w.heap.size w w' := by
 refine (every_calls g U N v w hs fv fn cs hf hname hb p (fun _ W => Below w.heap.size w W) (fun _ W h => hV.below h) (fun _ W n h => pw_below_drewN h n) (Below.refl _ _) (fun a b ha hb' W hW => ?_)).mono ?_
 ·refine (step a b ha hb' W hW).mono ?_
  rintro e w2 ⟨rfl, h2⟩
  exact ⟨rfl, below_step hW h2⟩
 ·rintro e w2 ⟨rfl, i, h2, _⟩
  exact ⟨rfl, h2⟩
def filI (n : Nat) (p : Nat → Bool) : List Int := ((List.range n).filter p).map fun (a : Nat) => (a : Int)
theorem filI_zero (p : Nat → Bool) : filI 0 p = [] := rfl
theorem filI_succ (n : Nat) (p : Nat → Bool) : filI (n + 1) p = if p n = true then filI n p ++ [(n : Int)] else filI n p := by
 unfold filI
 rw [List.range_succ,List.filter_append,List.map_append]
 cases h:p n <;> simp [h]
theorem filI_length (n : Nat) (p : Nat → Bool) : (filI n p).length ≤ n := by
 unfold filI
 rw [List.length_map]
 exact Nat.le_trans (List.length_filter_le _ _) (by simp)
set_option maxHeartbeats 1000000 in
set_option maxRecDepth 100000 in
theorem all_calls (g : Nat) (U : List (List Int)) (N : List Int) (v : Adr) (w : World) (hs : U.length ≤ 12) (hV : View w g U N v) (fv : Nat) (fn : Func) (cs : Array Value) (hf : Try.prog.funcs[fv]? = some fn) (hname : (fn.name == "runtime.NumGoroutine") = false) (hb : fn.body.isSome = true)
 (p : Nat → Bool) (step : ∀ a : Nat, a < U.length → ∀ W, Below w.heap.size w W → Calls Try.prog fv (#[.int .i64 a] ++ cs) W fun e w'' => e = .returned (.bool (p a)) ∧ Below W.heap.size W w'') :
 Calls Try.prog 73 #[.pointer (some ⟨g, 0, none⟩), .func (.func fv) #[] cs] w fun e w' => ∃ v0, e = .returned v0 ∧ Kd.R (Kd.int .i64) 3 w' w.heap.size (fun _ => True) v0 (filI U.length p) ∧ Below w.heap.size w w' := by
 have hu70 := Try.underlying74
 have HF := Aside0.mk hf
 have HNM := Aside0.mk hname
 have HBD := Aside0.mk hb
 have HV := Aside0.mk hV
 have HST := Aside0.mk step
 have HB := Aside0.mk (Below.refl w.heap.size w)
 have hf0 := hV.f0
 clear hf hname hb hV step
 go_enter Try.func73, Try.ntmps73
 go_wp2_with (first | ((with_reducible refine gate_dst (N := 7) rfl ?_); refine Kd.R_lit (Kd.int .i64) _ 3 ?hg (N := 7) ?hd (xs := ([] : List Int)) (inner := []) (ok := fun _ => True) (okp := fun _ => True) ?hr ?hp (fun _ hk => hk) trivial (Below.refl _ _) (Nat.le_refl _) (by simp) ?_; (case hd => rfl); (case hg => rfl); (case hr => exact zq174); (case hp => exact (Reps.none _ _)); intro v496 w4 ho5 hb hg_ hnew_; clear hg_ hnew_; have HO := Aside0.mk ho5; have HB2 := Aside0.mk (below_step HB.out hb); have hf0' := (HV.out.below hb).f0; clear HB hf0 ho5 hb))
 go_loopg [5, 13] (U.length + 1) (fun kq v5 v13 W => ∃ i : Nat, v13 = .int .i64 i ∧ Aside0 (i + kq = U.length + 1) ∧ Aside0 (i ≤ U.length) ∧ Aside0 (Kd.R (Kd.int .i64) 3 W w.heap.size (fun _ => True) v5 (filI i p)) ∧ Aside0 (Below w.heap.size w W))
 case atStart => exact ⟨0, rfl, ⟨by omega⟩, ⟨by omega⟩, ⟨zqfR HO.out⟩, ⟨by repeat (first | exact HB2.out | apply below_alloc | apply pw_below_drewN | apply below_drew1)⟩⟩
 case round =>
  clear hf0'
  obtain ⟨i, rfl, HK, HK2, HO1, HB1⟩ := hrel
  cases gk with
  | zero => exact absurd HK.out (by have := HK2.out; omega)
  | succ kn =>
  by_cases hlt : i < U.length
  ·have hlt' : decide (i < U.length) = true := decide_eq_true hlt
   have HLT := Aside0.mk hlt
   clear hlt
   cases hp : p i with
   | true =>
    have HP := Aside0.mk hp
    clear hp
    go_wp2_with (first | (refine goesV_ (some 18) rfl rfl HF.out HNM.out HBD.out #[.int .i64 i] rfl rfl zq68 ?_; refine (HST.out i HLT.out _ ?sJ).mono ?_; (case sJ => exact zq112); rintro e w1 ⟨he, hj⟩; rw [HP.out] at he; subst he; refine ⟨_, rfl, ?_⟩; have HB3 := Aside0.mk (below_step zq112 hj); have HO3 := Aside0.mk (Kd.R_below (zqfR HO1.out) hj); clear hj) | ((with_reducible refine gate_builtin (b := .append) (xs := #[.tmp 19, .tmp 21]) rfl ?_); at_builtin; refine Kd.R_append (Kd.int .i64) (w0 := w) w.heap.size rfl (.tmp 19) (.tmp 21) 24 3 (.int .i64 0) 8 rfl Try.underlying24 infoInt rfl (by decide) (by omega) u5 (filI i p) (i : Int) [.int .i64 i] (fun _ => True) (fun _ => False) rfl rfl ?aP (fun _ hk => hk.elim) ?aF ?aO ?aB ?aS ?aL ?_; (case aP => exact rfl); (case aB => exact zq136); (case aF => exact (fun _ _ => trivial)); (case aO => exact (zqfR HO3.out)); (case aS => exact (below_size zq136)); (case aL => have := filI_length i p; have := HLT.out; omega); intro v5n w21 ho hb hg hat; have HB4 := Aside0.mk hb; have HO4 := Aside0.mk ho; clear ho hb hg hat))
    go_roundg kn
    case measure => omega
    case rel => exact ⟨i + 1, by first | go_num | (rw [wrap_small (by omega) (by have := HLT.out; omega)]; go_num), ⟨by have := HK.out; omega⟩, ⟨by have := HLT.out; omega⟩, ⟨by rw [filI_succ, if_pos HP.out]; refine zqfR ?_; exact HO4.out⟩, ⟨by repeat (first | exact HB4.out | apply below_alloc | apply pw_below_drewN | apply below_drew1)⟩⟩
   | false =>
    have HP := Aside0.mk hp
    clear hp
    go_wp2_with (refine goesV_ (some 18) rfl rfl HF.out HNM.out HBD.out #[.int .i64 i] rfl rfl zq68 ?_; refine (HST.out i HLT.out _ ?sJ).mono ?_; (case sJ => exact zq112); rintro e w1 ⟨he, hj⟩; rw [HP.out] at he; subst he; refine ⟨_, rfl, ?_⟩; have HB3 := Aside0.mk (below_step zq112 hj); have HO3 := Aside0.mk (Kd.R_below (zqfR HO1.out) hj); clear hj)
    go_roundg kn
    case measure => omega
    case rel => exact ⟨i + 1, by first | go_num | (rw [wrap_small (by omega) (by have := HLT.out; omega)]; go_num), ⟨by have := HK.out; omega⟩, ⟨by have := HLT.out; omega⟩, ⟨by rw [filI_succ, if_neg (by rw [HP.out]; simp)]; refine zqfR ?_; exact HO3.out⟩, ⟨zq136⟩⟩
  ·have hlt' : decide (i < U.length) = false := decide_eq_false hlt
   obtain rfl : i = U.length := by have := HK2.out; omega
   clear hlt
   go_wp2_with fail
   go_ret
   exact ⟨_, rfl, zqfR HO1.out, by repeat (first | exact HB1.out | apply below_alloc | apply pw_below_drewN | apply below_drew1)⟩
end Go.Proofs.Ytcbjpdaogicibaa.Print
end
