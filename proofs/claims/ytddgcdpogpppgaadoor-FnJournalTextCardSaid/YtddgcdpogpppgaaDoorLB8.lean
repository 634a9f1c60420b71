/- Part 8 of what is common to several claims of this seat: RdL, JtL. -/
import Derived.Test.YtddgcdpogpppgaaDoorLB7
import Derived.Below
import Derived.Deep.Draws
import Derived.Deep.AppendLies
import Derived.Maps.AppendAt
import Derived.OwnWalk
import Derived.Laws.BytesArg
import Derived.Laws.MakeOwn
import Derived.Laws.OwnMore
import Derived.Deep.OwnRows
import Derived.Tactics
import Derived.Lib.ConvBytes
import Derived.Laws.Slices
import Derived.WalkKit
import Derived.KernelRfl
import Derived.RowKit3
import Derived.Deep.LoopGhost
import Derived.Deep.QuietTactic
import Derived.BigQuiet
import Derived.WideLaws
import Derived.Deep.DeepCutAuto
import Derived.Deep.CutBlock
import Derived.Deep.RegionHeld3
import Derived.Laws.Rows
import Derived.Lib.AppendStr
import Derived.ArgAppend
import Derived.Laws.IdiomCopy
import Derived.RowKit
import Derived.OrdersHeld
import Derived.Laws.BitsLemmas
import Derived.Laws.StructEq
import Derived.Test.YtddgcdpogpppgaaDoorProg
import Derived.Lib.ItoaNum
import Derived.Lib.Strings
import Derived.Shelf.Utf8.RuneCount
import Derived.Shelf.Strconv.Atoi
import Derived.Shelf.Strconv.Itoa0
import Derived.Shelf.Strconv.Itoa1
import Derived.Shelf.LaysM
import Derived.Shelf.Strconv.Itoa2
import Derived.Shelf.Strconv.Itoa3
import Derived.Shelf.Strconv.AtoiErrFast
import Derived.Shelf.Strconv.ParseIntEmpty
import Derived.Shelf.Strconv.AtoiFail
import Derived.Shelf.Strconv.Clone
import Derived.Shelf.Strconv.SyntaxError
import Derived.Shelf.LaysC
import Derived.Shelf.Strconv.ToError
import Derived.Shelf.Strconv.Lower
import Derived.Shelf.Strconv.ParseUint10
import Derived.Shelf.Strconv.ParseUint10Empty
import Derived.Shelf.Strconv.ParseUint10Any
import Derived.Shelf.Strconv.ParseInt10
import Derived.Shelf.Strconv.AtoiLong
import Derived.Shelf.Strconv.AtoiInnerAll
import Derived.Shelf.Strconv.RangeError
import Derived.Shelf.Strconv.ToErrorRange
import Derived.Shelf.Strconv.AtoiAll
import Derived.Shelf.Strconv.ErrVarAll
import Derived.Shelf.Strings.Search1
import Derived.Shelf.Strings.Search2
import Derived.Shelf.Strings.Search3
import Derived.Shelf.Strings.Cut
import Derived.Shelf.Strings.Count
import Derived.Shelf.Strings.Shaped
import Derived.Shelf.Strings.Split
import Derived.Shelf.Strings.SplitShaped
import Derived.Shelf.Unicode.Decode
import Derived.Shelf.Strings.RuneCount
import Derived.Shelf.Strings.Explode
import Derived.Shelf.Unicode.DecodeSlow
import Derived.Shelf.Unicode.DecodeAny
import Derived.Shelf.Slices.Turned
import Derived.ProofKit
import Derived.OpenShut
import Derived.LaidMore
import Derived.Lay
import Derived.ChangeVars
import Derived.Lib.LaidU8
import Derived.Lib.SmallJoins
import Derived.Deep.DeepHandedRow
import Derived.Lib.SplitLaws
import Derived.Lib.SlicesS
import Derived.Lib.AtoiAll
import Derived.Lib.IndexBytes
import Derived.LaidLaws
set_option linter.all false
section
namespace Go.Proofs.YtddgcdpogpppgaaDoor.Print
open Go.RowKit Go.Proofs.YtddgcdpogpppgaaDoorW.PrintWords Go.Proofs.YtddgcdpogpppgaaDoorW.PrintLast Go.Proofs.YtddgcdpogpppgaaDoorW.PrintMore
section
attribute [local go_sem] max2_int min2_int max_two min_two max_three min_three max_four min_four
mutual
def spec_l20Logic.j2 : Nat → Int → List Int → Int → List (List Int) → List Int → Option ((List (List Int)) × List Int × Int)
 | 0, _, _, _, _, _ => none
 | k + 1, x1, x1000, x1001, x434000, x434001 => spec_l20Logic.l0 k x1 (([] : List Int)) 0 x1000 x1001 x434000 x434001
def spec_l20Logic.l0 : Nat → Int → List Int → Int → List Int → Int → List (List Int) → List Int → Option ((List (List Int)) × List Int × Int)
 | 0, _, _, _, _, _, _, _ => none
 | k + 1, x1, x6, x7, x1000, x1001, x434000, x434001 => if x7 < (x434001.length : Int) then ((spec_l20Rd_pick.f k x1000 x1001 (wrap64 (x7 + 1))).bind fun bt543 => (if x6.length < 17592186044416 then (spec_l20Logic.l1 k x1 (x6 ++ [x7]) x7 bt543.1 x7 x1000 bt543.2 x434000 x434001) else (none))) else ((spec_l20Rd_pick.f k x1000 x1001 2).bind fun bt551 => (if bt551.1 = 0 then ((spec_l20Rename.f k x434000 x434001 x6).bind fun bt553 => (spec_l20Logic.j5 k x1 x1000 bt551.2 bt553.1 bt553.2)) else (spec_l20Logic.j5 k x1 x1000 bt551.2 x434000 x434001)))
def spec_l20Logic.l1 : Nat → Int → List Int → Int → Int → Int → List Int → Int → List (List Int) → List Int → Option ((List (List Int)) × List Int × Int)
 | 0, _, _, _, _, _, _, _, _, _ => none
 | k + 1, x1, x6, x7, x8, x9, x1000, x1001, x434000, x434001 => if x9 > x8 then (if 0 ≤ (wrap64 (x9 - 1)) then (if (wrap64 (x9 - 1)) < (x6.length : Int) then (if 0 ≤ x9 then (if x9 < (x6.length : Int) then (spec_l20Logic.l1 k x1 (x6.set (x9 : Int).toNat (rd x6 (wrap64 (x9 - 1)))) x7 x8 (wrap64 (x9 - 1)) x1000 x1001 x434000 x434001) else (none)) else (none)) else (none)) else (none)) else (if 0 ≤ x8 then (if x8 < (x6.length : Int) then (spec_l20Logic.l0 k x1 (x6.set (x8 : Int).toNat x7) (wrap64 (x7 + 1)) x1000 x1001 x434000 x434001) else (none)) else (none))
def spec_l20Logic.j5 : Nat → Int → List Int → Int → List (List Int) → List Int → Option ((List (List Int)) × List Int × Int)
 | 0, _, _, _, _, _ => none
 | k + 1, x1, x1000, x1001, x434000, x434001 => (spec_l20Rd_odd.f k x1000 x1001 x1).bind fun bt559 => (if bt559.1 = true then ((spec_l20Rd_pick.f k x1000 bt559.2 4).bind fun bt561 => (if bt561.1 = 0 then (some (([] : List (List Int)), ([] : List Int), bt561.2)) else (if bt561.1 = 1 then (if 1 ≤ (x434001.length : Int) then (some (x434000, (x434001.drop (1 : Int).toNat), bt561.2)) else (none)) else (if bt561.1 = 2 then ((spec_l20Rd_pick.f k x1000 bt561.2 (x434001.length : Int)).bind fun bt566 => ((spec_l20Rd_pick.f k x1000 bt566.2 (wrap64 ((x434001.length : Int) + 1))).bind fun bt568 => (if 0 ≤ bt566.1 then (if bt566.1 < (x434001.length : Int) then (some (x434000, (x434001.set (bt566.1 : Int).toNat bt568.1), bt568.2)) else (none)) else (none)))) else (if 0 ≤ (wrap64 ((x434000.length : Int) - 1)) then (if (wrap64 ((x434000.length : Int) - 1)) < (x434000.length : Int) then (if 0 < ((rd_L5 x434000 (wrap64 ((x434000.length : Int) - 1))).length : Int) then (some ((x434000.set ((wrap64 ((x434000.length : Int) - 1)) : Int).toNat ((rd_L5 x434000 (wrap64 ((x434000.length : Int) - 1))).set (0 : Int).toNat 1)), x434001, bt561.2)) else (none)) else (none)) else (none)))))) else (some (x434000, x434001, bt559.2)))
def spec_l20Logic.j0 : Nat → Int → Int → Bool → List Int → Int → Option ((List (List Int)) × List Int × Int)
 | 0, _, _, _, _, _ => none
 | k + 1, x1, x12, x14, x1000, x1001 => if x14 = true then ((spec_l20Rd_pick.f k x1000 x1001 4).bind fun bt436 => ((spec_l20Boole.f k bt436.1).bind fun bt438 => (spec_l20Logic.j2 k x1 x1000 bt436.2 bt438.1 bt438.2))) else (if x12 = 2 then (spec_l20Logic.j1 k x1 x12 (x12 == 2) x1000 x1001) else (spec_l20Logic.j1 k x1 x12 (x12 == 3) x1000 x1001))
def spec_l20Logic.j1 : Nat → Int → Int → Bool → List Int → Int → Option ((List (List Int)) × List Int × Int)
 | 0, _, _, _, _, _ => none
 | k + 1, x1, x12, x20, x1000, x1001 => if x20 = true then ((spec_l20Boole.f k 2).bind fun bt444 => ((spec_l20Boole.f k 2).bind fun bt450 => ((spec_l20Glued.f k bt444.1 bt444.2 bt450.1 bt450.2).bind fun bt456 => (spec_l20Logic.j2 k x1 x1000 x1001 bt456.1 bt456.2)))) else (if x12 = 4 then ((spec_l20Boole.f k 2).bind fun bt462 => ((spec_l20Boole.f k 3).bind fun bt468 => ((spec_l20Glued.f k bt462.1 bt462.2 bt468.1 bt468.2).bind fun bt474 => (spec_l20Logic.j2 k x1 x1000 x1001 bt474.1 bt474.2)))) else (if x12 = 5 then ((spec_l20Boole.f k 2).bind fun bt480 => ((spec_l20Boole.f k 2).bind fun bt486 => ((spec_l20Glued.f k bt480.1 bt480.2 bt486.1 bt486.2).bind fun bt492 => ((spec_l20Boole.f k 2).bind fun bt498 => ((spec_l20Glued.f k bt492.1 bt492.2 bt498.1 bt498.2).bind fun bt504 => (spec_l20Logic.j2 k x1 x1000 x1001 bt504.1 bt504.2)))))) else (if x12 = 6 then ((spec_l20Six.f).bind fun bt510 => (spec_l20Logic.j2 k x1 x1000 x1001 bt510.1 bt510.2)) else (if x12 = 7 then ((spec_l20Six.f).bind fun bt516 => ((spec_l20Boole.f k 2).bind fun bt522 => ((spec_l20Glued.f k bt516.1 bt516.2 bt522.1 bt522.2).bind fun bt528 => (spec_l20Logic.j2 k x1 x1000 x1001 bt528.1 bt528.2)))) else ((spec_l20Pasted.f k).bind fun bt534 => (spec_l20Logic.j2 k x1 x1000 x1001 bt534.1 bt534.2))))))
end
def spec_l20Logic.f (k : Nat) (s0_0 : List Int) (s0_1 : Int) (a1 : Int) : Option ((List (List Int)) × List Int × Int) := (spec_l20Rd_pick.f k s0_0 s0_1 9).bind fun bt434 => (if bt434.1 = 0 then (spec_l20Logic.j0 k a1 bt434.1 (bt434.1 == 0) s0_0 bt434.2) else (spec_l20Logic.j0 k a1 bt434.1 (bt434.1 == 1) s0_0 bt434.2))
def spec_l20Logic.T39 : Bool × List (List Nat × List Nat) := (true, [([], []), ([0], [0]), ([], []), ([], []), ([3], [3]), ([4], [4]), ([2, 5], [2, 5]), ([], []), ([], []), ([8], [8]), ([9], [9]), ([10], [10]), ([7, 11, 6], [7, 11]), ([1, 6, 0, 1, 2, 3, 4, 5, 6, 7, 8, 9, 10, 11, 12], [1, 6]), ([13, 12, 12, 0, 1, 2, 3, 4, 5, 6, 7, 8, 9, 10, 11, 12], [12, 13])])
def spec_l20Logic.B39 : List Nat := [0, 1, 0, 0, 8, 24, 60, 0, 0, 256, 768, 1792, 4092, 8191, 16383]
theorem spec_l20Logic.tab39 : rtab .any (opsOf Tryd.f43 39) = spec_l20Logic.T39 := by kernel_rfl
theorem spec_l20Logic.bits39 : waitsOk spec_l20Logic.T39.2 spec_l20Logic.B39 = true := by kernel_rfl
set_option maxHeartbeats 8000000 in
set_option maxRecDepth 100000 in
theorem spec_l20Logic.calls (k : Nat) (g : Nat) (s0_0 : List Int) (s0_1 : Int) (a1 : Int) (r1 : List (List Int)) (r2 : List Int) (r3 : Int) (w0 w : World) (hI : IsS78 w0 w g s0_0 s0_1) (hB : Below w0.heap.size w0 w) (h : spec_l20Logic.f k s0_0 s0_1 a1 = some (r1, r2, r3)) :
  Calls Tryd.prog 43 #[.pointer (some ⟨g, 0, none⟩), .int .i64 a1] w fun e w' => ∃ v0_ v1_ : Value, e = .returned (.agg #[v0_, v1_]) ∧ Kd.S (Kd.slice 3 (Kd.int .i64)) 66 w' w.heap.size (fun k_ => some k_ ≠ (v1_ : Value).ownBlock) v0_ r1 ∧ Kd.Q (Kd.int .i64) 3 w' w.heap.size (fun _ => True) v1_ r2 ∧ IsS78 w0 w' g s0_0 r3 ∧ Below w0.heap.size w0 w' ∧ KeepBut w w' g none := by
 have hu68:=Tryd.underlying68;have a2:=zqm hI;have HK:=zqm (KeepBut.refl w g none);have HL:=zqm hB.size;clear hI;have HW0:=zqm hB.size;have HB:=zqm hB;clear hB;have H:((spec_l20Rd_pick.f k s0_0 s0_1 9).bind fun j8=>(if j8.1=0 then(spec_l20Logic.j0 k a1 j8.1 (j8.1==0) s0_0 j8.2) else(spec_l20Logic.j0 k a1 j8.1 (j8.1==1) s0_0 j8.2)))=some (r1,r2,r3):=h;clear h;replace H:=Option.bind_eq_some_iff.mp H;obtain⟨⟨c3,c5⟩,A30,H⟩:=H;replace H:(if c3=0 then(spec_l20Logic.j0 k a1 c3 (c3==0) s0_0 c5) else(spec_l20Logic.j0 k a1 c3 (c3==1) s0_0 c5))=some (r1,r2,r3):=H;have A3:=zqm A30;clear A30;have HC4:=zqm H;clear H
 go_enter Tryd.func43,Tryd.ntmps43
 go_upto_block 0 with (first|((with_reducible refine gate_dst (N:=4) rfl ?_);refine box_event ?hg (N:=4) ?hd (cs:= #[.slice none 0 0,.slice none 0 0]) (t:=68) ?hr ?_;(case hd=>rfl);(case hg=>rfl);(case hr=> exact zq18);intro b1 hg w5 hbox hb;have c8:=zqm (IsS78.below zq27 hb);have d0:=zqm (KeepBut.trans zq14 (KeepBut.of_below hb g none) (.inl rfl));replace HB:=zqm (below_step zq33 hb);have a4:=zqm (hbox);have a9:=zqm ((by rw [hg];exact(keep_size (w:=w) (g:=g) (row:=none) zq14):w.heap.size≤b1));have b4:=zqm ((Nat.le_trans HW0.out (by rw [hg];exact(keep_size (w:=w) (g:=g) (row:=none) zq14):w.heap.size≤b1):w0.heap.size≤b1));have a7:=zqm ((by rw [hg];exact Nat.ne_of_lt (IsS78.lt (show IsS78 w0 _ g s0_0 s0_1 from zq27)):g≠b1));have c7:=zqm ((by rw [hg];exact Nat.ne_of_gt (IsS78.lt (show IsS78 w0 _ g s0_0 s0_1 from zq27)):b1≠g));clear a2 HK;have a2:=c8;have HK:=d0;clear c8 d0 hb hbox hg)|((with_reducible refine gate_dst (N:=5) rfl ?_);refine box_event ?hg (N:=5) ?hd (cs:= #[.slice none 0 0,.slice none 0 0]) (t:=68) ?hr ?_;(case hd=>rfl);(case hg=>rfl);(case hr=> exact zq18);intro a8 hg w6 hbox hb;have c8:=zqm (IsS78.below zq71 hb);have d0:=zqm (blk_below (g:=b1) (o:= .cells #[.slice none 0 0,.slice none 0 0] 68 (0,0)) (zqe a4.out) hb);have e6:=zqm (KeepBut.trans zq73 (KeepBut.of_below hb g none) (.inl rfl));replace HB:=zqm (below_step (by repeat(first|(with_reducible first|exact HB.out|apply below_alloc|apply pw_below_drewN|apply below_drew1|refine below_set ?_ (IsS78.ge a2.out)|refine below_set ?_ b4.out)|exact HB.out)) hb);have a0:=zqm (hbox);have b0:=zqm ((by rw [hg];exact(keep_size (w:=w) (g:=g) (row:=none) zq73):w.heap.size≤a8));have b5:=zqm ((Nat.le_trans HW0.out (by rw [hg];exact(keep_size (w:=w) (g:=g) (row:=none) zq73):w.heap.size≤a8):w0.heap.size≤a8));have b3:=zqm ((by rw [hg];exact Nat.ne_of_lt (blk_lt (g:=b1) (o:= .cells #[.slice none 0 0,.slice none 0 0] 68 (0,0)) (zqe a4.out)):b1≠a8));have c6:=zqm ((by rw [hg];exact Nat.ne_of_gt (blk_lt (g:=b1) (o:= .cells #[.slice none 0 0,.slice none 0 0] 68 (0,0)) (zqe a4.out)):a8≠b1));have a6:=zqm ((by rw [hg];exact Nat.ne_of_lt (IsS78.lt (show IsS78 w0 _ g s0_0 s0_1 from zq71)):g≠a8));have c2:=zqm ((by rw [hg];exact Nat.ne_of_gt (IsS78.lt (show IsS78 w0 _ g s0_0 s0_1 from zq71)):a8≠g));clear a2 a4 HK;have a2:=c8;have a4:=d0;have HK:=e6;clear c8 d0 e6 hb hbox hg;have b8z:=c6.out;have b9b:=b3.out;have b9a:=c2.out;have b9c:=a6.out;have b5n:w6.cell? ⟨a8,0,none⟩=some (.slice none 0 0):=(blk_cell a0.out 0).trans rfl;have b5o:w6.cell? ⟨a8,1,none⟩=some (.slice none 0 0):=(blk_cell a0.out 1).trans rfl;have b5p:=blk_frozen a0.out 0;have b5q:=blk_frozen a0.out 1)|((with_reducible refine gate_callee (f:=45) rfl ?_);refine goesL_ (some 12) rfl rfl Tryd.func45 zqk rfl #[.pointer (some ⟨g,0,none⟩),.int .i64 9] rfl zq2 ?_;(with_reducible refine(spec_l20Rd_pick.calls k g s0_0 s0_1 9 c3 c5 w0 _ ?side1 ?side2 A3.out).mono ?_);(case side1=> exact zq1);(case side2=> exact zq3);rintro e w10 ⟨rfl,hi,hb,hk⟩;refine⟨_,rfl,?_⟩;replace a4:=zqm (KeepBut.blk hk (g':=b1) (o:= .cells #[.slice none 0 0,.slice none 0 0] 68 (0,0)) zq41 c7.out (by simp));replace a0:=zqm (KeepBut.blk hk (g':=a8) (o:= .cells #[.slice none 0 0,.slice none 0 0] 68 (0,0)) zq87 c2.out (by simp));replace HK:=zqm (KeepBut.trans zq0 hk (.inl rfl));replace HB:=zqm (hb);replace a2:=zqm (hi);clear hb hk hi))
 (try simp only [Act.put,List.setIfInBounds_toArray,List.set_cons_zero,List.set_cons_succ])
 go_cut [] (fun wc=> ∃(kq:Nat) (i7:Int) (c4:List (List Int)) (h1:List Int) (b8:Value) (b9:Value),Aside0 (spec_l20Logic.j2 kq a1 s0_0 i7 c4 h1=some (r1,r2,r3))∧Aside0 (kq≤k)∧Aside0 (Kd.S (Kd.slice 3 (Kd.int .i64)) 66 wc w.heap.size (fun k_=>some k_≠(b9:Value).ownBlock) b8 c4)∧Aside0 (Kd.Q (Kd.int .i64) 3 wc w.heap.size (fun _=>True) b9 h1)∧Aside0 (wc.heap[b1]? =some (.cells #[(.slice none 0 0),(.slice none 0 0)] 68 (0,0)))∧Aside0 (wc.heap[a8]? =some (.cells #[b8,b9] 68 (0,0)))∧Aside0 (IsS78 w0 wc g s0_0 i7)∧Aside0 (KeepBut w wc g none)∧Aside0 (Below w0.heap.size w0 wc))
 case first=>
  have H:=HC4.out;clear HC4;have a0w:=zqm H;clear H
  go_upto_if 14 with (fail)
  go_cut [14] (fun v14 wc=> ∃(kq:Nat) (o0:Bool),v14= .bool o0∧Aside0 (spec_l20Logic.j0 kq a1 c3 o0 s0_0 c5=some (r1,r2,r3))∧Aside0 (kq≤k)∧Aside0 (wc.heap[b1]? =some (.cells #[(.slice none 0 0),(.slice none 0 0)] 68 (0,0)))∧Aside0 (wc.heap[a8]? =some (.cells #[(.slice none 0 0),(.slice none 0 0)] 68 (0,0)))∧Aside0 (IsS78 w0 wc g s0_0 c5)∧Aside0 (KeepBut w wc g none)∧Aside0 (Below w0.heap.size w0 wc))
  case first=>
   have H:=a0w.out;clear a0w
   by_cases r5:c3=0
   ·rw [if_pos r5] at H;have n5:(c3==0)=true:=beq_iff_eq.mpr r5;have a5u:(c3 !=0)=false:=bne_eq_false_iff_eq.mpr r5;clear r5;(first|rw [n5]|(simp only [i64_w,i32_w];rw [n5])|skip);have H':=zqm H;clear H
    go_wp2
    go_meet
    case rel=>exact⟨_,((c3==0)),zq15,H',⟨zq61⟩,⟨zqe a4.out⟩,⟨zqe a0.out⟩,⟨zq1⟩,⟨zq0⟩,⟨zq3⟩⟩
   ·rw [if_neg r5] at H;have n5:(c3==0)=false:=beq_eq_false_iff_ne.mpr r5;have a5u:(c3 !=0)=true:=bne_iff_ne.mpr r5;(first|rw [n5]|(simp only [i64_w,i32_w];rw [n5])|skip);have H':=zqm H;clear H
    go_wp2
    go_meet
    case rel=>exact⟨_,((c3==1)),zq15,H',⟨zq61⟩,⟨zqe a4.out⟩,⟨zqe a0.out⟩,⟨zq1⟩,⟨zq0⟩,⟨zq3⟩⟩
  case rest=>
   clear a0w;obtain⟨kq,o0,rfl,HA,i8,a4,a0,a2,HK,HB⟩:=hcut
   cases kq with
   |zero=>exact absurd HA.out (by simp [spec_l20Logic.j0])
   |succ h2=>
    have H:=HA.out;clear HA;simp only [spec_l20Logic.j0] at H
    by_cases c13:o0=true
    ·subst c13;(have H1:((spec_l20Rd_pick.f h2 s0_0 c5 4).bind fun a2z=>((spec_l20Boole.f h2 a2z.1).bind fun n0=>(spec_l20Logic.j2 h2 a1 s0_0 a2z.2 n0.1 n0.2)))=some (r1,r2,r3):=by rw [if_pos rfl] at H;exact H);clear H;have H:=H1;clear H1;replace H:=Option.bind_eq_some_iff.mp H;obtain⟨⟨z7,z8⟩,a3t,H⟩:=H;replace H:((spec_l20Boole.f h2 z7).bind fun n0=>(spec_l20Logic.j2 h2 a1 s0_0 z8 n0.1 n0.2))=some (r1,r2,r3):=H;have A14:=zqm a3t;clear a3t;replace H:=Option.bind_eq_some_iff.mp H;obtain⟨⟨m0,o7⟩,a3u,H⟩:=H;replace H:(spec_l20Logic.j2 h2 a1 s0_0 z8 m0 o7)=some (r1,r2,r3):=H;have A15:=zqm a3u;clear a3u;have H':=zqm H;clear H
     go_wp2_with (first|((with_reducible refine gate_callee (f:=45) rfl ?_);refine goesL_ (some 18) rfl rfl Tryd.func45 zqk rfl #[.pointer (some ⟨g,0,none⟩),.int .i64 4] rfl zq2 ?_;(with_reducible refine(spec_l20Rd_pick.calls h2 g s0_0 c5 4 z7 z8 w0 _ ?side1 ?side2 A14.out).mono ?_);(case side1=> exact zq1);(case side2=> exact zq3);rintro e w16 ⟨rfl,hi,hb,hk⟩;refine⟨_,rfl,?_⟩;replace a4:=zqm (KeepBut.blk hk (g':=b1) (o:= .cells #[.slice none 0 0,.slice none 0 0] 68 (0,0)) (zqe a4.out) c7.out (by simp));replace a0:=zqm (KeepBut.blk hk (g':=a8) (o:= .cells #[.slice none 0 0,.slice none 0 0] 68 (0,0)) (zqe a0.out) c2.out (by simp));replace HK:=zqm (KeepBut.trans zq0 hk (.inl rfl));replace HB:=zqm (hb);replace a2:=zqm (hi);clear hb hk hi)|((with_reducible refine gate_callee (f:=54) rfl ?_);refine goesL_ (some 19) rfl rfl Tryd.func54 zqk rfl #[.int .i64 z7] rfl zq2 ?_;(with_reducible refine(spec_l20Boole.calls h2 z7 m0 o7 _ A15.out).mono ?_);rintro e w17 ⟨b9d,b9e,rfl,c0,b6,hb⟩;refine⟨_,rfl,?_⟩;have a2h:=zqm (Kd.S_lower c0 (keep_size (w:=w) (g:=g) (row:=none) zq0));have a2i:=zqm (Kd.R_lower b6 (keep_size (w:=w) (g:=g) (row:=none) zq0));replace a4:=zqm (blk_below (g:=b1) (o:= .cells #[.slice none 0 0,.slice none 0 0] 68 (0,0)) (zqe a4.out) hb);replace a0:=zqm (blk_below (g:=a8) (o:= .cells #[.slice none 0 0,.slice none 0 0] 68 (0,0)) (zqe a0.out) hb);have d6:=zqm (IsS78.below zq1 hb);replace HK:=zqm (KeepBut.trans zq0 (KeepBut.of_below hb g none) (.inl rfl));replace HB:=zqm (below_step zq3 hb);clear a2;have a2:=d6;clear d6 hb c0 b6;obtain⟨u4,x8,a9h⟩:=Kd.S_slice a2h.out;subst a9h;have b8e:=c6.out;have b8o:=b3.out;have b8f:=c2.out;have b8p:=a6.out;have b3a:w17.cell? ⟨a8,0,none⟩=some (.slice none 0 0):=(blk_cell a0.out 0).trans rfl;have b3b:w17.cell? ⟨a8,1,none⟩=some (.slice none 0 0):=(blk_cell a0.out 1).trans rfl;have b3n:=blk_frozen a0.out 0;have b3o:=blk_frozen a0.out 1;obtain⟨a0r,a0y,a9i⟩:=Kd.R_slice a2i.out;subst a9i))
     go_meet
     case rel=>exact⟨_,(z8),(m0),(o7),(.slice u4 m0.length x8),(.slice a0r o7.length a0y),H',⟨zq140⟩,⟨by refine zqfS ?_;exact Kd.S_mono (Kd.S_far (p:=⟨a8,1,none⟩) (Kd.S_far (p:=⟨a8,0,none⟩) (Kd.S_types a2h.out a0.out (by decide)) (fun _ hk=>hk.2) (.slice u4 m0.length x8)) (fun _ hk=>hk.2) (.slice a0r o7.length a0y)) (fun _ hk=>hk.1)⟩,⟨Kd.Q_of_R (by refine zqfR ?_;exact Kd.R_mono (Kd.R_far (p:=⟨a8,1,none⟩) (Kd.R_far (p:=⟨a8,0,none⟩) (Kd.R_types a2i.out a0.out (by decide)) (fun _ hk=>hk.2) (.slice u4 m0.length x8)) (fun _ hk=>hk.2) (.slice a0r o7.length a0y)) (fun _ hk=>trivial))⟩,⟨zq41⟩,⟨by refine zqe ?_;refine blk_put (cs:= #[.slice u4 m0.length x8,.slice none 0 0]) ?_ 1 _ rfl;refine zqe ?_;refine blk_put (cs:= #[.slice none 0 0,.slice none 0 0]) ?_ 0 _ rfl;refine zqe ?_;exact a0.out⟩,⟨zq1⟩,⟨zq0⟩,⟨zq3⟩⟩
    ·replace c13:=Bool.eq_false_iff.mpr c13;subst c13;(have H1:(if c3=2 then(spec_l20Logic.j1 h2 a1 c3 (c3==2) s0_0 c5) else(spec_l20Logic.j1 h2 a1 c3 (c3==3) s0_0 c5))=some (r1,r2,r3):=by rw [if_neg (show¬(false=true) by decide)] at H;exact H);clear H;have H:=H1;clear H1;have a0x:=zqm H;clear H
     go_upto_if 20 with (fail)
     go_cut [20] (fun v20 wc=> ∃(kq:Nat) (o1:Bool),v20= .bool o1∧Aside0 (spec_l20Logic.j1 kq a1 c3 o1 s0_0 c5=some (r1,r2,r3))∧Aside0 (kq≤h2)∧Aside0 (wc.heap[b1]? =some (.cells #[(.slice none 0 0),(.slice none 0 0)] 68 (0,0)))∧Aside0 (wc.heap[a8]? =some (.cells #[(.slice none 0 0),(.slice none 0 0)] 68 (0,0)))∧Aside0 (IsS78 w0 wc g s0_0 c5)∧Aside0 (KeepBut w wc g none)∧Aside0 (Below w0.heap.size w0 wc))
     case first=>
      have H:=a0x.out;clear a0x
      by_cases r7:c3=2
      ·rw [if_pos r7] at H;have n6:(c3==2)=true:=beq_iff_eq.mpr r7;have a5v:(c3 !=2)=false:=bne_eq_false_iff_eq.mpr r7;clear r7;(first|rw [n6]|(simp only [i64_w,i32_w];rw [n6])|skip);have H':=zqm H;clear H
       go_wp2
       go_meet
       case rel=>exact⟨_,((c3==2)),zq15,H',⟨zq140⟩,⟨zqe a4.out⟩,⟨zqe a0.out⟩,⟨zq1⟩,⟨zq0⟩,⟨zq3⟩⟩
      ·rw [if_neg r7] at H;have n6:(c3==2)=false:=beq_eq_false_iff_ne.mpr r7;have a5v:(c3 !=2)=true:=bne_iff_ne.mpr r7;(first|rw [n6]|(simp only [i64_w,i32_w];rw [n6])|skip);have H':=zqm H;clear H
       go_wp2
       go_meet
       case rel=>exact⟨_,((c3==3)),zq15,H',⟨zq140⟩,⟨zqe a4.out⟩,⟨zqe a0.out⟩,⟨zq1⟩,⟨zq0⟩,⟨zq3⟩⟩
     case rest=>
      clear a0x;obtain⟨kq,o1,rfl,HA,o3,a4,a0,a2,HK,HB⟩:=hcut
      cases kq with
      |zero=>exact absurd HA.out (by simp [spec_l20Logic.j1])
      |succ b7=>
       have H:=HA.out;clear HA;simp only [spec_l20Logic.j1] at H
       by_cases c25:o1=true
       ·subst c25;(have H1:((spec_l20Boole.f b7 2).bind fun a3a=>((spec_l20Boole.f b7 2).bind fun n1=>((spec_l20Glued.f b7 a3a.1 a3a.2 n1.1 n1.2).bind fun i0=>(spec_l20Logic.j2 b7 a1 s0_0 c5 i0.1 i0.2))))=some (r1,r2,r3):=by rw [if_pos rfl] at H;exact H);clear H;have H:=H1;clear H1;replace H:=Option.bind_eq_some_iff.mp H;obtain⟨⟨s2,s3⟩,a3v,H⟩:=H;replace H:((spec_l20Boole.f b7 2).bind fun n1=>((spec_l20Glued.f b7 s2 s3 n1.1 n1.2).bind fun i0=>(spec_l20Logic.j2 b7 a1 s0_0 c5 i0.1 i0.2)))=some (r1,r2,r3):=H;have A26:=zqm a3v;clear a3v;replace H:=Option.bind_eq_some_iff.mp H;obtain⟨⟨z9,a0a⟩,a3w,H⟩:=H;replace H:((spec_l20Glued.f b7 s2 s3 z9 a0a).bind fun i0=>(spec_l20Logic.j2 b7 a1 s0_0 c5 i0.1 i0.2))=some (r1,r2,r3):=H;have A27:=zqm a3w;clear a3w;replace H:=Option.bind_eq_some_iff.mp H;obtain⟨⟨m1,o8⟩,a3x,H⟩:=H;replace H:(spec_l20Logic.j2 b7 a1 s0_0 c5 m1 o8)=some (r1,r2,r3):=H;have A28:=zqm a3x;clear a3x;have H':=zqm H;clear H
        go_wp2_with (first|((with_reducible refine gate_callee (f:=54) rfl ?_);refine goesL_ (some 23) rfl rfl Tryd.func54 zqk rfl #[.int .i64 2] rfl zq2 ?_;(with_reducible refine(spec_l20Boole.calls b7 2 s2 s3 _ A26.out).mono ?_);rintro e w29 ⟨b9f,b9g,rfl,c0,b6,hb⟩;refine⟨_,rfl,?_⟩;have g2:=zqm (Kd.S_lower c0 (keep_size (w:=w) (g:=g) (row:=none) zq0));have f5:=zqm (Kd.R_lower b6 (keep_size (w:=w) (g:=g) (row:=none) zq0));replace a4:=zqm (blk_below (g:=b1) (o:= .cells #[.slice none 0 0,.slice none 0 0] 68 (0,0)) (zqe a4.out) hb);replace a0:=zqm (blk_below (g:=a8) (o:= .cells #[.slice none 0 0,.slice none 0 0] 68 (0,0)) (zqe a0.out) hb);have d6:=zqm (IsS78.below zq1 hb);replace HK:=zqm (KeepBut.trans zq0 (KeepBut.of_below hb g none) (.inl rfl));replace HB:=zqm (below_step zq3 hb);clear a2;have a2:=d6;clear d6 hb c0 b6)|((with_reducible refine gate_callee (f:=54) rfl ?_);refine goesL_ (some 24) rfl rfl Tryd.func54 zqk rfl #[.int .i64 2] rfl zq2 ?_;(with_reducible refine(spec_l20Boole.calls b7 2 z9 a0a _ A27.out).mono ?_);rintro e w30 ⟨b9h,b9i,rfl,c0,b6,hb⟩;refine⟨_,rfl,?_⟩;have c8:=zqm (Kd.S_mono (Kd.S_told (Kd.S_told (Kd.S_old (zqfS g2.out) hb) (Kd.S_base c0)) (Kd.R_base b6)) (fun _ h_=>h_.1));have d0:=zqm (Kd.R_elder' (zqfR f5.out) (Kd.R_base b6) hb);have i9:=zqm (Kd.S_lower (Kd.S_new' (Kd.S_new' c0 (Kd.S_lt (zqfS g2.out))) (Kd.R_lt (zqfR f5.out))) (keep_size (w:=w) (g:=g) (row:=none) zq0));have h6:=zqm (Kd.R_lower (Kd.R_new' b6 (Kd.R_lt (zqfR f5.out))) (keep_size (w:=w) (g:=g) (row:=none) zq0));replace a4:=zqm (blk_below (g:=b1) (o:= .cells #[.slice none 0 0,.slice none 0 0] 68 (0,0)) (zqe a4.out) hb);replace a0:=zqm (blk_below (g:=a8) (o:= .cells #[.slice none 0 0,.slice none 0 0] 68 (0,0)) (zqe a0.out) hb);have g8:=zqm (IsS78.below zq1 hb);replace HK:=zqm (KeepBut.trans zq0 (KeepBut.of_below hb g none) (.inl rfl));replace HB:=zqm (below_step zq3 hb);clear g2 f5 a2;have g2:=c8;have f5:=d0;have a2:=g8;clear c8 d0 g8 hb c0 b6;obtain⟨a7r,a8l,a9j⟩:=Kd.S_slice g2.out;subst a9j;obtain⟨a7s,a8m,a9k⟩:=Kd.R_slice f5.out;subst a9k;obtain⟨a7t,a8n,a9l⟩:=Kd.S_slice i9.out;subst a9l;obtain⟨a7u,a8o,a9m⟩:=Kd.R_slice h6.out;subst a9m)|((with_reducible refine gate_callee (f:=55) rfl ?_);refine goesL_ (some 25) rfl rfl Tryd.func55 zqk rfl #[.agg #[.slice a7r s2.length a8l,.slice a7s s3.length a8m],.agg #[.slice a7t z9.length a8n,.slice a7u a0a.length a8o]] rfl zq2 ?_;(with_reducible refine(spec_l20Glued.calls b7 _ _ s2 _ _ s3 _ _ z9 _ _ a0a m1 o8 _ ?side1 ?side2 ?side3 ?side4 ?side5 ?side6 ?side7 ?side8 A28.out).mono ?_);(case side1=>repeat(first|exact(Kd.S_reads' g2.out).2.2|(with_reducible refine Kd.C_alloc ?_ _)|(with_reducible refine Kd.C_drewN ?_ _)|(with_reducible refine Kd.C_drew ?_)));(case side2=>exact(Kd.S_reads' g2.out).2.1);(case side3=>repeat(first|exact(Kd.R_reads' f5.out).2.2|(with_reducible refine Kd.C_alloc ?_ _)|(with_reducible refine Kd.C_drewN ?_ _)|(with_reducible refine Kd.C_drew ?_)));(case side4=>exact(Kd.R_reads' f5.out).2.1);(case side5=>repeat(first|exact(Kd.S_reads' i9.out).2.2|(with_reducible refine Kd.C_alloc ?_ _)|(with_reducible refine Kd.C_drewN ?_ _)|(with_reducible refine Kd.C_drew ?_)));(case side6=>exact(Kd.S_reads' i9.out).2.1);(case side7=>repeat(first|exact(Kd.R_reads' h6.out).2.2|(with_reducible refine Kd.C_alloc ?_ _)|(with_reducible refine Kd.C_drewN ?_ _)|(with_reducible refine Kd.C_drew ?_)));(case side8=>exact(Kd.R_reads' h6.out).2.1);rintro e w35 ⟨b9j,b9k,rfl,c0,b6,hb⟩;refine⟨_,rfl,?_⟩;have c8:=zqm (Kd.S_mono (Kd.S_told (Kd.S_told (Kd.S_old (zqfS g2.out) hb) (Kd.S_base c0)) (Kd.R_base b6)) (fun _ h_=>h_.1));have d0:=zqm (Kd.R_elder' (zqfR f5.out) (Kd.R_base b6) hb);have e6:=zqm (Kd.S_mono (Kd.S_told (Kd.S_told (Kd.S_old (zqfS i9.out) hb) (Kd.S_base c0)) (Kd.R_base b6)) (fun _ h_=>h_.1));have f9:=zqm (Kd.R_elder' (zqfR h6.out) (Kd.R_base b6) hb);have a2j:=zqm (Kd.S_lower (Kd.S_new' (Kd.S_new' (Kd.S_new' (Kd.S_new' c0 (Kd.S_lt (zqfS g2.out))) (Kd.R_lt (zqfR f5.out))) (Kd.S_lt (zqfS i9.out))) (Kd.R_lt (zqfR h6.out))) (keep_size (w:=w) (g:=g) (row:=none) zq0));have a2k:=zqm (Kd.R_lower (Kd.R_new' (Kd.R_new' b6 (Kd.R_lt (zqfR f5.out))) (Kd.R_lt (zqfR h6.out))) (keep_size (w:=w) (g:=g) (row:=none) zq0));replace a4:=zqm (blk_below (g:=b1) (o:= .cells #[.slice none 0 0,.slice none 0 0] 68 (0,0)) (zqe a4.out) hb);replace a0:=zqm (blk_below (g:=a8) (o:= .cells #[.slice none 0 0,.slice none 0 0] 68 (0,0)) (zqe a0.out) hb);have l2:=zqm (IsS78.below zq1 hb);replace HK:=zqm (KeepBut.trans zq0 (KeepBut.of_below hb g none) (.inl rfl));replace HB:=zqm (below_step zq3 hb);clear g2 f5 i9 h6 a2;have g2:=c8;have f5:=d0;have i9:=e6;have h6:=f9;have a2:=l2;clear c8 d0 e6 f9 l2 hb c0 b6;obtain⟨u9,y1,a9n⟩:=Kd.S_slice a2j.out;subst a9n;have b8g:=c6.out;have b8q:=b3.out;have b8h:=c2.out;have b8r:=a6.out;have b3c:w35.cell? ⟨a8,0,none⟩=some (.slice none 0 0):=(blk_cell a0.out 0).trans rfl;have b3d:w35.cell? ⟨a8,1,none⟩=some (.slice none 0 0):=(blk_cell a0.out 1).trans rfl;have b3p:=blk_frozen a0.out 0;have b3q:=blk_frozen a0.out 1;obtain⟨a0s,a0z,a9o⟩:=Kd.R_slice a2k.out;subst a9o))
        go_meet
        case rel=>exact⟨_,(c5),(m1),(o8),(.slice u9 m1.length y1),(.slice a0s o8.length a0z),H',⟨zq93⟩,⟨by refine zqfS ?_;exact Kd.S_mono (Kd.S_far (p:=⟨a8,1,none⟩) (Kd.S_far (p:=⟨a8,0,none⟩) (Kd.S_types a2j.out a0.out (by decide)) (fun _ hk=>hk.2) (.slice u9 m1.length y1)) (fun _ hk=>hk.2) (.slice a0s o8.length a0z)) (fun _ hk=>hk.1.1.1.1.1)⟩,⟨Kd.Q_of_R (by refine zqfR ?_;exact Kd.R_mono (Kd.R_far (p:=⟨a8,1,none⟩) (Kd.R_far (p:=⟨a8,0,none⟩) (Kd.R_types a2k.out a0.out (by decide)) (fun _ hk=>hk.2) (.slice u9 m1.length y1)) (fun _ hk=>hk.2) (.slice a0s o8.length a0z)) (fun _ hk=>trivial))⟩,⟨zq41⟩,⟨by refine zqe ?_;refine blk_put (cs:= #[.slice u9 m1.length y1,.slice none 0 0]) ?_ 1 _ rfl;refine zqe ?_;refine blk_put (cs:= #[.slice none 0 0,.slice none 0 0]) ?_ 0 _ rfl;refine zqe ?_;exact a0.out⟩,⟨zq1⟩,⟨zq0⟩,⟨zq3⟩⟩
       ·replace c25:=Bool.eq_false_iff.mpr c25;subst c25;(have H1:(if c3=4 then((spec_l20Boole.f b7 2).bind fun a3b=>((spec_l20Boole.f b7 3).bind fun n2=>((spec_l20Glued.f b7 a3b.1 a3b.2 n2.1 n2.2).bind fun i1=>(spec_l20Logic.j2 b7 a1 s0_0 c5 i1.1 i1.2)))) else(if c3=5 then((spec_l20Boole.f b7 2).bind fun a3c=>((spec_l20Boole.f b7 2).bind fun n3=>((spec_l20Glued.f b7 a3c.1 a3c.2 n3.1 n3.2).bind fun i2=>((spec_l20Boole.f b7 2).bind fun g6=>((spec_l20Glued.f b7 i2.1 i2.2 g6.1 g6.2).bind fun f3=>(spec_l20Logic.j2 b7 a1 s0_0 c5 f3.1 f3.2)))))) else(if c3=6 then((spec_l20Six.f).bind fun a3d=>(spec_l20Logic.j2 b7 a1 s0_0 c5 a3d.1 a3d.2)) else(if c3=7 then((spec_l20Six.f).bind fun a3e=>((spec_l20Boole.f b7 2).bind fun n4=>((spec_l20Glued.f b7 a3e.1 a3e.2 n4.1 n4.2).bind fun i3=>(spec_l20Logic.j2 b7 a1 s0_0 c5 i3.1 i3.2)))) else((spec_l20Pasted.f b7).bind fun a3f=>(spec_l20Logic.j2 b7 a1 s0_0 c5 a3f.1 a3f.2))))))=some (r1,r2,r3):=by rw [if_neg (show¬(false=true) by decide)] at H;exact H);clear H;have H:=H1;clear H1
        by_cases r8:c3=4
        ·rw [if_pos r8] at H;have a5w:(c3==4)=true:=beq_iff_eq.mpr r8;have a5x:(c3 !=4)=false:=bne_eq_false_iff_eq.mpr r8;clear r8;replace H:=Option.bind_eq_some_iff.mp H;obtain⟨⟨s4,s5⟩,a3y,H⟩:=H;replace H:((spec_l20Boole.f b7 3).bind fun n2=>((spec_l20Glued.f b7 s4 s5 n2.1 n2.2).bind fun i1=>(spec_l20Logic.j2 b7 a1 s0_0 c5 i1.1 i1.2)))=some (r1,r2,r3):=H;have A42:=zqm a3y;clear a3y;replace H:=Option.bind_eq_some_iff.mp H;obtain⟨⟨a0b,a0c⟩,a3z,H⟩:=H;replace H:((spec_l20Glued.f b7 s4 s5 a0b a0c).bind fun i1=>(spec_l20Logic.j2 b7 a1 s0_0 c5 i1.1 i1.2))=some (r1,r2,r3):=H;have A43:=zqm a3z;clear a3z;replace H:=Option.bind_eq_some_iff.mp H;obtain⟨⟨m2,o9⟩,a4a,H⟩:=H;replace H:(spec_l20Logic.j2 b7 a1 s0_0 c5 m2 o9)=some (r1,r2,r3):=H;have A44:=zqm a4a;clear a4a;have H':=zqm H;clear H
         go_wp2_with (first|((with_reducible refine gate_callee (f:=54) rfl ?_);refine goesL_ (some 28) rfl rfl Tryd.func54 zqk rfl #[.int .i64 2] rfl zq2 ?_;(with_reducible refine(spec_l20Boole.calls b7 2 s4 s5 _ A42.out).mono ?_);rintro e w45 ⟨b9l,b9m,rfl,c0,b6,hb⟩;refine⟨_,rfl,?_⟩;have g3:=zqm (Kd.S_lower c0 (keep_size (w:=w) (g:=g) (row:=none) zq0));have f6:=zqm (Kd.R_lower b6 (keep_size (w:=w) (g:=g) (row:=none) zq0));replace a4:=zqm (blk_below (g:=b1) (o:= .cells #[.slice none 0 0,.slice none 0 0] 68 (0,0)) (zqe a4.out) hb);replace a0:=zqm (blk_below (g:=a8) (o:= .cells #[.slice none 0 0,.slice none 0 0] 68 (0,0)) (zqe a0.out) hb);have d6:=zqm (IsS78.below zq1 hb);replace HK:=zqm (KeepBut.trans zq0 (KeepBut.of_below hb g none) (.inl rfl));replace HB:=zqm (below_step zq3 hb);clear a2;have a2:=d6;clear d6 hb c0 b6)|((with_reducible refine gate_callee (f:=54) rfl ?_);refine goesL_ (some 29) rfl rfl Tryd.func54 zqk rfl #[.int .i64 3] rfl zq2 ?_;(with_reducible refine(spec_l20Boole.calls b7 3 a0b a0c _ A43.out).mono ?_);rintro e w46 ⟨b9n,b9o,rfl,c0,b6,hb⟩;refine⟨_,rfl,?_⟩;have c8:=zqm (Kd.S_mono (Kd.S_told (Kd.S_told (Kd.S_old (zqfS g3.out) hb) (Kd.S_base c0)) (Kd.R_base b6)) (fun _ h_=>h_.1));have d0:=zqm (Kd.R_elder' (zqfR f6.out) (Kd.R_base b6) hb);have j3:=zqm (Kd.S_lower (Kd.S_new' (Kd.S_new' c0 (Kd.S_lt (zqfS g3.out))) (Kd.R_lt (zqfR f6.out))) (keep_size (w:=w) (g:=g) (row:=none) zq0));have h7:=zqm (Kd.R_lower (Kd.R_new' b6 (Kd.R_lt (zqfR f6.out))) (keep_size (w:=w) (g:=g) (row:=none) zq0));replace a4:=zqm (blk_below (g:=b1) (o:= .cells #[.slice none 0 0,.slice none 0 0] 68 (0,0)) (zqe a4.out) hb);replace a0:=zqm (blk_below (g:=a8) (o:= .cells #[.slice none 0 0,.slice none 0 0] 68 (0,0)) (zqe a0.out) hb);have g8:=zqm (IsS78.below zq1 hb);replace HK:=zqm (KeepBut.trans zq0 (KeepBut.of_below hb g none) (.inl rfl));replace HB:=zqm (below_step zq3 hb);clear g3 f6 a2;have g3:=c8;have f6:=d0;have a2:=g8;clear c8 d0 g8 hb c0 b6;obtain⟨a7v,a8p,a9p⟩:=Kd.S_slice g3.out;subst a9p;obtain⟨a7w,a8q,a9q⟩:=Kd.R_slice f6.out;subst a9q;obtain⟨a7x,a8r,a9r⟩:=Kd.S_slice j3.out;subst a9r;obtain⟨a7y,a8s,a9s⟩:=Kd.R_slice h7.out;subst a9s)|((with_reducible refine gate_callee (f:=55) rfl ?_);refine goesL_ (some 30) rfl rfl Tryd.func55 zqk rfl #[.agg #[.slice a7v s4.length a8p,.slice a7w s5.length a8q],.agg #[.slice a7x a0b.length a8r,.slice a7y a0c.length a8s]] rfl zq2 ?_;(with_reducible refine(spec_l20Glued.calls b7 _ _ s4 _ _ s5 _ _ a0b _ _ a0c m2 o9 _ ?side1 ?side2 ?side3 ?side4 ?side5 ?side6 ?side7 ?side8 A44.out).mono ?_);(case side1=>repeat(first|exact(Kd.S_reads' g3.out).2.2|(with_reducible refine Kd.C_alloc ?_ _)|(with_reducible refine Kd.C_drewN ?_ _)|(with_reducible refine Kd.C_drew ?_)));(case side2=>exact(Kd.S_reads' g3.out).2.1);(case side3=>repeat(first|exact(Kd.R_reads' f6.out).2.2|(with_reducible refine Kd.C_alloc ?_ _)|(with_reducible refine Kd.C_drewN ?_ _)|(with_reducible refine Kd.C_drew ?_)));(case side4=>exact(Kd.R_reads' f6.out).2.1);(case side5=>repeat(first|exact(Kd.S_reads' j3.out).2.2|(with_reducible refine Kd.C_alloc ?_ _)|(with_reducible refine Kd.C_drewN ?_ _)|(with_reducible refine Kd.C_drew ?_)));(case side6=>exact(Kd.S_reads' j3.out).2.1);(case side7=>repeat(first|exact(Kd.R_reads' h7.out).2.2|(with_reducible refine Kd.C_alloc ?_ _)|(with_reducible refine Kd.C_drewN ?_ _)|(with_reducible refine Kd.C_drew ?_)));(case side8=>exact(Kd.R_reads' h7.out).2.1);rintro e w51 ⟨b9p,b9q,rfl,c0,b6,hb⟩;refine⟨_,rfl,?_⟩;have c8:=zqm (Kd.S_mono (Kd.S_told (Kd.S_told (Kd.S_old (zqfS g3.out) hb) (Kd.S_base c0)) (Kd.R_base b6)) (fun _ h_=>h_.1));have d0:=zqm (Kd.R_elder' (zqfR f6.out) (Kd.R_base b6) hb);have e6:=zqm (Kd.S_mono (Kd.S_told (Kd.S_told (Kd.S_old (zqfS j3.out) hb) (Kd.S_base c0)) (Kd.R_base b6)) (fun _ h_=>h_.1));have f9:=zqm (Kd.R_elder' (zqfR h7.out) (Kd.R_base b6) hb);have a2l:=zqm (Kd.S_lower (Kd.S_new' (Kd.S_new' (Kd.S_new' (Kd.S_new' c0 (Kd.S_lt (zqfS g3.out))) (Kd.R_lt (zqfR f6.out))) (Kd.S_lt (zqfS j3.out))) (Kd.R_lt (zqfR h7.out))) (keep_size (w:=w) (g:=g) (row:=none) zq0));have a2m:=zqm (Kd.R_lower (Kd.R_new' (Kd.R_new' b6 (Kd.R_lt (zqfR f6.out))) (Kd.R_lt (zqfR h7.out))) (keep_size (w:=w) (g:=g) (row:=none) zq0));replace a4:=zqm (blk_below (g:=b1) (o:= .cells #[.slice none 0 0,.slice none 0 0] 68 (0,0)) (zqe a4.out) hb);replace a0:=zqm (blk_below (g:=a8) (o:= .cells #[.slice none 0 0,.slice none 0 0] 68 (0,0)) (zqe a0.out) hb);have l2:=zqm (IsS78.below zq1 hb);replace HK:=zqm (KeepBut.trans zq0 (KeepBut.of_below hb g none) (.inl rfl));replace HB:=zqm (below_step zq3 hb);clear g3 f6 j3 h7 a2;have g3:=c8;have f6:=d0;have j3:=e6;have h7:=f9;have a2:=l2;clear c8 d0 e6 f9 l2 hb c0 b6;obtain⟨v0,y2,a9t⟩:=Kd.S_slice a2l.out;subst a9t;have b8i:=c6.out;have b8s:=b3.out;have b8j:=c2.out;have b8t:=a6.out;have b3e:w51.cell? ⟨a8,0,none⟩=some (.slice none 0 0):=(blk_cell a0.out 0).trans rfl;have b3f:w51.cell? ⟨a8,1,none⟩=some (.slice none 0 0):=(blk_cell a0.out 1).trans rfl;have b3r:=blk_frozen a0.out 0;have b3s:=blk_frozen a0.out 1;obtain⟨a0t,a1a,a9u⟩:=Kd.R_slice a2m.out;subst a9u))
         go_meet
         case rel=>exact⟨_,(c5),(m2),(o9),(.slice v0 m2.length y2),(.slice a0t o9.length a1a),H',⟨zq93⟩,⟨by refine zqfS ?_;exact Kd.S_mono (Kd.S_far (p:=⟨a8,1,none⟩) (Kd.S_far (p:=⟨a8,0,none⟩) (Kd.S_types a2l.out a0.out (by decide)) (fun _ hk=>hk.2) (.slice v0 m2.length y2)) (fun _ hk=>hk.2) (.slice a0t o9.length a1a)) (fun _ hk=>hk.1.1.1.1.1)⟩,⟨Kd.Q_of_R (by refine zqfR ?_;exact Kd.R_mono (Kd.R_far (p:=⟨a8,1,none⟩) (Kd.R_far (p:=⟨a8,0,none⟩) (Kd.R_types a2m.out a0.out (by decide)) (fun _ hk=>hk.2) (.slice v0 m2.length y2)) (fun _ hk=>hk.2) (.slice a0t o9.length a1a)) (fun _ hk=>trivial))⟩,⟨zq41⟩,⟨by refine zqe ?_;refine blk_put (cs:= #[.slice v0 m2.length y2,.slice none 0 0]) ?_ 1 _ rfl;refine zqe ?_;refine blk_put (cs:= #[.slice none 0 0,.slice none 0 0]) ?_ 0 _ rfl;refine zqe ?_;exact a0.out⟩,⟨zq1⟩,⟨zq0⟩,⟨zq3⟩⟩
        ·rw [if_neg r8] at H;have a5w:(c3==4)=false:=beq_eq_false_iff_ne.mpr r8;have a5x:(c3 !=4)=true:=bne_iff_ne.mpr r8
         by_cases r9:c3=5
         ·rw [if_pos r9] at H;have a5y:(c3==5)=true:=beq_iff_eq.mpr r9;have a5z:(c3 !=5)=false:=bne_eq_false_iff_eq.mpr r9;clear r9;replace H:=Option.bind_eq_some_iff.mp H;obtain⟨⟨s6,s7⟩,a4b,H⟩:=H;replace H:((spec_l20Boole.f b7 2).bind fun n3=>((spec_l20Glued.f b7 s6 s7 n3.1 n3.2).bind fun i2=>((spec_l20Boole.f b7 2).bind fun g6=>((spec_l20Glued.f b7 i2.1 i2.2 g6.1 g6.2).bind fun f3=>(spec_l20Logic.j2 b7 a1 s0_0 c5 f3.1 f3.2)))))=some (r1,r2,r3):=H;have A58:=zqm a4b;clear a4b;replace H:=Option.bind_eq_some_iff.mp H;obtain⟨⟨a0d,a0e⟩,a4c,H⟩:=H;replace H:((spec_l20Glued.f b7 s6 s7 a0d a0e).bind fun i2=>((spec_l20Boole.f b7 2).bind fun g6=>((spec_l20Glued.f b7 i2.1 i2.2 g6.1 g6.2).bind fun f3=>(spec_l20Logic.j2 b7 a1 s0_0 c5 f3.1 f3.2))))=some (r1,r2,r3):=H;have A59:=zqm a4c;clear a4c;replace H:=Option.bind_eq_some_iff.mp H;obtain⟨⟨s8,s9⟩,a4d,H⟩:=H;replace H:((spec_l20Boole.f b7 2).bind fun g6=>((spec_l20Glued.f b7 s8 s9 g6.1 g6.2).bind fun f3=>(spec_l20Logic.j2 b7 a1 s0_0 c5 f3.1 f3.2)))=some (r1,r2,r3):=H;have A60:=zqm a4d;clear a4d;replace H:=Option.bind_eq_some_iff.mp H;obtain⟨⟨a0f,a0g⟩,a4e,H⟩:=H;replace H:((spec_l20Glued.f b7 s8 s9 a0f a0g).bind fun f3=>(spec_l20Logic.j2 b7 a1 s0_0 c5 f3.1 f3.2))=some (r1,r2,r3):=H;have A61:=zqm a4e;clear a4e;replace H:=Option.bind_eq_some_iff.mp H;obtain⟨⟨m3,p0⟩,a4f,H⟩:=H;replace H:(spec_l20Logic.j2 b7 a1 s0_0 c5 m3 p0)=some (r1,r2,r3):=H;have A62:=zqm a4f;clear a4f;have H':=zqm H;clear H
          go_wp2_with (first|((with_reducible refine gate_callee (f:=54) rfl ?_);refine goesL_ (some 33) rfl rfl Tryd.func54 zqk rfl #[.int .i64 2] rfl zq2 ?_;(with_reducible refine(spec_l20Boole.calls b7 2 s6 s7 _ A58.out).mono ?_);rintro e w63 ⟨b9r,b9s,rfl,c0,b6,hb⟩;refine⟨_,rfl,?_⟩;have d7:=zqm (Kd.S_lower c0 (keep_size (w:=w) (g:=g) (row:=none) zq0));have d2:=zqm (Kd.R_lower b6 (keep_size (w:=w) (g:=g) (row:=none) zq0));replace a4:=zqm (blk_below (g:=b1) (o:= .cells #[.slice none 0 0,.slice none 0 0] 68 (0,0)) (zqe a4.out) hb);replace a0:=zqm (blk_below (g:=a8) (o:= .cells #[.slice none 0 0,.slice none 0 0] 68 (0,0)) (zqe a0.out) hb);have d6:=zqm (IsS78.below zq1 hb);replace HK:=zqm (KeepBut.trans zq0 (KeepBut.of_below hb g none) (.inl rfl));replace HB:=zqm (below_step zq3 hb);clear a2;have a2:=d6;clear d6 hb c0 b6)|((with_reducible refine gate_callee (f:=54) rfl ?_);refine goesL_ (some 34) rfl rfl Tryd.func54 zqk rfl #[.int .i64 2] rfl zq2 ?_;(with_reducible refine(spec_l20Boole.calls b7 2 a0d a0e _ A59.out).mono ?_);rintro e w64 ⟨b9t,b9u,rfl,c0,b6,hb⟩;refine⟨_,rfl,?_⟩;have c8:=zqm (Kd.S_mono (Kd.S_told (Kd.S_told (Kd.S_old (zqfS d7.out) hb) (Kd.S_base c0)) (Kd.R_base b6)) (fun _ h_=>h_.1));have d0:=zqm (Kd.R_elder' (zqfR d2.out) (Kd.R_base b6) hb);have e9:=zqm (Kd.S_lower (Kd.S_new' (Kd.S_new' c0 (Kd.S_lt (zqfS d7.out))) (Kd.R_lt (zqfR d2.out))) (keep_size (w:=w) (g:=g) (row:=none) zq0));have d8:=zqm (Kd.R_lower (Kd.R_new' b6 (Kd.R_lt (zqfR d2.out))) (keep_size (w:=w) (g:=g) (row:=none) zq0));replace a4:=zqm (blk_below (g:=b1) (o:= .cells #[.slice none 0 0,.slice none 0 0] 68 (0,0)) (zqe a4.out) hb);replace a0:=zqm (blk_below (g:=a8) (o:= .cells #[.slice none 0 0,.slice none 0 0] 68 (0,0)) (zqe a0.out) hb);have g8:=zqm (IsS78.below zq1 hb);replace HK:=zqm (KeepBut.trans zq0 (KeepBut.of_below hb g none) (.inl rfl));replace HB:=zqm (below_step zq3 hb);clear d7 d2 a2;have d7:=c8;have d2:=d0;have a2:=g8;clear c8 d0 g8 hb c0 b6;obtain⟨a7z,a8t,a9v⟩:=Kd.S_slice d7.out;subst a9v;obtain⟨a8a,a8u,a9w⟩:=Kd.R_slice d2.out;subst a9w;obtain⟨a8b,a8v,a9x⟩:=Kd.S_slice e9.out;subst a9x;obtain⟨a8c,a8w,a9y⟩:=Kd.R_slice d8.out;subst a9y)|((with_reducible refine gate_callee (f:=55) rfl ?_);refine goesL_ (some 35) rfl rfl Tryd.func55 zqk rfl #[.agg #[.slice a7z s6.length a8t,.slice a8a s7.length a8u],.agg #[.slice a8b a0d.length a8v,.slice a8c a0e.length a8w]] rfl zq2 ?_;(with_reducible refine(spec_l20Glued.calls b7 _ _ s6 _ _ s7 _ _ a0d _ _ a0e s8 s9 _ ?side1 ?side2 ?side3 ?side4 ?side5 ?side6 ?side7 ?side8 A60.out).mono ?_);(case side1=>repeat(first|exact(Kd.S_reads' d7.out).2.2|(with_reducible refine Kd.C_alloc ?_ _)|(with_reducible refine Kd.C_drewN ?_ _)|(with_reducible refine Kd.C_drew ?_)));(case side2=>exact(Kd.S_reads' d7.out).2.1);(case side3=> exact zq101);(case side4=>exact(Kd.R_reads' d2.out).2.1);(case side5=>repeat(first|exact(Kd.S_reads' e9.out).2.2|(with_reducible refine Kd.C_alloc ?_ _)|(with_reducible refine Kd.C_drewN ?_ _)|(with_reducible refine Kd.C_drew ?_)));(case side6=>exact(Kd.S_reads' e9.out).2.1);(case side7=>repeat(first|exact(Kd.R_reads' d8.out).2.2|(with_reducible refine Kd.C_alloc ?_ _)|(with_reducible refine Kd.C_drewN ?_ _)|(with_reducible refine Kd.C_drew ?_)));(case side8=>exact(Kd.R_reads' d8.out).2.1);rintro e w69 ⟨b9v,b9w,rfl,c0,b6,hb⟩;refine⟨_,rfl,?_⟩;have c8:=zqm (Kd.S_mono (Kd.S_told (Kd.S_told (Kd.S_old (zqfS d7.out) hb) (Kd.S_base c0)) (Kd.R_base b6)) (fun _ h_=>h_.1));have d0:=zqm (Kd.R_elder' (zqfR d2.out) (Kd.R_base b6) hb);have e6:=zqm (Kd.S_mono (Kd.S_told (Kd.S_told (Kd.S_old (zqfS e9.out) hb) (Kd.S_base c0)) (Kd.R_base b6)) (fun _ h_=>h_.1));have f9:=zqm (Kd.R_elder' (zqfR d8.out) (Kd.R_base b6) hb);have g4:=zqm (Kd.S_lower (Kd.S_new' (Kd.S_new' (Kd.S_new' (Kd.S_new' c0 (Kd.S_lt (zqfS d7.out))) (Kd.R_lt (zqfR d2.out))) (Kd.S_lt (zqfS e9.out))) (Kd.R_lt (zqfR d8.out))) (keep_size (w:=w) (g:=g) (row:=none) zq0));have f7:=zqm (Kd.R_lower (Kd.R_new' (Kd.R_new' b6 (Kd.R_lt (zqfR d2.out))) (Kd.R_lt (zqfR d8.out))) (keep_size (w:=w) (g:=g) (row:=none) zq0));replace a4:=zqm (blk_below (g:=b1) (o:= .cells #[.slice none 0 0,.slice none 0 0] 68 (0,0)) (zqe a4.out) hb);replace a0:=zqm (blk_below (g:=a8) (o:= .cells #[.slice none 0 0,.slice none 0 0] 68 (0,0)) (zqe a0.out) hb);have l2:=zqm (IsS78.below zq1 hb);replace HK:=zqm (KeepBut.trans zq0 (KeepBut.of_below hb g none) (.inl rfl));replace HB:=zqm (below_step zq3 hb);clear d7 d2 e9 d8 a2;have d7:=c8;have d2:=d0;have e9:=e6;have d8:=f9;have a2:=l2;clear c8 d0 e6 f9 l2 hb c0 b6)|((with_reducible refine gate_callee (f:=54) rfl ?_);refine goesL_ (some 36) rfl rfl Tryd.func54 zqk rfl #[.int .i64 2] rfl zq2 ?_;(with_reducible refine(spec_l20Boole.calls b7 2 a0f a0g _ A61.out).mono ?_);rintro e w70 ⟨b9x,b9y,rfl,c0,b6,hb⟩;refine⟨_,rfl,?_⟩;have c8:=zqm (Kd.S_mono (Kd.S_told (Kd.S_told (Kd.S_old (zqfS d7.out) hb) (Kd.S_base c0)) (Kd.R_base b6)) (fun _ h_=>h_.1));have d0:=zqm (Kd.R_elder' (zqfR d2.out) (Kd.R_base b6) hb);have e6:=zqm (Kd.S_mono (Kd.S_told (Kd.S_told (Kd.S_old (zqfS e9.out) hb) (Kd.S_base c0)) (Kd.R_base b6)) (fun _ h_=>h_.1));have f9:=zqm (Kd.R_elder' (zqfR d8.out) (Kd.R_base b6) hb);have d6:=zqm (Kd.S_mono (Kd.S_told (Kd.S_told (Kd.S_old (zqfS g4.out) hb) (Kd.S_base c0)) (Kd.R_base b6)) (fun _ h_=>h_.1));have k6:=zqm (Kd.R_elder' (zqfR f7.out) (Kd.R_base b6) hb);have j4:=zqm (Kd.S_lower (Kd.S_new' (Kd.S_new' (Kd.S_new' (Kd.S_new' (Kd.S_new' (Kd.S_new' c0 (Kd.S_lt (zqfS d7.out))) (Kd.R_lt (zqfR d2.out))) (Kd.S_lt (zqfS e9.out))) (Kd.R_lt (zqfR d8.out))) (Kd.S_lt (zqfS g4.out))) (Kd.R_lt (zqfR f7.out))) (keep_size (w:=w) (g:=g) (row:=none) zq0));have h8:=zqm (Kd.R_lower (Kd.R_new' (Kd.R_new' (Kd.R_new' b6 (Kd.R_lt (zqfR d2.out))) (Kd.R_lt (zqfR d8.out))) (Kd.R_lt (zqfR f7.out))) (keep_size (w:=w) (g:=g) (row:=none) zq0));replace a4:=zqm (blk_below (g:=b1) (o:= .cells #[.slice none 0 0,.slice none 0 0] 68 (0,0)) (zqe a4.out) hb);replace a0:=zqm (blk_below (g:=a8) (o:= .cells #[.slice none 0 0,.slice none 0 0] 68 (0,0)) (zqe a0.out) hb);have a4y:=zqm (IsS78.below zq1 hb);replace HK:=zqm (KeepBut.trans zq0 (KeepBut.of_below hb g none) (.inl rfl));replace HB:=zqm (below_step zq3 hb);clear d7 d2 e9 d8 g4 f7 a2;have d7:=c8;have d2:=d0;have e9:=e6;have d8:=f9;have g4:=d6;have f7:=k6;have a2:=a4y;clear c8 d0 e6 f9 d6 k6 a4y hb c0 b6;obtain⟨a8d,a8x,a9z⟩:=Kd.S_slice g4.out;subst a9z;obtain⟨a8e,a8y,b0a⟩:=Kd.R_slice f7.out;subst b0a;obtain⟨a8f,a8z,b0b⟩:=Kd.S_slice j4.out;subst b0b;obtain⟨a8g,a9a,b0c⟩:=Kd.R_slice h8.out;subst b0c)|((with_reducible refine gate_callee (f:=55) rfl ?_);refine goesL_ (some 37) rfl rfl Tryd.func55 zqk rfl #[.agg #[.slice a8d s8.length a8x,.slice a8e s9.length a8y],.agg #[.slice a8f a0f.length a8z,.slice a8g a0g.length a9a]] rfl zq2 ?_;(with_reducible refine(spec_l20Glued.calls b7 _ _ s8 _ _ s9 _ _ a0f _ _ a0g m3 p0 _ ?side1 ?side2 ?side3 ?side4 ?side5 ?side6 ?side7 ?side8 A62.out).mono ?_);(case side1=>repeat(first|exact(Kd.S_reads' g4.out).2.2|(with_reducible refine Kd.C_alloc ?_ _)|(with_reducible refine Kd.C_drewN ?_ _)|(with_reducible refine Kd.C_drew ?_)));(case side2=>exact(Kd.S_reads' g4.out).2.1);(case side3=>repeat(first|exact(Kd.R_reads' f7.out).2.2|(with_reducible refine Kd.C_alloc ?_ _)|(with_reducible refine Kd.C_drewN ?_ _)|(with_reducible refine Kd.C_drew ?_)));(case side4=>exact(Kd.R_reads' f7.out).2.1);(case side5=>repeat(first|exact(Kd.S_reads' j4.out).2.2|(with_reducible refine Kd.C_alloc ?_ _)|(with_reducible refine Kd.C_drewN ?_ _)|(with_reducible refine Kd.C_drew ?_)));(case side6=>exact(Kd.S_reads' j4.out).2.1);(case side7=>repeat(first|exact(Kd.R_reads' h8.out).2.2|(with_reducible refine Kd.C_alloc ?_ _)|(with_reducible refine Kd.C_drewN ?_ _)|(with_reducible refine Kd.C_drew ?_)));(case side8=>exact(Kd.R_reads' h8.out).2.1);rintro e w75 ⟨b9z,c0a,rfl,c0,b6,hb⟩;refine⟨_,rfl,?_⟩;have c8:=zqm (Kd.S_mono (Kd.S_told (Kd.S_told (Kd.S_old (zqfS d7.out) hb) (Kd.S_base c0)) (Kd.R_base b6)) (fun _ h_=>h_.1));have d0:=zqm (Kd.R_elder' (zqfR d2.out) (Kd.R_base b6) hb);have e6:=zqm (Kd.S_mono (Kd.S_told (Kd.S_told (Kd.S_old (zqfS e9.out) hb) (Kd.S_base c0)) (Kd.R_base b6)) (fun _ h_=>h_.1));have f9:=zqm (Kd.R_elder' (zqfR d8.out) (Kd.R_base b6) hb);have d6:=zqm (Kd.S_mono (Kd.S_told (Kd.S_told (Kd.S_old (zqfS g4.out) hb) (Kd.S_base c0)) (Kd.R_base b6)) (fun _ h_=>h_.1));have k6:=zqm (Kd.R_elder' (zqfR f7.out) (Kd.R_base b6) hb);have g8:=zqm (Kd.S_mono (Kd.S_told (Kd.S_told (Kd.S_old (zqfS j4.out) hb) (Kd.S_base c0)) (Kd.R_base b6)) (fun _ h_=>h_.1));have n7_:=zqm (Kd.R_elder' (zqfR h8.out) (Kd.R_base b6) hb);have a2n:=zqm (Kd.S_lower (Kd.S_new' (Kd.S_new' (Kd.S_new' (Kd.S_new' (Kd.S_new' (Kd.S_new' (Kd.S_new' (Kd.S_new' c0 (Kd.S_lt (zqfS d7.out))) (Kd.R_lt (zqfR d2.out))) (Kd.S_lt (zqfS e9.out))) (Kd.R_lt (zqfR d8.out))) (Kd.S_lt (zqfS g4.out))) (Kd.R_lt (zqfR f7.out))) (Kd.S_lt (zqfS j4.out))) (Kd.R_lt (zqfR h8.out))) (keep_size (w:=w) (g:=g) (row:=none) zq0));have a2o:=zqm (Kd.R_lower (Kd.R_new' (Kd.R_new' (Kd.R_new' (Kd.R_new' b6 (Kd.R_lt (zqfR d2.out))) (Kd.R_lt (zqfR d8.out))) (Kd.R_lt (zqfR f7.out))) (Kd.R_lt (zqfR h8.out))) (keep_size (w:=w) (g:=g) (row:=none) zq0));replace a4:=zqm (blk_below (g:=b1) (o:= .cells #[.slice none 0 0,.slice none 0 0] 68 (0,0)) (zqe a4.out) hb);replace a0:=zqm (blk_below (g:=a8) (o:= .cells #[.slice none 0 0,.slice none 0 0] 68 (0,0)) (zqe a0.out) hb);have a4z:=zqm (IsS78.below zq1 hb);replace HK:=zqm (KeepBut.trans zq0 (KeepBut.of_below hb g none) (.inl rfl));replace HB:=zqm (below_step zq3 hb);clear d7 d2 e9 d8 g4 f7 j4 h8 a2;have d7:=c8;have d2:=d0;have e9:=e6;have d8:=f9;have g4:=d6;have f7:=k6;have j4:=g8;have h8:=n7_;have a2:=a4z;clear c8 d0 e6 f9 d6 k6 g8 n7_ a4z hb c0 b6;obtain⟨v2,y3,b0d⟩:=Kd.S_slice a2n.out;subst b0d;have b8k:=c6.out;have b8u:=b3.out;have b8l:=c2.out;have b8v:=a6.out;have b3g:w75.cell? ⟨a8,0,none⟩=some (.slice none 0 0):=(blk_cell a0.out 0).trans rfl;have b3h:w75.cell? ⟨a8,1,none⟩=some (.slice none 0 0):=(blk_cell a0.out 1).trans rfl;have b3t:=blk_frozen a0.out 0;have b3u:=blk_frozen a0.out 1;obtain⟨a0u,a1b,b0e⟩:=Kd.R_slice a2o.out;subst b0e))
          go_meet
          case rel=>exact⟨_,(c5),(m3),(p0),(.slice v2 m3.length y3),(.slice a0u p0.length a1b),H',⟨zq93⟩,⟨by refine zqfS ?_;exact Kd.S_mono (Kd.S_far (p:=⟨a8,1,none⟩) (Kd.S_far (p:=⟨a8,0,none⟩) (Kd.S_types a2n.out a0.out (by decide)) (fun _ hk=>hk.2) (.slice v2 m3.length y3)) (fun _ hk=>hk.2) (.slice a0u p0.length a1b)) (fun _ hk=>hk.1.1.1.1.1.1.1.1.1)⟩,⟨Kd.Q_of_R (by refine zqfR ?_;exact Kd.R_mono (Kd.R_far (p:=⟨a8,1,none⟩) (Kd.R_far (p:=⟨a8,0,none⟩) (Kd.R_types a2o.out a0.out (by decide)) (fun _ hk=>hk.2) (.slice v2 m3.length y3)) (fun _ hk=>hk.2) (.slice a0u p0.length a1b)) (fun _ hk=>trivial))⟩,⟨zq41⟩,⟨by refine zqe ?_;refine blk_put (cs:= #[.slice v2 m3.length y3,.slice none 0 0]) ?_ 1 _ rfl;refine zqe ?_;refine blk_put (cs:= #[.slice none 0 0,.slice none 0 0]) ?_ 0 _ rfl;refine zqe ?_;exact a0.out⟩,⟨zq1⟩,⟨zq0⟩,⟨zq3⟩⟩
         ·rw [if_neg r9] at H;have a5y:(c3==5)=false:=beq_eq_false_iff_ne.mpr r9;have a5z:(c3 !=5)=true:=bne_iff_ne.mpr r9
          by_cases s0:c3=6
          ·rw [if_pos s0] at H;have a6a:(c3==6)=true:=beq_iff_eq.mpr s0;have a6b:(c3 !=6)=false:=bne_eq_false_iff_eq.mpr s0;clear s0;replace H:=Option.bind_eq_some_iff.mp H;obtain⟨⟨m4,p1⟩,a4g,H⟩:=H;replace H:(spec_l20Logic.j2 b7 a1 s0_0 c5 m4 p1)=some (r1,r2,r3):=H;have A82:=zqm a4g;clear a4g;have H':=zqm H;clear H
           go_wp2_with (first|((with_reducible refine gate_callee (f:=56) rfl ?_);refine goesL_ (some 40) rfl rfl Tryd.func56 zqk rfl #[] rfl zq2 ?_;(with_reducible refine(spec_l20Six.calls m4 p1 _ A82.out).mono ?_);rintro e w83 ⟨c0b,c0c,rfl,c0,b6,hb⟩;refine⟨_,rfl,?_⟩;have a2p:=zqm (Kd.S_lower c0 (keep_size (w:=w) (g:=g) (row:=none) zq0));have a2q:=zqm (Kd.R_lower b6 (keep_size (w:=w) (g:=g) (row:=none) zq0));replace a4:=zqm (blk_below (g:=b1) (o:= .cells #[.slice none 0 0,.slice none 0 0] 68 (0,0)) (zqe a4.out) hb);replace a0:=zqm (blk_below (g:=a8) (o:= .cells #[.slice none 0 0,.slice none 0 0] 68 (0,0)) (zqe a0.out) hb);have d6:=zqm (IsS78.below zq1 hb);replace HK:=zqm (KeepBut.trans zq0 (KeepBut.of_below hb g none) (.inl rfl));replace HB:=zqm (below_step zq3 hb);clear a2;have a2:=d6;clear d6 hb c0 b6;obtain⟨v3,y4,b0f⟩:=Kd.S_slice a2p.out;subst b0f;have b8m:=c6.out;have b8w:=b3.out;have b8n:=c2.out;have b8x:=a6.out;have b3i:w83.cell? ⟨a8,0,none⟩=some (.slice none 0 0):=(blk_cell a0.out 0).trans rfl;have b3j:w83.cell? ⟨a8,1,none⟩=some (.slice none 0 0):=(blk_cell a0.out 1).trans rfl;have b3v:=blk_frozen a0.out 0;have b3w:=blk_frozen a0.out 1;obtain⟨a0v,a1c,b0g⟩:=Kd.R_slice a2q.out;subst b0g))
           go_meet
           case rel=>exact⟨_,(c5),(m4),(p1),(.slice v3 m4.length y4),(.slice a0v p1.length a1c),H',⟨zq93⟩,⟨by refine zqfS ?_;exact Kd.S_mono (Kd.S_far (p:=⟨a8,1,none⟩) (Kd.S_far (p:=⟨a8,0,none⟩) (Kd.S_types a2p.out a0.out (by decide)) (fun _ hk=>hk.2) (.slice v3 m4.length y4)) (fun _ hk=>hk.2) (.slice a0v p1.length a1c)) (fun _ hk=>hk.1)⟩,⟨Kd.Q_of_R (by refine zqfR ?_;exact Kd.R_mono (Kd.R_far (p:=⟨a8,1,none⟩) (Kd.R_far (p:=⟨a8,0,none⟩) (Kd.R_types a2q.out a0.out (by decide)) (fun _ hk=>hk.2) (.slice v3 m4.length y4)) (fun _ hk=>hk.2) (.slice a0v p1.length a1c)) (fun _ hk=>trivial))⟩,⟨zq41⟩,⟨by refine zqe ?_;refine blk_put (cs:= #[.slice v3 m4.length y4,.slice none 0 0]) ?_ 1 _ rfl;refine zqe ?_;refine blk_put (cs:= #[.slice none 0 0,.slice none 0 0]) ?_ 0 _ rfl;refine zqe ?_;exact a0.out⟩,⟨zq1⟩,⟨zq0⟩,⟨zq3⟩⟩
          ·rw [if_neg s0] at H;have a6a:(c3==6)=false:=beq_eq_false_iff_ne.mpr s0;have a6b:(c3 !=6)=true:=bne_iff_ne.mpr s0
           by_cases s1:c3=7
           ·rw [if_pos s1] at H;have a6c:(c3==7)=true:=beq_iff_eq.mpr s1;have a6d:(c3 !=7)=false:=bne_eq_false_iff_eq.mpr s1;clear s1;replace H:=Option.bind_eq_some_iff.mp H;obtain⟨⟨t0,t1⟩,a4h,H⟩:=H;replace H:((spec_l20Boole.f b7 2).bind fun n4=>((spec_l20Glued.f b7 t0 t1 n4.1 n4.2).bind fun i3=>(spec_l20Logic.j2 b7 a1 s0_0 c5 i3.1 i3.2)))=some (r1,r2,r3):=H;have A90:=zqm a4h;clear a4h;replace H:=Option.bind_eq_some_iff.mp H;obtain⟨⟨a0h,a0i⟩,a4i,H⟩:=H;replace H:((spec_l20Glued.f b7 t0 t1 a0h a0i).bind fun i3=>(spec_l20Logic.j2 b7 a1 s0_0 c5 i3.1 i3.2))=some (r1,r2,r3):=H;have A91:=zqm a4i;clear a4i;replace H:=Option.bind_eq_some_iff.mp H;obtain⟨⟨m5,p2⟩,a4j,H⟩:=H;replace H:(spec_l20Logic.j2 b7 a1 s0_0 c5 m5 p2)=some (r1,r2,r3):=H;have A92:=zqm a4j;clear a4j;have H':=zqm H;clear H
            go_wp2_with (first|((with_reducible refine gate_callee (f:=56) rfl ?_);refine goesL_ (some 43) rfl rfl Tryd.func56 zqk rfl #[] rfl zq2 ?_;(with_reducible refine(spec_l20Six.calls t0 t1 _ A90.out).mono ?_);rintro e w93 ⟨c0d,c0e,rfl,c0,b6,hb⟩;refine⟨_,rfl,?_⟩;have g5:=zqm (Kd.S_lower c0 (keep_size (w:=w) (g:=g) (row:=none) zq0));have f8:=zqm (Kd.R_lower b6 (keep_size (w:=w) (g:=g) (row:=none) zq0));replace a4:=zqm (blk_below (g:=b1) (o:= .cells #[.slice none 0 0,.slice none 0 0] 68 (0,0)) (zqe a4.out) hb);replace a0:=zqm (blk_below (g:=a8) (o:= .cells #[.slice none 0 0,.slice none 0 0] 68 (0,0)) (zqe a0.out) hb);have d6:=zqm (IsS78.below zq1 hb);replace HK:=zqm (KeepBut.trans zq0 (KeepBut.of_below hb g none) (.inl rfl));replace HB:=zqm (below_step zq3 hb);clear a2;have a2:=d6;clear d6 hb c0 b6)|((with_reducible refine gate_callee (f:=54) rfl ?_);refine goesL_ (some 44) rfl rfl Tryd.func54 zqk rfl #[.int .i64 2] rfl zq2 ?_;(with_reducible refine(spec_l20Boole.calls b7 2 a0h a0i _ A91.out).mono ?_);rintro e w94 ⟨c0f,c0g,rfl,c0,b6,hb⟩;refine⟨_,rfl,?_⟩;have c8:=zqm (Kd.S_mono (Kd.S_told (Kd.S_told (Kd.S_old (zqfS g5.out) hb) (Kd.S_base c0)) (Kd.R_base b6)) (fun _ h_=>h_.1));have d0:=zqm (Kd.R_elder' (zqfR f8.out) (Kd.R_base b6) hb);have j6:=zqm (Kd.S_lower (Kd.S_new' (Kd.S_new' c0 (Kd.S_lt (zqfS g5.out))) (Kd.R_lt (zqfR f8.out))) (keep_size (w:=w) (g:=g) (row:=none) zq0));have h9:=zqm (Kd.R_lower (Kd.R_new' b6 (Kd.R_lt (zqfR f8.out))) (keep_size (w:=w) (g:=g) (row:=none) zq0));replace a4:=zqm (blk_below (g:=b1) (o:= .cells #[.slice none 0 0,.slice none 0 0] 68 (0,0)) (zqe a4.out) hb);replace a0:=zqm (blk_below (g:=a8) (o:= .cells #[.slice none 0 0,.slice none 0 0] 68 (0,0)) (zqe a0.out) hb);have g8:=zqm (IsS78.below zq1 hb);replace HK:=zqm (KeepBut.trans zq0 (KeepBut.of_below hb g none) (.inl rfl));replace HB:=zqm (below_step zq3 hb);clear g5 f8 a2;have g5:=c8;have f8:=d0;have a2:=g8;clear c8 d0 g8 hb c0 b6;obtain⟨a8h,a9b,b0h⟩:=Kd.S_slice g5.out;subst b0h;obtain⟨a8i,a9c,b0i⟩:=Kd.R_slice f8.out;subst b0i;obtain⟨a8j,a9d,b0j⟩:=Kd.S_slice j6.out;subst b0j;obtain⟨a8k,a9e,b0k⟩:=Kd.R_slice h9.out;subst b0k)|((with_reducible refine gate_callee (f:=55) rfl ?_);refine goesL_ (some 45) rfl rfl Tryd.func55 zqk rfl #[.agg #[.slice a8h t0.length a9b,.slice a8i t1.length a9c],.agg #[.slice a8j a0h.length a9d,.slice a8k a0i.length a9e]] rfl zq2 ?_;(with_reducible refine(spec_l20Glued.calls b7 _ _ t0 _ _ t1 _ _ a0h _ _ a0i m5 p2 _ ?side1 ?side2 ?side3 ?side4 ?side5 ?side6 ?side7 ?side8 A92.out).mono ?_);(case side1=>repeat(first|exact(Kd.S_reads' g5.out).2.2|(with_reducible refine Kd.C_alloc ?_ _)|(with_reducible refine Kd.C_drewN ?_ _)|(with_reducible refine Kd.C_drew ?_)));(case side2=>exact(Kd.S_reads' g5.out).2.1);(case side3=>repeat(first|exact(Kd.R_reads' f8.out).2.2|(with_reducible refine Kd.C_alloc ?_ _)|(with_reducible refine Kd.C_drewN ?_ _)|(with_reducible refine Kd.C_drew ?_)));(case side4=>exact(Kd.R_reads' f8.out).2.1);(case side5=>repeat(first|exact(Kd.S_reads' j6.out).2.2|(with_reducible refine Kd.C_alloc ?_ _)|(with_reducible refine Kd.C_drewN ?_ _)|(with_reducible refine Kd.C_drew ?_)));(case side6=>exact(Kd.S_reads' j6.out).2.1);(case side7=>repeat(first|exact(Kd.R_reads' h9.out).2.2|(with_reducible refine Kd.C_alloc ?_ _)|(with_reducible refine Kd.C_drewN ?_ _)|(with_reducible refine Kd.C_drew ?_)));(case side8=>exact(Kd.R_reads' h9.out).2.1);rintro e w99 ⟨c0h,c0i,rfl,c0,b6,hb⟩;refine⟨_,rfl,?_⟩;have c8:=zqm (Kd.S_mono (Kd.S_told (Kd.S_told (Kd.S_old (zqfS g5.out) hb) (Kd.S_base c0)) (Kd.R_base b6)) (fun _ h_=>h_.1));have d0:=zqm (Kd.R_elder' (zqfR f8.out) (Kd.R_base b6) hb);have e6:=zqm (Kd.S_mono (Kd.S_told (Kd.S_told (Kd.S_old (zqfS j6.out) hb) (Kd.S_base c0)) (Kd.R_base b6)) (fun _ h_=>h_.1));have f9:=zqm (Kd.R_elder' (zqfR h9.out) (Kd.R_base b6) hb);have a2r:=zqm (Kd.S_lower (Kd.S_new' (Kd.S_new' (Kd.S_new' (Kd.S_new' c0 (Kd.S_lt (zqfS g5.out))) (Kd.R_lt (zqfR f8.out))) (Kd.S_lt (zqfS j6.out))) (Kd.R_lt (zqfR h9.out))) (keep_size (w:=w) (g:=g) (row:=none) zq0));have a2s:=zqm (Kd.R_lower (Kd.R_new' (Kd.R_new' b6 (Kd.R_lt (zqfR f8.out))) (Kd.R_lt (zqfR h9.out))) (keep_size (w:=w) (g:=g) (row:=none) zq0));replace a4:=zqm (blk_below (g:=b1) (o:= .cells #[.slice none 0 0,.slice none 0 0] 68 (0,0)) (zqe a4.out) hb);replace a0:=zqm (blk_below (g:=a8) (o:= .cells #[.slice none 0 0,.slice none 0 0] 68 (0,0)) (zqe a0.out) hb);have l2:=zqm (IsS78.below zq1 hb);replace HK:=zqm (KeepBut.trans zq0 (KeepBut.of_below hb g none) (.inl rfl));replace HB:=zqm (below_step zq3 hb);clear g5 f8 j6 h9 a2;have g5:=c8;have f8:=d0;have j6:=e6;have h9:=f9;have a2:=l2;clear c8 d0 e6 f9 l2 hb c0 b6;obtain⟨p5,q2,a6f⟩:=Kd.S_slice a2r.out;subst a6f;have b5r:=c6.out;have b6p:=b3.out;have b5s:=c2.out;have b6q:=a6.out;have b0l:w99.cell? ⟨a8,0,none⟩=some (.slice none 0 0):=(blk_cell a0.out 0).trans rfl;have b0m:w99.cell? ⟨a8,1,none⟩=some (.slice none 0 0):=(blk_cell a0.out 1).trans rfl;have b1r:=blk_frozen a0.out 0;have b1s:=blk_frozen a0.out 1;obtain⟨u1,x5,a6g⟩:=Kd.R_slice a2s.out;subst a6g))
            go_meet
            case rel=>exact⟨_,(c5),(m5),(p2),(.slice p5 m5.length q2),(.slice u1 p2.length x5),H',⟨zq93⟩,⟨by refine zqfS ?_;exact Kd.S_mono (Kd.S_far (p:=⟨a8,1,none⟩) (Kd.S_far (p:=⟨a8,0,none⟩) (Kd.S_types a2r.out a0.out (by decide)) (fun _ hk=>hk.2) (.slice p5 m5.length q2)) (fun _ hk=>hk.2) (.slice u1 p2.length x5)) (fun _ hk=>hk.1.1.1.1.1)⟩,⟨Kd.Q_of_R (by refine zqfR ?_;exact Kd.R_mono (Kd.R_far (p:=⟨a8,1,none⟩) (Kd.R_far (p:=⟨a8,0,none⟩) (Kd.R_types a2s.out a0.out (by decide)) (fun _ hk=>hk.2) (.slice p5 m5.length q2)) (fun _ hk=>hk.2) (.slice u1 p2.length x5)) (fun _ hk=>trivial))⟩,⟨zq41⟩,⟨by refine zqe ?_;refine blk_put (cs:= #[.slice p5 m5.length q2,.slice none 0 0]) ?_ 1 _ rfl;refine zqe ?_;refine blk_put (cs:= #[.slice none 0 0,.slice none 0 0]) ?_ 0 _ rfl;refine zqe ?_;exact a0.out⟩,⟨zq1⟩,⟨zq0⟩,⟨zq3⟩⟩
           ·rw [if_neg s1] at H;have a6c:(c3==7)=false:=beq_eq_false_iff_ne.mpr s1;have a6d:(c3 !=7)=true:=bne_iff_ne.mpr s1;replace H:=Option.bind_eq_some_iff.mp H;obtain⟨⟨m6,p3⟩,a1u,H⟩:=H;replace H:(spec_l20Logic.j2 b7 a1 s0_0 c5 m6 p3)=some (r1,r2,r3):=H;have a7l:=zqm a1u;clear a1u;have H':=zqm H;clear H
            go_wp2_with (first|((with_reducible refine gate_callee (f:=57) rfl ?_);refine goesL_ (some 13) rfl rfl Tryd.func57 zqk rfl #[] rfl zq2 ?_;(with_reducible refine(spec_l20Pasted.calls b7 m6 p3 _ a7l.out).mono ?_);rintro e a5b ⟨c0j,c0k,rfl,c0,b6,hb⟩;refine⟨_,rfl,?_⟩;have a2t:=zqm (Kd.S_lower c0 (keep_size (w:=w) (g:=g) (row:=none) zq0));have a2u:=zqm (Kd.R_lower b6 (keep_size (w:=w) (g:=g) (row:=none) zq0));replace a4:=zqm (blk_below (g:=b1) (o:= .cells #[.slice none 0 0,.slice none 0 0] 68 (0,0)) (zqe a4.out) hb);replace a0:=zqm (blk_below (g:=a8) (o:= .cells #[.slice none 0 0,.slice none 0 0] 68 (0,0)) (zqe a0.out) hb);have d6:=zqm (IsS78.below zq1 hb);replace HK:=zqm (KeepBut.trans zq0 (KeepBut.of_below hb g none) (.inl rfl));replace HB:=zqm (below_step zq3 hb);clear a2;have a2:=d6;clear d6 hb c0 b6;obtain⟨p6,q3,a6h⟩:=Kd.S_slice a2t.out;subst a6h;have b5t:=c6.out;have b6r:=b3.out;have b5u:=c2.out;have b6s:=a6.out;have b0n:a5b.cell? ⟨a8,0,none⟩=some (.slice none 0 0):=(blk_cell a0.out 0).trans rfl;have b0o:a5b.cell? ⟨a8,1,none⟩=some (.slice none 0 0):=(blk_cell a0.out 1).trans rfl;have b1t:=blk_frozen a0.out 0;have b1u:=blk_frozen a0.out 1;obtain⟨u2,x6,a6i⟩:=Kd.R_slice a2u.out;subst a6i))
            go_meet
            case rel=>exact⟨_,(c5),(m6),(p3),(.slice p6 m6.length q3),(.slice u2 p3.length x6),H',⟨zq93⟩,⟨by refine zqfS ?_;exact Kd.S_mono (Kd.S_far (p:=⟨a8,1,none⟩) (Kd.S_far (p:=⟨a8,0,none⟩) (Kd.S_types a2t.out a0.out (by decide)) (fun _ hk=>hk.2) (.slice p6 m6.length q3)) (fun _ hk=>hk.2) (.slice u2 p3.length x6)) (fun _ hk=>hk.1)⟩,⟨Kd.Q_of_R (by refine zqfR ?_;exact Kd.R_mono (Kd.R_far (p:=⟨a8,1,none⟩) (Kd.R_far (p:=⟨a8,0,none⟩) (Kd.R_types a2u.out a0.out (by decide)) (fun _ hk=>hk.2) (.slice p6 m6.length q3)) (fun _ hk=>hk.2) (.slice u2 p3.length x6)) (fun _ hk=>trivial))⟩,⟨zq41⟩,⟨by refine zqe ?_;refine blk_put (cs:= #[.slice p6 m6.length q3,.slice none 0 0]) ?_ 1 _ rfl;refine zqe ?_;refine blk_put (cs:= #[.slice none 0 0,.slice none 0 0]) ?_ 0 _ rfl;refine zqe ?_;exact a0.out⟩,⟨zq1⟩,⟨zq0⟩,⟨zq3⟩⟩
 case rest=>
  clear HC4;obtain⟨kq,i7,c4,h1,b8,b9,HA,t4,HO_434000,HO_434001,a4,a0,a2,HK,HB⟩:=hcut
  cases kq with
  |zero=>exact absurd HA.out (by simp [spec_l20Logic.j2])
  |succ kj3=>
   have H:=HA.out;clear HA;simp only [spec_l20Logic.j2] at H;obtain⟨a5f,y7⟩: ∃y_:List Int,y_=(([]:List Int)):=⟨_,rfl⟩;replace H:(spec_l20Logic.l0 kj3 a1 a5f 0 s0_0 i7 c4 h1)=some (r1,r2,r3):=zqy y7 H;have a2x:=zqm y7;clear y7;have H':=zqm H;clear H
   go_wp2_with (first|((with_reducible refine gate_dst (N:=46) rfl ?_);refine Kd.R_lit (Kd.int .i64) _ 3 ?hg (N:=46) ?hd (xs:=([]:List Int)) (inner:= []) (ok:=fun _=>True) (okp:=fun _=>True) ?hr ?hp (fun _ hk=>hk) trivial (Below.refl _ _) (Nat.le_refl _) (by simp) ?_;(case hd=>rfl);(case hg=>rfl);(case hr=> exact zq18);(case hp=>exact(Reps.none _ _));intro c0l c0o k4 hb hg_ hnew_;clear hg_ hnew_;(first|rw [← a2x.out] at k4|(simp only [Int.reduceToNat] at k4;rw [← a2x.out] at k4));replace HO_434000:=zqm (Kd.S_elder' (zqfS HO_434000.out) (Kd.R_base k4) hb);have d0:=zqm (Kd.Q_elder' (zqfQ HO_434001.out) (Kd.R_base k4) hb);have a5l:=zqm (Kd.R_lower (Kd.R_new' k4 (Kd.Q_lt (zqfQ HO_434001.out))) (keep_size (w:=w) (g:=g) (row:=none) zq0));replace a4:=zqm (blk_below (g:=b1) (o:= .cells #[.slice none 0 0,.slice none 0 0] 68 (0,0)) (zqe a4.out) hb);replace a0:=zqm (blk_below (g:=a8) (o:= .cells #[b8,b9] 68 (0,0)) (zqe a0.out) hb);have k6:=zqm (IsS78.below zq1 hb);replace HK:=zqm (KeepBut.trans zq0 (KeepBut.of_below hb g none) (.inl rfl));replace HB:=zqm (below_step zq3 hb);clear HO_434001 a2;have HO_434001:=d0;have a2:=k6;clear d0 k6 hb k4))
   go_loopg [6,7] kj3 (fun kq v6 v7 w'=> ∃(h3:List Int) (d5:Int) (e7:Int) (b2:List Int) (b9:Value),v7= .int .i64 d5∧Aside0 (spec_l20Logic.l0 kq a1 h3 d5 s0_0 e7 c4 b2=some (r1,r2,r3))∧Aside0 (kq≤kj3)∧Aside0 (Kd.R (Kd.int .i64) 3 w' w.heap.size (fun k_=>some k_≠(b9:Value).ownBlock) v6 h3)∧Aside0 (Kd.S (Kd.slice 3 (Kd.int .i64)) 66 w' w.heap.size (fun k_=>some k_≠(v6:Value).ownBlock∧some k_≠(b9:Value).ownBlock) b8 c4)∧Aside0 (Kd.Q (Kd.int .i64) 3 w' w.heap.size (fun k_=>some k_≠(v6:Value).ownBlock) b9 b2)∧Aside0 (w'.heap[b1]? =some (.cells #[(.slice none 0 0),(.slice none 0 0)] 68 (0,0)))∧Aside0 (w'.heap[a8]? =some (.cells #[b8,b9] 68 (0,0)))∧Aside0 (IsS78 w0 w' g s0_0 e7)∧Aside0 (KeepBut w w' g none)∧Aside0 (Below w0.heap.size w0 w'))
   case atStart=>exact⟨(a5f),(0),(i7),(h1),(b9),zq15,H',⟨Nat.le_refl _⟩,⟨by refine zqfR ?_;exact Kd.R_mono a5l.out (fun _ hk=>hk.2)⟩,⟨zq75⟩,⟨zq113⟩,⟨zqe a4.out⟩,⟨zqe a0.out⟩,⟨zq1⟩,⟨zq0⟩,⟨zq3⟩⟩
   case round=>
    clear H';obtain⟨h3,d5,e7,b2,b9,rfl,HA,t5,HO_6,HO_434000,HO_434001,a4,a0,a2,HK,HB⟩:=hrel
    cases gk with
    |zero=>exact absurd HA.out (by simp [spec_l20Logic.l0])
    |succ k2=>
     have H:=HA.out;clear HA;simp only [spec_l20Logic.l0] at H
     by_cases o4:d5<(b2.length:Int)
     ·rw [if_pos o4] at H;have a4l:decide (d5<(b2.length:Int))=true:=decide_eq_true o4;clear o4;replace H:=Option.bind_eq_some_iff.mp H;obtain⟨⟨f2,k5⟩,a1v,H⟩:=H;replace H:(if h3.length<17592186044416 then(spec_l20Logic.l1 k2 a1 (h3 ++ [d5]) d5 f2 d5 s0_0 k5 c4 b2) else(none))=some (r1,r2,r3):=H;have a7m:=zqm a1v;clear a1v
      by_cases v5:h3.length<17592186044416
      ·rw [if_pos v5] at H;have LMc116:=zqm v5;clear v5;obtain⟨a5g,y8⟩: ∃y_:List Int,y_=(h3 ++ [d5]):=⟨_,rfl⟩;replace H:(spec_l20Logic.l1 k2 a1 a5g d5 f2 d5 s0_0 k5 c4 b2)=some (r1,r2,r3):=zqy y8 H;have a5o:=zqm y8;clear y8;have H':=zqm H;clear H;have b5v:=c6.out;have b6t:=b3.out;have b5w:=c2.out;have b6u:=a6.out;have b0p:wr.cell? ⟨a8,0,none⟩=some (b8):=(blk_cell a0.out 0).trans rfl;have b0q:wr.cell? ⟨a8,1,none⟩=some (b9):=(blk_cell a0.out 1).trans rfl;have b1v:=blk_frozen a0.out 0;have b1w:=blk_frozen a0.out 1;obtain⟨e8,f1,a6j,_⟩:=Kd.Q_slice HO_434001.out;subst a6j
       go_wp2_with (first|((with_reducible refine gate_callee (f:=45) rfl ?_);refine goesL_ (some 57) rfl rfl Tryd.func45 zqk rfl #[.pointer (some ⟨g,0,none⟩),.int .i64 (wrap64 (d5+1))] rfl zq2 ?_;(with_reducible refine(spec_l20Rd_pick.calls k2 g s0_0 e7 (wrap64 (d5+1)) f2 k5 w0 _ ?side1 ?side2 a7m.out).mono ?_);(case side1=> exact zq1);(case side2=> exact zq3);rintro e c0p ⟨rfl,hi,hb,hk⟩;refine⟨_,rfl,?_⟩;replace HO_6:=zqm (Kd.R_mono (Kd.R_keep (IsS78.apart (show IsS78 w0 _ g s0_0 e7 from zq1) (zqfR HO_6.out) (by decide)) hk (fun _ h=>h.2)) (fun _ h=>h.1));replace HO_434000:=zqm (Kd.S_mono (Kd.S_keep (IsS78.apartS (show IsS78 w0 _ g s0_0 e7 from zq1) (zqfS HO_434000.out) (by decide)) hk (fun _ h=>h.2)) (fun _ h=>h.1));replace HO_434001:=zqm (Kd.Q_mono (Kd.Q_keep (IsS78.apartQ (show IsS78 w0 _ g s0_0 e7 from zq1) (zqfQ HO_434001.out) (by decide)) hk (fun _ h=>h.2)) (fun _ h=>h.1));replace a4:=zqm (KeepBut.blk hk (g':=b1) (o:= .cells #[.slice none 0 0,.slice none 0 0] 68 (0,0)) (zqe a4.out) c7.out (by simp));replace a0:=zqm (KeepBut.blk hk (g':=a8) (o:= .cells #[b8,.slice e8 b2.length f1] 68 (0,0)) (zqe a0.out) c2.out (by simp));replace HK:=zqm (KeepBut.trans zq0 hk (.inl rfl));replace HB:=zqm (hb);replace a2:=zqm (hi);clear hb hk hi)|((with_reducible refine gate_builtin (b:= .append) (xs:= #[.tmp 58,.tmp 60]) rfl ?_);at_builtin;refine Kd.R_append (Kd.int .i64) w.heap.size rfl (.tmp 58) (.tmp 60) 66 3 (.int .i64 0) 8 rfl Tryd.underlying66 info3 rfl (by decide) (by omega) u6 h3 d5 [.int .i64 d5] (fun k_=>some k_≠(.slice e8 b2.length f1:Value).ownBlock) (fun _=>False) rfl rfl ?aP (fun _ hk=>hk.elim) ?aF ?aO (Below.refl _ _) ?aS ?aL ?_;(case aP=>exact rfl);(case aF=>exact(fun k_ hk=>Kd.fresh' (Kd.Q_lt (zqfQ HO_434001.out)) k_ hk));(case aO=>exact(zqfR HO_6.out));(case aS=>exact(keep_size (w:=w) (g:=g) (row:=none) zq0));(case aL=>have:=LMc116.out;omega);intro a1o c0q ho hb hg hat;rw [← a5o.out] at ho;replace HO_434000:=zqm (Kd.S_after (ok:=(fun k_=>some k_≠(.slice e8 b2.length f1:Value).ownBlock)) zq75 hg hat);replace HO_434001:=zqm (Kd.Q_after (ok:=(fun _=>True)) zq116 hg hat);replace a4:=zqm (blk_grown (g:=b1) (o:= .cells #[.slice none 0 0,.slice none 0 0] 68 (0,0)) (zqe a4.out) hg (Kd.R_ne HO_6.out a4.out (by decide)));replace a0:=zqm (blk_grown (g:=a8) (o:= .cells #[b8,.slice e8 b2.length f1] 68 (0,0)) (zqe a0.out) hg (Kd.R_ne HO_6.out a0.out (by decide)));have d6:=zqm (IsS78.grown zq1 hg (IsS78.own_ne a2.out HO_6.out (by decide)));replace HB:=zqm (below_weaken zq3 HL.out hb);replace HK:=zqm (KeepBut.trans zq0 (KeepBut.of_grown hg g) (Kd.R_base2 HO_6.out));have a5m:=zqm (ho);clear a2 HO_6;have a2:=d6;clear d6 ho hb hg hat))
       go_loopg [9] k2 (fun kq v9 w'=> ∃(d1:List Int) (e4:Int),v9= .int .i64 e4∧Aside0 (spec_l20Logic.l1 kq a1 d1 d5 f2 e4 s0_0 k5 c4 b2=some (r1,r2,r3))∧Aside0 (kq≤k2)∧Aside0 (Kd.R (Kd.int .i64) 3 w' w.heap.size (fun k_=>some k_≠((.slice e8 b2.length f1):Value).ownBlock) a1o d1)∧Aside0 (Kd.S (Kd.slice 3 (Kd.int .i64)) 66 w' w.heap.size (fun k_=>some k_≠(a1o:Value).ownBlock∧some k_≠((.slice e8 b2.length f1):Value).ownBlock) b8 c4)∧Aside0 (Kd.Q (Kd.int .i64) 3 w' w.heap.size (fun k_=>some k_≠(a1o:Value).ownBlock) (.slice e8 b2.length f1) b2)∧Aside0 (w'.heap[b1]? =some (.cells #[(.slice none 0 0),(.slice none 0 0)] 68 (0,0)))∧Aside0 (w'.heap[a8]? =some (.cells #[b8,(.slice e8 b2.length f1)] 68 (0,0)))∧Aside0 (IsS78 w0 w' g s0_0 k5)∧Aside0 (KeepBut w w' g none)∧Aside0 (Below w0.heap.size w0 w'))
       case atStart=>exact⟨(a5g),(d5),zq15,H',⟨Nat.le_refl _⟩,⟨zqfR a5m.out⟩,⟨zq75⟩,⟨zq113⟩,⟨zqe a4.out⟩,⟨zqe a0.out⟩,⟨zq1⟩,⟨zq0⟩,⟨zq3⟩⟩
       case round=>
        clear H';obtain⟨d1,e4,rfl,HA,HK3,HO_6,HO_434000,HO_434001,a4,a0,a2,HK,HB⟩:=hrel
        cases gk with
        |zero=>exact absurd HA.out (by simp [spec_l20Logic.l1])
        |succ k3=>
         have H:=HA.out;clear HA;simp only [spec_l20Logic.l1] at H
         by_cases o5:e4>f2
         ·rw [if_pos o5] at H;have a4m:decide (f2<e4)=true:=decide_eq_true o5;clear o5;obtain⟨e1,n9⟩: ∃j_:Int,(wrap64 (e4 - 1))=j_:=⟨_,rfl⟩;(replace H:(if 0≤(e1) then(if(e1)<(d1.length:Int) then(if 0≤e4 then(if e4<(d1.length:Int) then(spec_l20Logic.l1 k3 a1 (d1.set (e4:Int).toNat (rd d1 (e1))) d5 f2 e1 s0_0 k5 c4 b2) else(none)) else(none)) else(none)) else(none))=some (r1,r2,r3):=by first|(rw [n9] at H;exact H)|(simp only [n9] at H ⊢;exact H));have b3x:(IntKind.i64.wrap (e4 - 1))=e1:=(i64_w _).trans n9
          by_cases v8:0≤(e1)
          ·rw [if_pos v8] at H;have b4w:decide (0≤(e1))=true:=decide_eq_true v8;clear v8
           by_cases w2:(e1)<(d1.length:Int)
           ·rw [if_pos w2] at H;have b4x:decide ((e1)<(d1.length:Int))=true:=decide_eq_true w2;clear w2
            by_cases w3:0≤e4
            ·rw [if_pos w3] at H;have b4y:decide (0≤e4)=true:=decide_eq_true w3;clear w3
             by_cases w4:e4<(d1.length:Int)
             ·rw [if_pos w4] at H;have b4z:decide (e4<(d1.length:Int))=true:=decide_eq_true w4;clear w4;obtain⟨a1r,y9⟩: ∃y_:List Int,y_=(d1.set (e4:Int).toNat (rd d1 (e1))):=⟨_,rfl⟩;replace H:(spec_l20Logic.l1 k3 a1 a1r d5 f2 e1 s0_0 k5 c4 b2)=some (r1,r2,r3):=zqy y9 H;have a5p:=zqm y9;clear y9;have H':=zqm H;clear H;obtain⟨b7p,n7,a6k⟩:=Kd.R_slice HO_6.out;subst a6k;have a1h:0≤((e1):Int):=zqo;have a1n:(e1)<(d1.length:Int):=zqo;obtain⟨b7u,a9f,a3s⟩:=Kd.at_int (Kd.R_reads' HO_6.out).2.2 (e1) a1h a1n
              cases a9f
              replace a1h:=eq_true a1h;replace a1n:=eq_true a1n;have a1d:0≤(e4:Int):=zqo;have a1i:(e4:Int)<((d1.length:Int):Int):=zqo;obtain⟨k0,b8b,a3j,a3o,a6x,b7x,a2c⟩:=Kd.R_form HO_6.out (by omega);(first|cases a3j|(injection a3j with ea_ en_ ec_;(first|subst ea_|(injection ea_ with ea_;subst ea_));subst ec_;clear en_));have GB129:=zqm a3o;have GG129:=zqm a2c;clear a3o a6x a2c;(first|simp only [add_plain] at a3s|skip);obtain⟨b3z,b3k⟩:=Kd.R_celln 0 HO_6.out (e4:Int) a1d a1i;replace a1d:=eq_true a1d;replace a1i:=eq_true a1i;have HP131:=Kd.R_putg HO_6.out (e4:Int) (rd d1 (e1))
              go_wp2_with (first|((with_reducible refine gate_store (t:=3) (p:=75) rfl ?_);refine store_event (t:=3) (p:=75) (v:=?vo_w132) (w1:=(wr.setCell ⟨k0,(e4:Int).toNat,none⟩ (.int .i64 (rd d1 (e1))))) ?hg ?ho ?hn ?hr ?_;(case ho=>rfl);(case hg=>rfl);(case hn=>rfl);(case hr=> exact zq18);intro a1p hw;have hg:wr.grownBy a1p (some k0):=(by rw [hw];exact HP131.2);have hp_:Kd.R (Kd.int .i64) 3 a1p w.heap.size (fun k_=>some k_≠(.slice e8 b2.length f1:Value).ownBlock) (.slice (some ⟨k0,0,none⟩) d1.length n7) a1r:=(by rw [hw,a5p.out];exact HP131.1);clear HP131;have c8:=zqm (hp_);replace HO_434000:=zqm (Kd.S_after (v:=(.slice (some ⟨k0,0,none⟩) d1.length n7)) (v1:=(.slice (some ⟨k0,0,none⟩) d1.length n7)) (ok:=(fun k_=>some k_≠(.slice e8 b2.length f1:Value).ownBlock)) zq75 hg (.inl rfl));replace HO_434001:=zqm (Kd.Q_after (v:=(.slice (some ⟨k0,0,none⟩) d1.length n7)) (v1:=(.slice (some ⟨k0,0,none⟩) d1.length n7)) (ok:=(fun _=>True)) zq116 hg (.inl rfl));replace a4:=zqm (blk_grown (g:=b1) (o:= .cells #[.slice none 0 0,.slice none 0 0] 68 (0,0)) (zqe a4.out) hg (Kd.R_ne HO_6.out a4.out (by decide)));replace a0:=zqm (blk_grown (g:=a8) (o:= .cells #[b8,.slice e8 b2.length f1] 68 (0,0)) (zqe a0.out) hg (Kd.R_ne HO_6.out a0.out (by decide)));replace a2:=zqm (IsS78.grown zq1 hg (IsS78.own_ne a2.out HO_6.out (by decide)));replace HB:=zqm ((by rw [hw];exact below_set (HB.out) (Nat.le_trans HL.out GB129.out):Below w0.heap.size w0 a1p));replace HK:=zqm (KeepBut.trans zq0 (KeepBut.of_grown hg g) (Kd.R_base2 HO_6.out));clear HO_6;have HO_6:=c8;clear c8 hg hw hp_))
              go_roundg k3
              (case measure=> exact zq123);case rel=>exact⟨(a1r),(e1),(by first|rfl|(simp;done)|(simp only [← n9] <;> (first|rfl|simp))|(simp [*];done)),H',⟨zq123⟩,⟨zqfR HO_6.out⟩,⟨zq75⟩,⟨zq113⟩,⟨zqe a4.out⟩,⟨zqe a0.out⟩,⟨zq1⟩,⟨zq0⟩,⟨zq3⟩⟩
             ·rw [if_neg w4] at H;exact absurd H (by simp)
            ·rw [if_neg w3] at H;exact absurd H (by simp)
           ·rw [if_neg w2] at H;exact absurd H (by simp)
          ·rw [if_neg v8] at H;exact absurd H (by simp)
         ·rw [if_neg o5] at H;have a4m:decide (f2<e4)=false:=decide_eq_false o5;clear o5
          by_cases w7:0≤f2
          ·rw [if_pos w7] at H;have b5a:decide (0≤f2)=true:=decide_eq_true w7;clear w7
           by_cases w8:f2<(d1.length:Int)
           ·rw [if_pos w8] at H;have b5b:decide (f2<(d1.length:Int))=true:=decide_eq_true w8;clear w8;obtain⟨a1s,z0⟩: ∃y_:List Int,y_=(d1.set (f2:Int).toNat d5):=⟨_,rfl⟩;replace H:(spec_l20Logic.l0 k3 a1 a1s (wrap64 (d5+1)) s0_0 k5 c4 b2)=some (r1,r2,r3):=zqy z0 H;have a5q:=zqm z0;clear z0;have H':=zqm H;clear H;have a1e:0≤(f2:Int):=zqo;have a1j:(f2:Int)<((d1.length:Int):Int):=zqo;obtain⟨k1,n8,a3k,a3p,a6y,b7y,a2d⟩:=Kd.R_form HO_6.out (by omega);(first|cases a3k|(injection a3k with ea_ en_ ec_;(first|subst ea_|(injection ea_ with ea_;subst ea_));subst ec_;clear en_));have GB135:=zqm a3p;have GG135:=zqm a2d;clear a3p a6y a2d;obtain⟨b4a,b3l⟩:=Kd.R_celln 0 HO_6.out (f2:Int) a1e a1j;replace a1e:=eq_true a1e;replace a1j:=eq_true a1j;have HP136:=Kd.R_putg HO_6.out (f2:Int) d5
            go_wp2_with (first|((with_reducible refine gate_store (t:=3) (p:=79) rfl ?_);refine store_event (t:=3) (p:=79) (v:=?vo_w137) (w1:=(wr.setCell ⟨k1,(f2:Int).toNat,none⟩ (.int .i64 d5))) ?hg ?ho ?hn ?hr ?_;(case ho=>rfl);(case hg=>rfl);(case hn=>rfl);(case hr=> exact zq18);intro a1q hw;have hg:wr.grownBy a1q (some k1):=(by rw [hw];exact HP136.2);have hp_:Kd.R (Kd.int .i64) 3 a1q w.heap.size (fun k_=>some k_≠(.slice e8 b2.length f1:Value).ownBlock) (.slice (some ⟨k1,0,none⟩) d1.length n8) a1s:=(by rw [hw,a5q.out];exact HP136.1);clear HP136;have c8:=zqm (hp_);replace HO_434000:=zqm (Kd.S_after (v:=(.slice (some ⟨k1,0,none⟩) d1.length n8)) (v1:=(.slice (some ⟨k1,0,none⟩) d1.length n8)) (ok:=(fun k_=>some k_≠(.slice e8 b2.length f1:Value).ownBlock)) zq75 hg (.inl rfl));replace HO_434001:=zqm (Kd.Q_after (v:=(.slice (some ⟨k1,0,none⟩) d1.length n8)) (v1:=(.slice (some ⟨k1,0,none⟩) d1.length n8)) (ok:=(fun _=>True)) zq116 hg (.inl rfl));replace a4:=zqm (blk_grown (g:=b1) (o:= .cells #[.slice none 0 0,.slice none 0 0] 68 (0,0)) (zqe a4.out) hg (Kd.R_ne HO_6.out a4.out (by decide)));replace a0:=zqm (blk_grown (g:=a8) (o:= .cells #[b8,.slice e8 b2.length f1] 68 (0,0)) (zqe a0.out) hg (Kd.R_ne HO_6.out a0.out (by decide)));replace a2:=zqm (IsS78.grown zq1 hg (IsS78.own_ne a2.out HO_6.out (by decide)));replace HB:=zqm ((by rw [hw];exact below_set (HB.out) (Nat.le_trans HL.out GB135.out):Below w0.heap.size w0 a1q));replace HK:=zqm (KeepBut.trans zq0 (KeepBut.of_grown hg g) (Kd.R_base2 HO_6.out));clear HO_6;have HO_6:=c8;clear c8 hg hw hp_))
            go_roundg k3
            (case measure=> exact zq123);case rel=>exact⟨(a1s),(wrap64 (d5+1)),(k5),(b2),(.slice e8 b2.length f1),zq15,H',⟨zq123⟩,⟨zqfR HO_6.out⟩,⟨zq75⟩,⟨zq113⟩,⟨zqe a4.out⟩,⟨zqe a0.out⟩,⟨zq1⟩,⟨zq0⟩,⟨zq3⟩⟩
           ·rw [if_neg w8] at H;exact absurd H (by simp)
          ·rw [if_neg w7] at H;exact absurd H (by simp)
      ·rw [if_neg v5] at H;exact absurd H (by simp)
     ·rw [if_neg o4] at H;have a4l:decide (d5<(b2.length:Int))=false:=decide_eq_false o4;clear o4;replace H:=Option.bind_eq_some_iff.mp H;obtain⟨⟨m7,e2⟩,a1w,H⟩:=H;replace H:(if m7=0 then((spec_l20Rename.f k2 c4 b2 h3).bind fun a3g=>(spec_l20Logic.j5 k2 a1 s0_0 e2 a3g.1 a3g.2)) else(spec_l20Logic.j5 k2 a1 s0_0 e2 c4 b2))=some (r1,r2,r3):=H;have a7n:=zqm a1w;clear a1w;have v4:=zqm H;clear H;have b5x:=c6.out;have b6v:=b3.out;have b5y:=c2.out;have b6w:=a6.out;have b0r:wr.cell? ⟨a8,0,none⟩=some (b8):=(blk_cell a0.out 0).trans rfl;have b0s:wr.cell? ⟨a8,1,none⟩=some (b9):=(blk_cell a0.out 1).trans rfl;have b1x:=blk_frozen a0.out 0;have b1y:=blk_frozen a0.out 1;obtain⟨h5,i4,a6l,_⟩:=Kd.Q_slice HO_434001.out;subst a6l
      go_upto_if 82 with (first|((with_reducible refine gate_callee (f:=45) rfl ?_);refine goesL_ (some 81) rfl rfl Tryd.func45 zqk rfl #[.pointer (some ⟨g,0,none⟩),.int .i64 2] rfl zq2 ?_;(with_reducible refine(spec_l20Rd_pick.calls k2 g s0_0 e7 2 m7 e2 w0 _ ?side1 ?side2 a7n.out).mono ?_);(case side1=> exact zq1);(case side2=> exact zq3);rintro e a5c ⟨rfl,hi,hb,hk⟩;refine⟨_,rfl,?_⟩;replace HO_6:=zqm (Kd.R_mono (Kd.R_keep (IsS78.apart (show IsS78 w0 _ g s0_0 e7 from zq1) (zqfR HO_6.out) (by decide)) hk (fun _ h=>h.2)) (fun _ h=>h.1));replace HO_434000:=zqm (Kd.S_mono (Kd.S_keep (IsS78.apartS (show IsS78 w0 _ g s0_0 e7 from zq1) (zqfS HO_434000.out) (by decide)) hk (fun _ h=>h.2)) (fun _ h=>h.1));replace HO_434001:=zqm (Kd.Q_mono (Kd.Q_keep (IsS78.apartQ (show IsS78 w0 _ g s0_0 e7 from zq1) (zqfQ HO_434001.out) (by decide)) hk (fun _ h=>h.2)) (fun _ h=>h.1));replace a4:=zqm (KeepBut.blk hk (g':=b1) (o:= .cells #[.slice none 0 0,.slice none 0 0] 68 (0,0)) (zqe a4.out) c7.out (by simp));replace a0:=zqm (KeepBut.blk hk (g':=a8) (o:= .cells #[b8,.slice h5 b2.length i4] 68 (0,0)) (zqe a0.out) c2.out (by simp));replace HK:=zqm (KeepBut.trans zq0 hk (.inl rfl));replace HB:=zqm (hb);replace a2:=zqm (hi);clear hb hk hi))
      (try simp only [Act.put,List.setIfInBounds_toArray,List.set_cons_zero,List.set_cons_succ])
      go_cut [] (fun wc=> ∃(kq:Nat) (a3:List (List Int)) (a5:List Int) (b8:Value) (b9:Value),Aside0 (spec_l20Logic.j5 kq a1 s0_0 e2 a3 a5=some (r1,r2,r3))∧Aside0 (kq≤k2)∧Aside0 (Kd.S (Kd.slice 3 (Kd.int .i64)) 66 wc w.heap.size (fun k_=>some k_≠(b9:Value).ownBlock) b8 a3)∧Aside0 (Kd.Q (Kd.int .i64) 3 wc w.heap.size (fun _=>True) b9 a5)∧Aside0 (wc.heap[b1]? =some (.cells #[(.slice none 0 0),(.slice none 0 0)] 68 (0,0)))∧Aside0 (wc.heap[a8]? =some (.cells #[b8,b9] 68 (0,0)))∧Aside0 (IsS78 w0 wc g s0_0 e2)∧Aside0 (KeepBut w wc g none)∧Aside0 (Below w0.heap.size w0 wc))
      case first=>
       have H:=v4.out;clear v4
       by_cases l6:m7=0
       ·rw [if_pos l6] at H;have k8:(m7==0)=true:=beq_iff_eq.mpr l6;have a4n:(m7 !=0)=false:=bne_eq_false_iff_eq.mpr l6;clear l6;(first|rw [k8]|(simp only [i64_w,i32_w];rw [k8])|skip);replace H:=Option.bind_eq_some_iff.mp H;obtain⟨⟨m8,p4⟩,a1x,H⟩:=H;replace H:(spec_l20Logic.j5 k2 a1 s0_0 e2 m8 p4)=some (r1,r2,r3):=H;have a7o:=zqm a1x;clear a1x;have H':=zqm H;clear H;have b5z:=c6.out;have b6x:=b3.out;have b6a:=c2.out;have b6y:=a6.out;have b0t:a5c.cell? ⟨a8,0,none⟩=some (b8):=(blk_cell a0.out 0).trans rfl;have b0u:a5c.cell? ⟨a8,1,none⟩=some (.slice h5 b2.length i4):=(blk_cell a0.out 1).trans rfl;have b1z:=blk_frozen a0.out 0;have b2a:=blk_frozen a0.out 1;obtain⟨p7,q4,a6m⟩:=Kd.S_slice HO_434000.out;subst a6m;obtain⟨a5j,a6e,a6n⟩:=Kd.R_slice HO_6.out;subst a6n
        go_wp2_with (first|((with_reducible refine gate_callee (f:=58) rfl ?_);refine goesL_ (some 85) rfl rfl Tryd.func58 zqk rfl #[.agg #[.slice p7 c4.length q4,.slice h5 b2.length i4],.slice a5j h3.length a6e] rfl zq2 ?_;(with_reducible refine(spec_l20Rename.calls k2 _ _ c4 _ _ b2 _ _ h3 m8 p4 _ ?side1 ?side2 ?side3 ?side4 ?side5 ?side6 a7o.out).mono ?_);(case side1=>repeat(first|exact(Kd.S_reads' HO_434000.out).2.2|(with_reducible refine Kd.C_alloc ?_ _)|(with_reducible refine Kd.C_drewN ?_ _)|(with_reducible refine Kd.C_drew ?_)));(case side2=>exact(Kd.S_reads' HO_434000.out).2.1);(case side3=>repeat(first|exact(Kd.Q_reads' HO_434001.out).2.2|(with_reducible refine Kd.C_alloc ?_ _)|(with_reducible refine Kd.C_drewN ?_ _)|(with_reducible refine Kd.C_drew ?_)));(case side4=>exact(Kd.Q_reads' HO_434001.out).2.1);(case side5=>repeat(first|exact(Kd.R_reads' HO_6.out).2.2|(with_reducible refine Kd.C_alloc ?_ _)|(with_reducible refine Kd.C_drewN ?_ _)|(with_reducible refine Kd.C_drew ?_)));(case side6=>exact(Kd.R_reads' HO_6.out).2.1);rintro e a5d ⟨c0m,c0n,rfl,c0,b6,hb⟩;refine⟨_,rfl,?_⟩;have c8:=zqm (Kd.R_elder' (zqfR HO_6.out) (Kd.R_base b6) hb);have d0:=zqm (Kd.S_mono (Kd.S_told (Kd.S_told (Kd.S_old (zqfS HO_434000.out) hb) (Kd.S_base c0)) (Kd.R_base b6)) (fun _ h_=>h_.1));have e6:=zqm (Kd.Q_elder' (zqfQ HO_434001.out) (Kd.R_base b6) hb);have a2v:=zqm (Kd.S_lower (Kd.S_new' (Kd.S_new' (Kd.S_new' c0 (Kd.R_lt (zqfR HO_6.out))) (Kd.S_lt (zqfS HO_434000.out))) (Kd.Q_lt (zqfQ HO_434001.out))) (keep_size (w:=w) (g:=g) (row:=none) zq0));have a2w:=zqm (Kd.R_lower (Kd.R_new' (Kd.R_new' b6 (Kd.R_lt (zqfR HO_6.out))) (Kd.Q_lt (zqfQ HO_434001.out))) (keep_size (w:=w) (g:=g) (row:=none) zq0));replace a4:=zqm (blk_below (g:=b1) (o:= .cells #[.slice none 0 0,.slice none 0 0] 68 (0,0)) (zqe a4.out) hb);replace a0:=zqm (blk_below (g:=a8) (o:= .cells #[.slice p7 c4.length q4,.slice h5 b2.length i4] 68 (0,0)) (zqe a0.out) hb);have n7_:=zqm (IsS78.below zq1 hb);replace HK:=zqm (KeepBut.trans zq0 (KeepBut.of_below hb g none) (.inl rfl));replace HB:=zqm (below_step zq3 hb);clear HO_6 HO_434000 HO_434001 a2;have HO_6:=c8;have HO_434000:=d0;have HO_434001:=e6;have a2:=n7_;clear c8 d0 e6 n7_ hb c0 b6;obtain⟨p8,q5,a6o⟩:=Kd.S_slice a2v.out;subst a6o;have b0v:a5d.cell? ⟨a8,0,none⟩=some (.slice p7 c4.length q4):=(blk_cell a0.out 0).trans rfl;have b0w:a5d.cell? ⟨a8,1,none⟩=some (.slice h5 b2.length i4):=(blk_cell a0.out 1).trans rfl;have b2b:=blk_frozen a0.out 0;have b2c:=blk_frozen a0.out 1;obtain⟨u3,x7,a6p⟩:=Kd.R_slice a2w.out;subst a6p))
        go_meet
        case rel=>exact⟨_,(m8),(p4),(.slice p8 m8.length q5),(.slice u3 p4.length x7),H',⟨by have:=t4.out;have:=t5.out;first|omega|exact Nat.le_refl _⟩,⟨by refine zqfS ?_;exact Kd.S_mono (Kd.S_far (p:=⟨a8,1,none⟩) (Kd.S_far (p:=⟨a8,0,none⟩) (Kd.S_types a2v.out a0.out (by decide)) (fun _ hk=>hk.2) (.slice p8 m8.length q5)) (fun _ hk=>hk.2) (.slice u3 p4.length x7)) (fun _ hk=>hk.1.1.1.1)⟩,⟨Kd.Q_of_R (by refine zqfR ?_;exact Kd.R_mono (Kd.R_far (p:=⟨a8,1,none⟩) (Kd.R_far (p:=⟨a8,0,none⟩) (Kd.R_types a2w.out a0.out (by decide)) (fun _ hk=>hk.2) (.slice p8 m8.length q5)) (fun _ hk=>hk.2) (.slice u3 p4.length x7)) (fun _ hk=>trivial))⟩,⟨zq41⟩,⟨by refine zqe ?_;refine blk_put (cs:= #[.slice p8 m8.length q5,.slice h5 b2.length i4]) ?_ 1 _ rfl;refine zqe ?_;refine blk_put (cs:= #[.slice p7 c4.length q4,.slice h5 b2.length i4]) ?_ 0 _ rfl;refine zqe ?_;exact a0.out⟩,⟨zq1⟩,⟨zq0⟩,⟨zq3⟩⟩
       ·rw [if_neg l6] at H;have k8:(m7==0)=false:=beq_eq_false_iff_ne.mpr l6;have a4n:(m7 !=0)=true:=bne_iff_ne.mpr l6;(first|rw [k8]|(simp only [i64_w,i32_w];rw [k8])|skip);have H':=zqm H;clear H
        go_wp2
        go_meet
        case rel=>exact⟨_,(c4),(b2),(b8),(.slice h5 b2.length i4),H',⟨by have:=t4.out;have:=t5.out;first|omega|exact Nat.le_refl _⟩,⟨by refine zqfS ?_;exact Kd.S_mono HO_434000.out (fun _ hk=>hk.2)⟩,⟨by refine zqfQ ?_;exact Kd.Q_mono HO_434001.out (fun _ hk=>trivial)⟩,⟨zqe a4.out⟩,⟨zqe a0.out⟩,⟨zq1⟩,⟨zq0⟩,⟨zq3⟩⟩
      case rest=>
       clear v4;obtain⟨kq,a3,a5,b8,b9,HA,b7s,HO_434000,HO_434001,a4,a0,a2,HK,HB⟩:=hcut
       cases kq with
       |zero=>exact absurd HA.out (by simp [spec_l20Logic.j5])
       |succ d4=>
        have H:=HA.out;clear HA;simp only [spec_l20Logic.j5] at H;replace H:=Option.bind_eq_some_iff.mp H;obtain⟨⟨a5a,e3⟩,a1y,H⟩:=H;replace H:(if a5a=true then((spec_l20Rd_pick.f d4 s0_0 e3 4).bind fun f0=>(if f0.1=0 then(some (([]:List (List Int)),([]:List Int),f0.2)) else(if f0.1=1 then(if 1≤(a5.length:Int) then(some (a3,(a5.drop (1:Int).toNat),f0.2)) else(none)) else(if f0.1=2 then((spec_l20Rd_pick.f d4 s0_0 f0.2 (a5.length:Int)).bind fun f4=>((spec_l20Rd_pick.f d4 s0_0 f4.2 (wrap64 ((a5.length:Int)+1))).bind fun g7=>(if 0≤f4.1 then(if f4.1<(a5.length:Int) then(some (a3,(a5.set (f4.1:Int).toNat g7.1),g7.2)) else(none)) else(none)))) else(if 0≤(wrap64 ((a3.length:Int) - 1)) then(if(wrap64 ((a3.length:Int) - 1))<(a3.length:Int) then(if 0<((rd_L5 a3 (wrap64 ((a3.length:Int) - 1))).length:Int) then(some ((a3.set ((wrap64 ((a3.length:Int) - 1)):Int).toNat ((rd_L5 a3 (wrap64 ((a3.length:Int) - 1))).set (0:Int).toNat 1)),a5,f0.2)) else(none)) else(none)) else(none)))))) else(some (a3,a5,e3)))=some (r1,r2,r3):=H;have o2:=zqm a1y;clear a1y
        by_cases w9:a5a=true
        ·subst w9;(have H1:((spec_l20Rd_pick.f d4 s0_0 e3 4).bind fun f0=>(if f0.1=0 then(some (([]:List (List Int)),([]:List Int),f0.2)) else(if f0.1=1 then(if 1≤(a5.length:Int) then(some (a3,(a5.drop (1:Int).toNat),f0.2)) else(none)) else(if f0.1=2 then((spec_l20Rd_pick.f d4 s0_0 f0.2 (a5.length:Int)).bind fun f4=>((spec_l20Rd_pick.f d4 s0_0 f4.2 (wrap64 ((a5.length:Int)+1))).bind fun g7=>(if 0≤f4.1 then(if f4.1<(a5.length:Int) then(some (a3,(a5.set (f4.1:Int).toNat g7.1),g7.2)) else(none)) else(none)))) else(if 0≤(wrap64 ((a3.length:Int) - 1)) then(if(wrap64 ((a3.length:Int) - 1))<(a3.length:Int) then(if 0<((rd_L5 a3 (wrap64 ((a3.length:Int) - 1))).length:Int) then(some ((a3.set ((wrap64 ((a3.length:Int) - 1)):Int).toNat ((rd_L5 a3 (wrap64 ((a3.length:Int) - 1))).set (0:Int).toNat 1)),a5,f0.2)) else(none)) else(none)) else(none))))))=some (r1,r2,r3):=by rw [if_pos rfl] at H;exact H);clear H;have H:=H1;clear H1;replace H:=Option.bind_eq_some_iff.mp H;obtain⟨⟨e0,g0⟩,a1z,H⟩:=H;replace H:(if e0=0 then(some (([]:List (List Int)),([]:List Int),g0)) else(if e0=1 then(if 1≤(a5.length:Int) then(some (a3,(a5.drop (1:Int).toNat),g0)) else(none)) else(if e0=2 then((spec_l20Rd_pick.f d4 s0_0 g0 (a5.length:Int)).bind fun f4=>((spec_l20Rd_pick.f d4 s0_0 f4.2 (wrap64 ((a5.length:Int)+1))).bind fun g7=>(if 0≤f4.1 then(if f4.1<(a5.length:Int) then(some (a3,(a5.set (f4.1:Int).toNat g7.1),g7.2)) else(none)) else(none)))) else(if 0≤(wrap64 ((a3.length:Int) - 1)) then(if(wrap64 ((a3.length:Int) - 1))<(a3.length:Int) then(if 0<((rd_L5 a3 (wrap64 ((a3.length:Int) - 1))).length:Int) then(some ((a3.set ((wrap64 ((a3.length:Int) - 1)):Int).toNat ((rd_L5 a3 (wrap64 ((a3.length:Int) - 1))).set (0:Int).toNat 1)),a5,g0)) else(none)) else(none)) else(none)))))=some (r1,r2,r3):=H;have r4:=zqm a1z;clear a1z
         by_cases l7:e0=0
         ·rw [if_pos l7] at H;have a4o:(e0==0)=true:=beq_iff_eq.mpr l7;have a4p:(e0 !=0)=false:=bne_eq_false_iff_eq.mpr l7;clear l7;simp only [Option.some.injEq,Prod.mk.injEq] at H;obtain⟨rfl,rfl,rfl⟩:=H
          go_wp2_with (first|((with_reducible refine gate_callee (f:=48) rfl ?_);refine goesL_ (some 88) rfl rfl Tryd.func48 zqk rfl #[.pointer (some ⟨g,0,none⟩),.int .i64 a1] rfl zq2 ?_;(with_reducible refine(spec_l20Rd_odd.calls d4 g s0_0 e2 a1 true e3 w0 _ ?side1 ?side2 o2.out).mono ?_);(case side1=> exact zq1);(case side2=> exact zq3);rintro e c0r ⟨rfl,hi,hb,hk⟩;refine⟨_,rfl,?_⟩;replace HO_434000:=zqm (Kd.S_mono (Kd.S_keep (IsS78.apartS (show IsS78 w0 _ g s0_0 e2 from zq1) (zqfS HO_434000.out) (by decide)) hk (fun _ h=>h.2)) (fun _ h=>h.1));replace HO_434001:=zqm (Kd.Q_mono (Kd.Q_keep (IsS78.apartQ (show IsS78 w0 _ g s0_0 e2 from zq1) (zqfQ HO_434001.out) (by decide)) hk (fun _ h=>h.2)) (fun _ h=>h.1));replace a4:=zqm (KeepBut.blk hk (g':=b1) (o:= .cells #[.slice none 0 0,.slice none 0 0] 68 (0,0)) (zqe a4.out) c7.out (by simp));replace a0:=zqm (KeepBut.blk hk (g':=a8) (o:= .cells #[b8,b9] 68 (0,0)) (zqe a0.out) c2.out (by simp));replace HK:=zqm (KeepBut.trans zq0 hk (.inl rfl));replace HB:=zqm (hb);replace a2:=zqm (hi);clear hb hk hi)|((with_reducible refine gate_callee (f:=45) rfl ?_);refine goesL_ (some 90) rfl rfl Tryd.func45 zqk rfl #[.pointer (some ⟨g,0,none⟩),.int .i64 4] rfl zq2 ?_;(with_reducible refine(spec_l20Rd_pick.calls d4 g s0_0 e3 4 e0 g0 w0 _ ?side1 ?side2 r4.out).mono ?_);(case side1=> exact zq1);(case side2=> exact zq3);rintro e a5e ⟨rfl,hi,hb,hk⟩;refine⟨_,rfl,?_⟩;replace HO_434000:=zqm (Kd.S_mono (Kd.S_keep (IsS78.apartS (show IsS78 w0 _ g s0_0 e3 from zq1) (zqfS HO_434000.out) (by decide)) hk (fun _ h=>h.2)) (fun _ h=>h.1));replace HO_434001:=zqm (Kd.Q_mono (Kd.Q_keep (IsS78.apartQ (show IsS78 w0 _ g s0_0 e3 from zq1) (zqfQ HO_434001.out) (by decide)) hk (fun _ h=>h.2)) (fun _ h=>h.1));replace a4:=zqm (KeepBut.blk hk (g':=b1) (o:= .cells #[.slice none 0 0,.slice none 0 0] 68 (0,0)) (zqe a4.out) c7.out (by simp));replace a0:=zqm (KeepBut.blk hk (g':=a8) (o:= .cells #[b8,b9] 68 (0,0)) (zqe a0.out) c2.out (by simp));replace HK:=zqm (KeepBut.trans zq0 hk (.inl rfl));replace HB:=zqm (hb);replace a2:=zqm (hi);clear hb hk hi;have b6b:=b3.out;have b6z:=c6.out;have b6c:=c7.out;have b7a:=a7.out;have b0x:a5e.cell? ⟨b1,0,none⟩=some (.slice none 0 0):=(blk_cell a4.out 0).trans rfl;have b0y:a5e.cell? ⟨b1,1,none⟩=some (.slice none 0 0):=(blk_cell a4.out 1).trans rfl;have b2d:=blk_frozen a4.out 0;have b2e:=blk_frozen a4.out 1))
          refine bodyPost_ret (results_cell_row rfl _ _ b1 68 #[.slice none 0 0,.slice none 0 0] (0,0) _ rfl (by refine zqe ?_;refine blk_put (cs:= #[.slice none 0 0,.slice none 0 0]) ?_ 1 _ rfl;refine zqe ?_;refine blk_put (cs:= #[.slice none 0 0,.slice none 0 0]) ?_ 0 _ rfl;refine zqe ?_;exact a4.out) Tryd.underlying68 rfl zqk) rfl ?_;exact⟨_,_,zq23,zq66,Kd.Q_of_R zq65,zq1,zq3,zq0⟩
         ·rw [if_neg l7] at H;have a4o:(e0==0)=false:=beq_eq_false_iff_ne.mpr l7;have a4p:(e0 !=0)=true:=bne_iff_ne.mpr l7
          by_cases l8:e0=1
          ·rw [if_pos l8] at H;have a4q:(e0==1)=true:=beq_iff_eq.mpr l8;have a4r:(e0 !=1)=false:=bne_eq_false_iff_eq.mpr l8;clear l8
           by_cases r6:1≤(a5.length:Int)
           ·rw [if_pos r6] at H;have b5c:=eq_true r6;have b5d:decide (1≤(a5.length:Int))=true:=decide_eq_true r6;clear r6;obtain⟨h4,z1⟩: ∃y_:List Int,y_=(a5.drop (1:Int).toNat):=⟨_,rfl⟩;replace H:(some (a3,h4,g0))=some (r1,r2,r3):=zqy z1 H;have a2y:=zqm z1;clear z1;simp only [Option.some.injEq,Prod.mk.injEq] at H;obtain⟨rfl,rfl,rfl⟩:=H
            go_wp2_with (first|((with_reducible refine gate_callee (f:=48) rfl ?_);refine goesL_ (some 88) rfl rfl Tryd.func48 zqk rfl #[.pointer (some ⟨g,0,none⟩),.int .i64 a1] rfl zq2 ?_;(with_reducible refine(spec_l20Rd_odd.calls d4 g s0_0 e2 a1 true e3 w0 _ ?side1 ?side2 o2.out).mono ?_);(case side1=> exact zq1);(case side2=> exact zq3);rintro e c0s ⟨rfl,hi,hb,hk⟩;refine⟨_,rfl,?_⟩;replace HO_434000:=zqm (Kd.S_mono (Kd.S_keep (IsS78.apartS (show IsS78 w0 _ g s0_0 e2 from zq1) (zqfS HO_434000.out) (by decide)) hk (fun _ h=>h.2)) (fun _ h=>h.1));replace HO_434001:=zqm (Kd.Q_mono (Kd.Q_keep (IsS78.apartQ (show IsS78 w0 _ g s0_0 e2 from zq1) (zqfQ HO_434001.out) (by decide)) hk (fun _ h=>h.2)) (fun _ h=>h.1));replace a4:=zqm (KeepBut.blk hk (g':=b1) (o:= .cells #[.slice none 0 0,.slice none 0 0] 68 (0,0)) (zqe a4.out) c7.out (by simp));replace a0:=zqm (KeepBut.blk hk (g':=a8) (o:= .cells #[b8,b9] 68 (0,0)) (zqe a0.out) c2.out (by simp));replace HK:=zqm (KeepBut.trans zq0 hk (.inl rfl));replace HB:=zqm (hb);replace a2:=zqm (hi);clear hb hk hi)|((with_reducible refine gate_callee (f:=45) rfl ?_);refine goesL_ (some 90) rfl rfl Tryd.func45 zqk rfl #[.pointer (some ⟨g,0,none⟩),.int .i64 4] rfl zq2 ?_;(with_reducible refine(spec_l20Rd_pick.calls d4 g s0_0 e3 4 e0 g0 w0 _ ?side1 ?side2 r4.out).mono ?_);(case side1=> exact zq1);(case side2=> exact zq3);rintro e t3 ⟨rfl,hi,hb,hk⟩;refine⟨_,rfl,?_⟩;replace HO_434000:=zqm (Kd.S_mono (Kd.S_keep (IsS78.apartS (show IsS78 w0 _ g s0_0 e3 from zq1) (zqfS HO_434000.out) (by decide)) hk (fun _ h=>h.2)) (fun _ h=>h.1));replace HO_434001:=zqm (Kd.Q_mono (Kd.Q_keep (IsS78.apartQ (show IsS78 w0 _ g s0_0 e3 from zq1) (zqfQ HO_434001.out) (by decide)) hk (fun _ h=>h.2)) (fun _ h=>h.1));replace a4:=zqm (KeepBut.blk hk (g':=b1) (o:= .cells #[.slice none 0 0,.slice none 0 0] 68 (0,0)) (zqe a4.out) c7.out (by simp));replace a0:=zqm (KeepBut.blk hk (g':=a8) (o:= .cells #[b8,b9] 68 (0,0)) (zqe a0.out) c2.out (by simp));replace HK:=zqm (KeepBut.trans zq0 hk (.inl rfl));replace HB:=zqm (hb);replace a2:=zqm (hi);clear hb hk hi;have b6d:=c6.out;have b7b:=b3.out;have b6e:=c2.out;have b7c:=a6.out;have b0z:t3.cell? ⟨a8,0,none⟩=some (b8):=(blk_cell a0.out 0).trans rfl;have b1a:t3.cell? ⟨a8,1,none⟩=some (b9):=(blk_cell a0.out 1).trans rfl;have b2f:=blk_frozen a0.out 0;have b2g:=blk_frozen a0.out 1;obtain⟨m9,q6,a6q,_⟩:=Kd.Q_slice HO_434001.out;subst a6q;have a1k:(1:Int)≤((a5.length:Int):Int):=zqo;obtain⟨i0173,a0p,_,hsz173,_⟩:=info_parts info3;have hcut173:=cut_from (P:=Tryd.prog) 66 3 .i64 Tryd.underlying66 a0p 1 hsz173 m9 a5.length q6 1 (by omega) a1k;have hr173:=Kd.Q_drop (k:=(1:Int).toNat) HO_434001.out (by omega);obtain⟨k7,hA173⟩: ∃A1,A1=(if q6=(1:Int).toNat then m9 else(m9:Option Addr).map (·.add ((1:Int).toNat*1))):=⟨_,rfl⟩;obtain⟨k9,hc173⟩: ∃c1,c1=q6 - (1:Int).toNat:=⟨_,rfl⟩;have y6:h4.length=a5.length - (1:Int).toNat:=(by rw [a2y.out,List.length_drop]);rw [← a2y.out] at hr173;rw [← y6,← hA173,← hc173] at hcut173;replace hr173:Kd.Q (Kd.int .i64) 3 t3 w.heap.size (fun _=>True) (.slice k7 h4.length k9) h4:=(by rw [hA173,hc173,y6];exact hr173);have a5k:Aside0 ((Value.slice k7 h4.length k9).ownBlock=(.slice m9 a5.length q6:Value).ownBlock):=⟨by rw [hA173];split <;> (cases (m9:Option Addr) <;> rfl)⟩;clear y6 a0p hsz173 HO_434001 hA173 hc173;have a5n:=zqm hr173;clear hr173;replace a1k:=eq_true a1k;have n_:=zqm (Kd.S_mono (ok':=fun k_=>some k_≠(.slice k7 h4.length k9:Value).ownBlock) HO_434000.out (fun k_ hk=>(by rw [a5k.out];exact hk)));clear HO_434000;have HO_434000:=n_;clear n_;obtain⟨p9,q7,a6r⟩:=Kd.S_slice HO_434000.out;subst a6r;have b6f:=c7.out;have b7d:=a7.out;have b1b:t3.cell? ⟨b1,0,none⟩=some (.slice none 0 0):=(blk_cell a4.out 0).trans rfl;have b1c:t3.cell? ⟨b1,1,none⟩=some (.slice none 0 0):=(blk_cell a4.out 1).trans rfl;have b2h:=blk_frozen a4.out 0;have b2i:=blk_frozen a4.out 1))
            refine bodyPost_ret (results_cell_row rfl _ _ b1 68 #[.slice p9 a3.length q7,.slice k7 h4.length k9] (0,0) _ rfl (by refine zqe ?_;refine blk_put (cs:= #[.slice p9 a3.length q7,.slice none 0 0]) ?_ 1 _ rfl;refine zqe ?_;refine blk_put (cs:= #[.slice none 0 0,.slice none 0 0]) ?_ 0 _ rfl;refine zqe ?_;refine blk_far ?_ b3.out _;refine zqe ?_;exact a4.out) Tryd.underlying68 rfl zqk) rfl ?_;exact⟨_,_,zq23,by refine zqfS ?_;exact Kd.S_mono (Kd.S_far (p:=⟨b1,1,none⟩) (Kd.S_far (p:=⟨b1,0,none⟩) (Kd.S_far (p:=⟨a8,1,none⟩) (Kd.S_types (Kd.S_types HO_434000.out a0.out (by decide)) a4.out (by decide)) (fun _ hk=>hk.1.2) (.slice k7 h4.length k9)) (fun _ hk=>hk.2) (.slice p9 a3.length q7)) (fun _ hk=>hk.2) (.slice k7 h4.length k9)) (fun _ hk=>hk.1.1),by refine zqfQ ?_;exact Kd.Q_mono (Kd.Q_far (p:=⟨b1,1,none⟩) (Kd.Q_far (p:=⟨b1,0,none⟩) (Kd.Q_far (p:=⟨a8,1,none⟩) (Kd.Q_types (Kd.Q_types a5n.out a0.out (by decide)) a4.out (by decide)) (fun _ hk=>hk.1.2) (.slice k7 h4.length k9)) (fun _ hk=>hk.2) (.slice p9 a3.length q7)) (fun _ hk=>hk.2) (.slice k7 h4.length k9)) (fun _ hk=>trivial),zq1,zq3,zq0⟩
           ·rw [if_neg r6] at H;exact absurd H (by simp)
          ·rw [if_neg l8] at H;have a4q:(e0==1)=false:=beq_eq_false_iff_ne.mpr l8;have a4r:(e0 !=1)=true:=bne_iff_ne.mpr l8
           by_cases l9:e0=2
           ·rw [if_pos l9] at H;have a4s:(e0==2)=true:=beq_iff_eq.mpr l9;have a4t:(e0 !=2)=false:=bne_eq_false_iff_eq.mpr l9;clear l9;replace H:=Option.bind_eq_some_iff.mp H;obtain⟨⟨d3,t2⟩,a2a,H⟩:=H;replace H:((spec_l20Rd_pick.f d4 s0_0 t2 (wrap64 ((a5.length:Int)+1))).bind fun g7=>(if 0≤d3 then(if d3<(a5.length:Int) then(some (a3,(a5.set (d3:Int).toNat g7.1),g7.2)) else(none)) else(none)))=some (r1,r2,r3):=H;have a7p:=zqm a2a;clear a2a;replace H:=Option.bind_eq_some_iff.mp H;obtain⟨⟨g9,a0j⟩,a2b,H⟩:=H;replace H:(if 0≤d3 then(if d3<(a5.length:Int) then(some (a3,(a5.set (d3:Int).toNat g9),a0j)) else(none)) else(none))=some (r1,r2,r3):=H;have a7q:=zqm a2b;clear a2b
            by_cases x0:0≤d3
            ·rw [if_pos x0] at H;have b5e:decide (0≤d3)=true:=decide_eq_true x0;clear x0
             by_cases x1:d3<(a5.length:Int)
             ·rw [if_pos x1] at H;have b5f:decide (d3<(a5.length:Int))=true:=decide_eq_true x1;clear x1;obtain⟨a5h,z2⟩: ∃y_:List Int,y_=(a5.set (d3:Int).toNat g9):=⟨_,rfl⟩;replace H:(some (a3,a5h,a0j))=some (r1,r2,r3):=zqy z2 H;have a5r:=zqm z2;clear z2;simp only [Option.some.injEq,Prod.mk.injEq] at H;obtain⟨rfl,rfl,rfl⟩:=H;(try go_wp2_with (first|((with_reducible refine gate_callee (f:=48) rfl ?_);refine goesL_ (some 88) rfl rfl Tryd.func48 zqk rfl #[.pointer (some ⟨g,0,none⟩),.int .i64 a1] rfl zq2 ?_;(with_reducible refine(spec_l20Rd_odd.calls d4 g s0_0 e2 a1 true e3 w0 _ ?side1 ?side2 o2.out).mono ?_);(case side1=> exact zq1);(case side2=> exact zq3);rintro e c0t ⟨rfl,hi,hb,hk⟩;refine⟨_,rfl,?_⟩;replace HO_434000:=zqm (Kd.S_mono (Kd.S_keep (IsS78.apartS (show IsS78 w0 _ g s0_0 e2 from zq1) (zqfS HO_434000.out) (by decide)) hk (fun _ h=>h.2)) (fun _ h=>h.1));replace HO_434001:=zqm (Kd.Q_mono (Kd.Q_keep (IsS78.apartQ (show IsS78 w0 _ g s0_0 e2 from zq1) (zqfQ HO_434001.out) (by decide)) hk (fun _ h=>h.2)) (fun _ h=>h.1));replace a4:=zqm (KeepBut.blk hk (g':=b1) (o:= .cells #[.slice none 0 0,.slice none 0 0] 68 (0,0)) (zqe a4.out) c7.out (by simp));replace a0:=zqm (KeepBut.blk hk (g':=a8) (o:= .cells #[b8,b9] 68 (0,0)) (zqe a0.out) c2.out (by simp));replace HK:=zqm (KeepBut.trans zq0 hk (.inl rfl));replace HB:=zqm (hb);replace a2:=zqm (hi);clear hb hk hi)|((with_reducible refine gate_callee (f:=45) rfl ?_);refine goesL_ (some 90) rfl rfl Tryd.func45 zqk rfl #[.pointer (some ⟨g,0,none⟩),.int .i64 4] rfl zq2 ?_;(with_reducible refine(spec_l20Rd_pick.calls d4 g s0_0 e3 4 e0 g0 w0 _ ?side1 ?side2 r4.out).mono ?_);(case side1=> exact zq1);(case side2=> exact zq3);rintro e b2x ⟨rfl,hi,hb,hk⟩;refine⟨_,rfl,?_⟩;replace HO_434000:=zqm (Kd.S_mono (Kd.S_keep (IsS78.apartS (show IsS78 w0 _ g s0_0 e3 from zq1) (zqfS HO_434000.out) (by decide)) hk (fun _ h=>h.2)) (fun _ h=>h.1));replace HO_434001:=zqm (Kd.Q_mono (Kd.Q_keep (IsS78.apartQ (show IsS78 w0 _ g s0_0 e3 from zq1) (zqfQ HO_434001.out) (by decide)) hk (fun _ h=>h.2)) (fun _ h=>h.1));replace a4:=zqm (KeepBut.blk hk (g':=b1) (o:= .cells #[.slice none 0 0,.slice none 0 0] 68 (0,0)) (zqe a4.out) c7.out (by simp));replace a0:=zqm (KeepBut.blk hk (g':=a8) (o:= .cells #[b8,b9] 68 (0,0)) (zqe a0.out) c2.out (by simp));replace HK:=zqm (KeepBut.trans zq0 hk (.inl rfl));replace HB:=zqm (hb);replace a2:=zqm (hi);clear hb hk hi)));replace HO_434000:=zqm (Kd.S_drew HO_434000.out);replace HO_434001:=zqm (Kd.Q_drew HO_434001.out);replace a4:=zqm (blk_drew a4.out);replace a0:=zqm (blk_drew a0.out);replace a2:=zqm (IsS78.drew a2.out);replace HK:=zqm (keep_drew HK.out);replace HB:=zqm (below_drew1 HB.out);obtain⟨u5,h0,a3m,_⟩:=Kd.Q_slice HO_434001.out;(first|subst a3m|(injection a3m with f1_ f2_ f3_;have f4_:=f1_.symm;have f5_:=f3_.symm;clear f1_ f2_ f3_;subst f4_;subst f5_))
              refine start_ (n:=15) (S:=fun w'=>w'.cell? ⟨a8,0,none⟩=some (b8)∧w'.cell? ⟨a8,1,none⟩=some (.slice u5 a5.length h0)) (ds:= [14]) (zqb 15 0) zqk rfl rfl ⟨(blk_cell a0.out 0).trans rfl,(blk_cell a0.out 1).trans rfl⟩ (fun hHeld=>?_);refine with_tabW spec_l20Logic.tab39 spec_l20Logic.bits39 (fun HT_ HW_=>?_);generalize b2x.drew=c0u at HO_434000 HO_434001 a4 a0 a2 HK HB hHeld ⊢;refine zqp 0 111 (zqb 15 1) HT_ ?_;refine zqp 2 113 (zqb 15 5) HT_ ?_;refine zqp 3 114 (zqb 15 13) HT_ ?_;refine zqp 7 118 (zqb 15 141) HT_ ?_;refine zqp 8 119 (zqb 15 397) HT_ ?_;refine zqw 1 112 (zqb 15 399) HT_ HW_ hHeld ?_;refine zqw 4 115 (zqb 15 415) HT_ HW_ hHeld ?_;refine zqp 5 116 (zqb 15 447) HT_ ?_;refine zqw 9 120 (zqb 15 959) HT_ HW_ hHeld ?_;refine zqp 10 121 (zqb 15 1983) HT_ ?_;refine zqp 11 122 (zqb 15 4031) HT_ ?_;refine one_ (i:=6) (N:=some 117) (zqb 15 4095) rfl rfl (one_of HT_.out zqk) (by decide) (fun K hK=>?_);refine goes_ Tryd.func45 zqk rfl #[.pointer (some ⟨g,0,none⟩),.int .i64 (a5.length:Int)] (by rfl) rfl rfl zq2 ?_;(with_reducible refine(spec_l20Rd_pick.calls d4 g s0_0 g0 (a5.length:Int) d3 t2 w0 _ ?side1 ?side2 a7p.out).mono ?_);(case side1=> exact zq1);(case side2=> exact zq3);rintro e c0v ⟨rfl,hi,hb,hk⟩;refine⟨_,rfl,?_⟩;replace HO_434000:=zqm (Kd.S_mono (Kd.S_keep (IsS78.apartS (show IsS78 w0 _ g s0_0 g0 from zq1) (zqfS HO_434000.out) (by decide)) hk (fun _ h=>h.2)) (fun _ h=>h.1));replace HO_434001:=zqm (Kd.Q_mono (Kd.Q_keep (IsS78.apartQ (show IsS78 w0 _ g s0_0 g0 from zq1) (zqfQ HO_434001.out) (by decide)) hk (fun _ h=>h.2)) (fun _ h=>h.1));replace a4:=zqm (KeepBut.blk hk (g':=b1) (o:= .cells #[.slice none 0 0,.slice none 0 0] 68 (0,0)) (zqe a4.out) c7.out (by simp));replace a0:=zqm (KeepBut.blk hk (g':=a8) (o:= .cells #[b8,.slice u5 a5.length h0] 68 (0,0)) (zqe a0.out) c2.out (by simp));replace HK:=zqm (KeepBut.trans zq0 hk (.inl rfl));replace HB:=zqm (hb);replace a2:=zqm (hi);clear hb hk hi;refine hK.out _ _ ⟨(blk_cell a0.out 0).trans rfl,(blk_cell a0.out 1).trans rfl⟩ (fun hHeld=>?_);clear hK K;refine norm_ (a':=?_) ?_ ?_;rotate_left
              ·show Act.put _ (some 117) _=_;exact zqs
              refine one_ (i:=12) (N:=some 123) (zqb 15 8191) rfl rfl (one_of HT_.out zqk) (by decide) (fun K hK=>?_);refine goes_ Tryd.func45 zqk rfl #[.pointer (some ⟨g,0,none⟩),.int .i64 (wrap64 ((a5.length:Int)+1))] (by rfl) rfl rfl zq2 ?_;(with_reducible refine(spec_l20Rd_pick.calls d4 g s0_0 t2 (wrap64 ((a5.length:Int)+1)) g9 a0j w0 _ ?side1 ?side2 a7q.out).mono ?_);(case side1=> exact zq1);(case side2=> exact zq3);rintro e l3 ⟨rfl,hi,hb,hk⟩;refine⟨_,rfl,?_⟩;replace HO_434000:=zqm (Kd.S_mono (Kd.S_keep (IsS78.apartS (show IsS78 w0 _ g s0_0 t2 from zq1) (zqfS HO_434000.out) (by decide)) hk (fun _ h=>h.2)) (fun _ h=>h.1));replace HO_434001:=zqm (Kd.Q_mono (Kd.Q_keep (IsS78.apartQ (show IsS78 w0 _ g s0_0 t2 from zq1) (zqfQ HO_434001.out) (by decide)) hk (fun _ h=>h.2)) (fun _ h=>h.1));replace a4:=zqm (KeepBut.blk hk (g':=b1) (o:= .cells #[.slice none 0 0,.slice none 0 0] 68 (0,0)) (zqe a4.out) c7.out (by simp));replace a0:=zqm (KeepBut.blk hk (g':=a8) (o:= .cells #[b8,.slice u5 a5.length h0] 68 (0,0)) (zqe a0.out) c2.out (by simp));replace HK:=zqm (KeepBut.trans zq0 hk (.inl rfl));replace HB:=zqm (hb);replace a2:=zqm (hi);clear hb hk hi;have a1f:0≤(d3:Int):=zqo;have a1l:(d3:Int)<((a5.length:Int):Int):=zqo;obtain⟨d9,e5,b8c,a3l,a3q,a6z,b7z,a2e⟩:=Kd.Q_form HO_434001.out (by omega);(first|cases a3l|(injection a3l with ea_ en_ ec_;(first|subst ea_|(injection ea_ with ea_;subst ea_));subst ec_;clear en_));have GB182:=zqm a3q;have GG182:=zqm a2e;clear a3q a6z a2e;obtain⟨b4b,b3m⟩:=Kd.Q_cell 0 HO_434001.out (d3:Int) a1f a1l;replace a1f:=eq_true a1f;replace a1l:=eq_true a1l;have HN0_go182:=zqm (show g≠d9 from by have h_:=IsS78.own_neQ a2.out HO_434001.out (by decide);intro e_;exact h_ (by rw [e_];rfl));have HP189:=(Kd.Q_putg HO_434001.out (d3:Int) (zqo) (by have h_:(d3:Int)<((a5.length:Int):Int):=zqo;first|exact h_|(have e_:=(Kd.Q_reads' HO_434001.out).1;omega)|simpa using h_) g9).1;rw [← a5r.out] at HP189;have HQ189:=zqm HP189;clear HP189;refine hK.out _ _ ⟨(blk_cell a0.out 0).trans rfl,(blk_cell a0.out 1).trans rfl⟩ (fun hHeld=>?_);clear hK K;refine norm_ (a':=?_) ?_ ?_;rotate_left
              ·show Act.put _ (some 123) _=_;exact zqs
              refine zqp 13 124 (zqb 15 16383) HT_ ?_;refine last_ (i:=14) (N:=none) (zqb 15 32767) rfl rfl (one_of HT_.out zqk) (by decide) (fun K hK=>?_);refine skip_ (w1:=?_) (by rfl) rfl ?_ ?_;rotate_left
              ·go_simp;rfl
              refine hK.out _ _ ?_;clear hK K;refine done_ (done_of HT_.out zqk) ?_;have c8:Aside0 (Kd.S (Kd.slice 3 (Kd.int .i64)) 66 (l3.setCell ⟨d9,e5+(d3:Int).toNat,none⟩ (.int .i64 g9)) w.heap.size (fun k_=>some k_≠(.slice (some ⟨d9,e5,none⟩) a5.length h0:Value).ownBlock) b8 a3):=⟨by refine zqfS ?_;exact Kd.S_mono (Kd.S_far (p:=⟨d9,e5+(d3:Int).toNat,none⟩) (Kd.S_mono HO_434000.out (fun k_ hk=>(⟨hk,fun e_=>hk (by rw [e_];rfl)⟩:_∧k_≠d9))) (fun _ hk=>hk.2) (.int .i64 g9)) (fun _ hk=>hk.1)⟩;have d0:Aside0 (Kd.Q (Kd.int .i64) 3 (l3.setCell ⟨d9,e5+(d3:Int).toNat,none⟩ (.int .i64 g9)) w.heap.size (fun _=>True) (.slice (some ⟨d9,e5,none⟩) a5.length h0) a5h):=⟨zqfQ HQ189.out⟩;have e6:Aside0 ((l3.setCell ⟨d9,e5+(d3:Int).toNat,none⟩ (.int .i64 g9)).heap[b1]? =some (.cells #[.slice none 0 0,.slice none 0 0] 68 (0,0))):=⟨by refine zqe ?_;refine blk_far ?_ (by have h_:=Kd.Q_ne HO_434001.out a4.out (by decide);intro e_;exact h_ (by rw [e_];rfl)) _;refine zqe ?_;exact a4.out⟩;have f9:Aside0 ((l3.setCell ⟨d9,e5+(d3:Int).toNat,none⟩ (.int .i64 g9)).heap[a8]? =some (.cells #[b8,.slice (some ⟨d9,e5,none⟩) a5.length h0] 68 (0,0))):=⟨by refine zqe ?_;refine blk_far ?_ (by have h_:=Kd.Q_ne HO_434001.out a0.out (by decide);intro e_;exact h_ (by rw [e_];rfl)) _;refine zqe ?_;exact a0.out⟩;have d6:Aside0 (IsS78 w0 (l3.setCell ⟨d9,e5+(d3:Int).toNat,none⟩ (.int .i64 g9)) g s0_0 a0j):=⟨by repeat(first|(with_reducible first|exact a2.out|apply IsS78.alloc|apply IsS78.drewN|apply IsS78.drew|apply IsS78.set_1|refine IsS78.far ?_ HN0_go182.out _|refine IsS78.far ?_ a7.out _|refine IsS78.far ?_ a6.out _)|exact a2.out)⟩;have k6:Aside0 (KeepBut w (l3.setCell ⟨d9,e5+(d3:Int).toNat,none⟩ (.int .i64 g9)) g none):=⟨by repeat(first|(with_reducible first|exact HK.out|apply KeepBut.set_|apply keep_drewN|apply keep_drew|apply keep_alloc|refine keep_far ?_ GB182.out _|refine keep_far ?_ a9.out _|refine keep_far ?_ b0.out _)|exact HK.out)⟩;have g8:Aside0 (Below w0.heap.size w0 (l3.setCell ⟨d9,e5+(d3:Int).toNat,none⟩ (.int .i64 g9))):=⟨by repeat(first|(with_reducible first|exact HB.out|apply below_alloc|apply pw_below_drewN|apply below_drew1|refine below_set ?_ (Nat.le_trans HL.out GB182.out)|refine below_set ?_ (IsS78.ge a2.out)|refine below_set ?_ b4.out|refine below_set ?_ b5.out)|exact HB.out)⟩;generalize (l3.setCell ⟨d9,e5+(d3:Int).toNat,none⟩ (.int .i64 g9))=a0k at c8 d0 e6 f9 d6 k6 g8 ⊢;have HO_434000:=c8;have HO_434001:=d0;have a4:=e6;have a0:=f9;have a2:=d6;have HK:=k6;have HB:=g8;clear c8 d0 e6 f9 d6 k6 g8;have b6g:=c6.out;have b7e:=b3.out;have b6h:=c2.out;have b7f:=a6.out;have b1d:a0k.cell? ⟨a8,0,none⟩=some (b8):=(blk_cell a0.out 0).trans rfl;have b1e:a0k.cell? ⟨a8,1,none⟩=some (.slice (some ⟨d9,e5,none⟩) a5.length h0):=(blk_cell a0.out 1).trans rfl;have b2j:=blk_frozen a0.out 0;have b2k:=blk_frozen a0.out 1;obtain⟨q0,q8,a6s⟩:=Kd.S_slice HO_434000.out;subst a6s;have b6i:=c7.out;have b7g:=a7.out;have b1f:a0k.cell? ⟨b1,0,none⟩=some (.slice none 0 0):=(blk_cell a4.out 0).trans rfl;have b1g:a0k.cell? ⟨b1,1,none⟩=some (.slice none 0 0):=(blk_cell a4.out 1).trans rfl;have b2l:=blk_frozen a4.out 0;have b2m:=blk_frozen a4.out 1;(try go_wp2);refine bodyPost_ret (results_cell_row rfl _ _ b1 68 #[.slice q0 a3.length q8,.slice (some ⟨d9,e5,none⟩) a5.length h0] (0,0) _ rfl (by refine zqe ?_;refine blk_put (cs:= #[.slice q0 a3.length q8,.slice none 0 0]) ?_ 1 _ rfl;refine zqe ?_;refine blk_put (cs:= #[.slice none 0 0,.slice none 0 0]) ?_ 0 _ rfl;refine zqe ?_;exact a4.out) Tryd.underlying68 rfl zqk) rfl ?_;exact⟨_,_,zq23,by refine zqfS ?_;exact Kd.S_mono (Kd.S_far (p:=⟨b1,1,none⟩) (Kd.S_far (p:=⟨b1,0,none⟩) (Kd.S_types HO_434000.out a4.out (by decide)) (fun _ hk=>hk.2) (.slice q0 a3.length q8)) (fun _ hk=>hk.2) (.slice (some ⟨d9,e5,none⟩) a5.length h0)) (fun _ hk=>hk.1),by refine zqfQ ?_;exact Kd.Q_mono (Kd.Q_far (p:=⟨b1,1,none⟩) (Kd.Q_far (p:=⟨b1,0,none⟩) (Kd.Q_types HO_434001.out a4.out (by decide)) (fun _ hk=>hk.2) (.slice q0 a3.length q8)) (fun _ hk=>hk.2) (.slice (some ⟨d9,e5,none⟩) a5.length h0)) (fun _ hk=>trivial),zq1,zq3,zq0⟩
             ·rw [if_neg x1] at H;exact absurd H (by simp)
            ·rw [if_neg x0] at H;exact absurd H (by simp)
           ·rw [if_neg l9] at H;have a4s:(e0==2)=false:=beq_eq_false_iff_ne.mpr l9;have a4t:(e0 !=2)=true:=bne_iff_ne.mpr l9;obtain⟨c9,i5⟩: ∃j_:Int,(wrap64 ((a3.length:Int) - 1))=j_:=⟨_,rfl⟩;(replace H:(if 0≤(c9) then(if(c9)<(a3.length:Int) then(if 0<((rd_L5 a3 (c9)).length:Int) then(some ((a3.set ((c9):Int).toNat ((rd_L5 a3 (c9)).set (0:Int).toNat 1)),a5,g0)) else(none)) else(none)) else(none))=some (r1,r2,r3):=by first|(rw [i5] at H;exact H)|(simp only [i5] at H ⊢;exact H));(try rw [i5] at o2);(try rw [i5] at r4);have b3y:(IntKind.i64.wrap ((a3.length:Int) - 1))=c9:=(i64_w _).trans i5
            by_cases x2:0≤(c9)
            ·rw [if_pos x2] at H;have b5g:decide (0≤(c9))=true:=decide_eq_true x2;clear x2
             by_cases x3:(c9)<(a3.length:Int)
             ·rw [if_pos x3] at H;have b5h:decide ((c9)<(a3.length:Int))=true:=decide_eq_true x3;clear x3
              by_cases x4:0<((rd_L5 a3 (c9)).length:Int)
              ·rw [if_pos x4] at H;have b5i:decide (0<((rd_L5 a3 (c9)).length:Int))=true:=decide_eq_true x4;have b5j:decide (0<(rd_L5 a3 (c9)).length)=true:=decide_eq_true (by omega);clear x4;obtain⟨a1t,z3⟩: ∃y_:List Int,y_=((rd_L5 a3 (c9)).set (0:Int).toNat 1):=⟨_,rfl⟩;replace H:(some ((a3.set ((c9):Int).toNat a1t),a5,g0))=some (r1,r2,r3):=zqy z3 H;have a5s:=zqm z3;clear z3;obtain⟨a5i,z4⟩: ∃y_:List (List Int),y_=(a3.set ((c9):Int).toNat a1t):=⟨_,rfl⟩;replace H:(some (a5i,a5,g0))=some (r1,r2,r3):=zqy z4 H;have a5t:=zqm z4;clear z4;simp only [Option.some.injEq,Prod.mk.injEq] at H;obtain⟨rfl,rfl,rfl⟩:=H
               go_wp2_with (first|((with_reducible refine gate_callee (f:=48) rfl ?_);refine goesL_ (some 88) rfl rfl Tryd.func48 zqk rfl #[.pointer (some ⟨g,0,none⟩),.int .i64 a1] rfl zq2 ?_;(with_reducible refine(spec_l20Rd_odd.calls d4 g s0_0 e2 a1 true e3 w0 _ ?side1 ?side2 o2.out).mono ?_);(case side1=> exact zq1);(case side2=> exact zq3);rintro e c0w ⟨rfl,hi,hb,hk⟩;refine⟨_,rfl,?_⟩;replace HO_434000:=zqm (Kd.S_mono (Kd.S_keep (IsS78.apartS (show IsS78 w0 _ g s0_0 e2 from zq1) (zqfS HO_434000.out) (by decide)) hk (fun _ h=>h.2)) (fun _ h=>h.1));replace HO_434001:=zqm (Kd.Q_mono (Kd.Q_keep (IsS78.apartQ (show IsS78 w0 _ g s0_0 e2 from zq1) (zqfQ HO_434001.out) (by decide)) hk (fun _ h=>h.2)) (fun _ h=>h.1));replace a4:=zqm (KeepBut.blk hk (g':=b1) (o:= .cells #[.slice none 0 0,.slice none 0 0] 68 (0,0)) (zqe a4.out) c7.out (by simp));replace a0:=zqm (KeepBut.blk hk (g':=a8) (o:= .cells #[b8,b9] 68 (0,0)) (zqe a0.out) c2.out (by simp));replace HK:=zqm (KeepBut.trans zq0 hk (.inl rfl));replace HB:=zqm (hb);replace a2:=zqm (hi);clear hb hk hi)|((with_reducible refine gate_callee (f:=45) rfl ?_);refine goesL_ (some 90) rfl rfl Tryd.func45 zqk rfl #[.pointer (some ⟨g,0,none⟩),.int .i64 4] rfl zq2 ?_;(with_reducible refine(spec_l20Rd_pick.calls d4 g s0_0 e3 4 e0 g0 w0 _ ?side1 ?side2 r4.out).mono ?_);(case side1=> exact zq1);(case side2=> exact zq3);rintro e a0l ⟨rfl,hi,hb,hk⟩;refine⟨_,rfl,?_⟩;replace HO_434000:=zqm (Kd.S_mono (Kd.S_keep (IsS78.apartS (show IsS78 w0 _ g s0_0 e3 from zq1) (zqfS HO_434000.out) (by decide)) hk (fun _ h=>h.2)) (fun _ h=>h.1));replace HO_434001:=zqm (Kd.Q_mono (Kd.Q_keep (IsS78.apartQ (show IsS78 w0 _ g s0_0 e3 from zq1) (zqfQ HO_434001.out) (by decide)) hk (fun _ h=>h.2)) (fun _ h=>h.1));replace a4:=zqm (KeepBut.blk hk (g':=b1) (o:= .cells #[.slice none 0 0,.slice none 0 0] 68 (0,0)) (zqe a4.out) c7.out (by simp));replace a0:=zqm (KeepBut.blk hk (g':=a8) (o:= .cells #[b8,b9] 68 (0,0)) (zqe a0.out) c2.out (by simp));replace HK:=zqm (KeepBut.trans zq0 hk (.inl rfl));replace HB:=zqm (hb);replace a2:=zqm (hi);clear hb hk hi;have b6j:=c6.out;have b7h:=b3.out;have b6k:=c2.out;have b7i:=a6.out;have b1h:a0l.cell? ⟨a8,0,none⟩=some (b8):=(blk_cell a0.out 0).trans rfl;have b1i:a0l.cell? ⟨a8,1,none⟩=some (b9):=(blk_cell a0.out 1).trans rfl;have b2n:=blk_frozen a0.out 0;have b2o:=blk_frozen a0.out 1;obtain⟨b7q,j9,a6t⟩:=Kd.S_slice HO_434000.out;subst a6t;have z5:0≤((c9):Int):=zqo;have z6:(c9)<(a3.length:Int):=zqo;obtain⟨j7,b4m,a4u,a9g,u0,t8,t7⟩:=at_L5 (Kd.S_reads' HO_434000.out).2.2 (c9) z5 z6;cases a9g;obtain⟨b7w,a4w,a4v,a0o⟩:=Kd.S_get HO_434000.out [] (c9) z5 (by first|exact z6|exact zqo|(have e_:=(Kd.S_reads' HO_434000.out).1;omega));obtain⟨b4d,rfl,o6⟩:=a4v;have i6:=a0o 0 _ rfl;rw [Nat.add_zero,show ((Kd.slice 3 (Kd.int .i64))).sz=1 from rfl,Nat.mul_one] at i6;replace i6:=Option.some.inj (i6.symm.trans u0);rw [i6] at o6;have g1:=zqm (show Kd.R (Kd.int .i64) 3 _ _ _ _ (rd_L5 a3 (c9)) from o6);clear i6 o6;have HX571_0:=zqm u0;clear a0o a4w;have b2z:=zqm t7;have b2y:=zqm t8;clear t7 t8;replace z5:=eq_true z5;replace z6:=eq_true z6;have a1g:0≤(0:Int):=(by omega);have a1m:(0:Int)<(((rd_L5 a3 (c9)).length:Int):Int):=zqo;have b8y:(0<(rd_L5 a3 (c9)).length)=True:=eq_true (by omega);obtain⟨y5,b8d,a3n,a3r,a7a,b8a,a2f⟩:=Kd.R_form g1.out (by omega);(first|cases a3n|(injection a3n with ea_ en_ ec_;(first|subst ea_|(injection ea_ with ea_;subst ea_));subst ec_;clear en_));have GB201:=zqm a3r;have GG201:=zqm a2f;clear a3r a7a a2f;obtain⟨t9,t6⟩:=Kd.R_celln 0 g1.out (0:Int) a1g a1m;(try rw [show ((0:Int)).toNat=0 from rfl] at t9);(try simp only [Nat.reduceMul,Nat.zero_mul,Nat.zero_add,Nat.reduceAdd] at t9);(try rw [show ((0:Int)).toNat=0 from rfl] at t6);(try simp only [Nat.reduceMul,Nat.zero_mul,Nat.zero_add,Nat.reduceAdd] at t6);replace a1g:=eq_true a1g;replace a1m:=eq_true a1m;have hq208:((c9):Int)<(a3.length:Int):=(by have h_:((c9):Int)<((a3.length:Int):Int):=zqo;first|exact h_|(have e_:=(Kd.S_reads' HO_434000.out).1;omega)|simpa only [List.length_set,List.length_set] using h_);obtain⟨oki208,b7v,hcl208,hM208,a0n,hok208,hbk208⟩:=Kd.S_borrow HO_434000.out [] ((c9):Int) (zqo) hq208;obtain⟨b4c,rfl,l5⟩:=hM208;have r0:=a0n 0 _ rfl;rw [Nat.add_zero,show ((Kd.slice 3 (Kd.int .i64))).sz=1 from rfl,Nat.mul_one] at r0;replace r0:=Option.some.inj (r0.symm.trans HX571_0.out);subst r0;clear a0n hcl208;replace l5:=(show Kd.R (Kd.int .i64) 3 _ _ _ _ (rd_L5 a3 (c9)) from l5);have HP208:=Kd.R_putg l5 (0:Int) 1)|((with_reducible refine gate_store (t:=3) (p:=99) rfl ?_);refine store_event (t:=3) (p:=99) (v:=?vo_w209) (w1:=(a0l.setCell ⟨y5,0,none⟩ (.int .i64 1))) ?hg ?ho ?hn ?hr ?_;(case ho=>rfl);(case hg=>rfl);(case hn=>rfl);(case hr=> exact zq18);intro l4 hw;have hg:a0l.grownBy l4 (some y5):=(by rw [hw];exact HP208.2);have hz_:Kd.R (Kd.int .i64) 3 l4 w.heap.size oki208 (.slice (some ⟨y5,0,none⟩) (rd_L5 a3 (c9)).length a4u) a1t:=(by rw [hw,a5s.out];exact HP208.1);have hp_:Kd.S (Kd.slice 3 (Kd.int .i64)) 66 l4 w.heap.size (fun k_=>some k_≠(b9:Value).ownBlock) (.slice (some j7) a3.length j9) a5i:=(by rw [a5t.out];exact hbk208 hg (fun k_ e_=>by injection e_ with e_;subst e_;exact l5.1 _ rfl) (Kd.M_row hz_));have hm_:=Kd.R_mono hz_ hok208;clear HP208 hbk208;replace HO_434000:=zqm (hp_);replace HO_434001:=zqm (Kd.Q_grown1 (zqfQ HO_434001.out) rfl hg ((g1.out.1 _ rfl).1));replace a4:=zqm (blk_grown (g:=b1) (o:= .cells #[.slice none 0 0,.slice none 0 0] 68 (0,0)) (zqe a4.out) hg (Kd.R_ne g1.out a4.out (by decide)));replace a0:=zqm (blk_grown (g:=a8) (o:= .cells #[.slice (some j7) a3.length j9,b9] 68 (0,0)) (zqe a0.out) hg (Kd.R_ne g1.out a0.out (by decide)));replace a2:=zqm (IsS78.grown zq1 hg (IsS78.own_ne a2.out g1.out (by decide)));replace HB:=zqm ((by rw [hw];exact below_set (HB.out) (Nat.le_trans HL.out GB201.out):Below w0.heap.size w0 l4));replace HK:=zqm (KeepBut.trans zq0 (KeepBut.of_grown hg g) (Kd.R_base2 g1.out));have b7t:=zqm (hm_);have b7r:=zqm ((Kd.R_reads' hm_).2.1);clear g1;clear hg hw hp_ hz_ hm_ hok208;have b1j:l4.cell? ⟨a8,0,none⟩=some (.slice (some j7) a3.length j9):=(blk_cell a0.out 0).trans rfl;have b1k:l4.cell? ⟨a8,1,none⟩=some (b9):=(blk_cell a0.out 1).trans rfl;have b2p:=blk_frozen a0.out 0;have b2q:=blk_frozen a0.out 1;have b6l:=c7.out;have b7j:=a7.out;have b1l:l4.cell? ⟨b1,0,none⟩=some (.slice none 0 0):=(blk_cell a4.out 0).trans rfl;have b1m:l4.cell? ⟨b1,1,none⟩=some (.slice none 0 0):=(blk_cell a4.out 1).trans rfl;have b2r:=blk_frozen a4.out 0;have b2s:=blk_frozen a4.out 1;obtain⟨u7,x9,a6u,_⟩:=Kd.Q_slice HO_434001.out;subst a6u))
               refine bodyPost_ret (results_cell_row rfl _ _ b1 68 #[.slice (some j7) a3.length j9,.slice u7 a5.length x9] (0,0) _ rfl (by refine zqe ?_;refine blk_put (cs:= #[.slice (some j7) a3.length j9,.slice none 0 0]) ?_ 1 _ rfl;refine zqe ?_;refine blk_put (cs:= #[.slice none 0 0,.slice none 0 0]) ?_ 0 _ rfl;refine zqe ?_;exact a4.out) Tryd.underlying68 rfl zqk) rfl ?_;exact⟨_,_,by first|rfl|(simp [errW_none,errW_some] <;> rfl)|(simp only [← i5];first|rfl|(simp [errW_none,errW_some] <;> rfl))|(simp [*,errW_none,errW_some] <;> rfl),by refine zqfS ?_;exact Kd.S_mono (Kd.S_far (p:=⟨b1,1,none⟩) (Kd.S_far (p:=⟨b1,0,none⟩) (Kd.S_types HO_434000.out a4.out (by decide)) (fun _ hk=>hk.2) (.slice (some j7) a3.length j9)) (fun _ hk=>hk.2) (.slice u7 a5.length x9)) (fun _ hk=>hk.1),by refine zqfQ ?_;exact Kd.Q_mono (Kd.Q_far (p:=⟨b1,1,none⟩) (Kd.Q_far (p:=⟨b1,0,none⟩) (Kd.Q_types HO_434001.out a4.out (by decide)) (fun _ hk=>hk.2) (.slice (some j7) a3.length j9)) (fun _ hk=>hk.2) (.slice u7 a5.length x9)) (fun _ hk=>trivial),zq1,zq3,zq0⟩
              ·rw [if_neg x4] at H;exact absurd H (by simp)
             ·rw [if_neg x3] at H;exact absurd H (by simp)
            ·rw [if_neg x2] at H;exact absurd H (by simp)
        ·replace w9:=Bool.eq_false_iff.mpr w9;subst w9;(have H1:(some (a3,a5,e3))=some (r1,r2,r3):=by rw [if_neg (show¬(false=true) by decide)] at H;exact H);clear H;have H:=H1;clear H1;simp only [Option.some.injEq,Prod.mk.injEq] at H;obtain⟨rfl,rfl,rfl⟩:=H
         go_wp2_with (first|((with_reducible refine gate_callee (f:=48) rfl ?_);refine goesL_ (some 88) rfl rfl Tryd.func48 zqk rfl #[.pointer (some ⟨g,0,none⟩),.int .i64 a1] rfl zq2 ?_;(with_reducible refine(spec_l20Rd_odd.calls d4 g s0_0 e2 a1 false e3 w0 _ ?side1 ?side2 o2.out).mono ?_);(case side1=> exact zq1);(case side2=> exact zq3);rintro e a0m ⟨rfl,hi,hb,hk⟩;refine⟨_,rfl,?_⟩;replace HO_434000:=zqm (Kd.S_mono (Kd.S_keep (IsS78.apartS (show IsS78 w0 _ g s0_0 e2 from zq1) (zqfS HO_434000.out) (by decide)) hk (fun _ h=>h.2)) (fun _ h=>h.1));replace HO_434001:=zqm (Kd.Q_mono (Kd.Q_keep (IsS78.apartQ (show IsS78 w0 _ g s0_0 e2 from zq1) (zqfQ HO_434001.out) (by decide)) hk (fun _ h=>h.2)) (fun _ h=>h.1));replace a4:=zqm (KeepBut.blk hk (g':=b1) (o:= .cells #[.slice none 0 0,.slice none 0 0] 68 (0,0)) (zqe a4.out) c7.out (by simp));replace a0:=zqm (KeepBut.blk hk (g':=a8) (o:= .cells #[b8,b9] 68 (0,0)) (zqe a0.out) c2.out (by simp));replace HK:=zqm (KeepBut.trans zq0 hk (.inl rfl));replace HB:=zqm (hb);replace a2:=zqm (hi);clear hb hk hi;have b6m:=c6.out;have b7k:=b3.out;have b6n:=c2.out;have b7l:=a6.out;have b1n:a0m.cell? ⟨a8,0,none⟩=some (b8):=(blk_cell a0.out 0).trans rfl;have b1o:a0m.cell? ⟨a8,1,none⟩=some (b9):=(blk_cell a0.out 1).trans rfl;have b2t:=blk_frozen a0.out 0;have b2u:=blk_frozen a0.out 1;obtain⟨q1,q9,a6v⟩:=Kd.S_slice HO_434000.out;subst a6v;have b6o:=c7.out;have b7m:=a7.out;have b1p:a0m.cell? ⟨b1,0,none⟩=some (.slice none 0 0):=(blk_cell a4.out 0).trans rfl;have b1q:a0m.cell? ⟨b1,1,none⟩=some (.slice none 0 0):=(blk_cell a4.out 1).trans rfl;have b2v:=blk_frozen a4.out 0;have b2w:=blk_frozen a4.out 1;obtain⟨u8,y0,a6w,_⟩:=Kd.Q_slice HO_434001.out;subst a6w))
         refine bodyPost_ret (results_cell_row rfl _ _ b1 68 #[.slice q1 a3.length q9,.slice u8 a5.length y0] (0,0) _ rfl (by refine zqe ?_;refine blk_put (cs:= #[.slice q1 a3.length q9,.slice none 0 0]) ?_ 1 _ rfl;refine zqe ?_;refine blk_put (cs:= #[.slice none 0 0,.slice none 0 0]) ?_ 0 _ rfl;refine zqe ?_;exact a4.out) Tryd.underlying68 rfl zqk) rfl ?_;exact⟨_,_,zq23,by refine zqfS ?_;exact Kd.S_mono (Kd.S_far (p:=⟨b1,1,none⟩) (Kd.S_far (p:=⟨b1,0,none⟩) (Kd.S_types HO_434000.out a4.out (by decide)) (fun _ hk=>hk.2) (.slice q1 a3.length q9)) (fun _ hk=>hk.2) (.slice u8 a5.length y0)) (fun _ hk=>hk.1),by refine zqfQ ?_;exact Kd.Q_mono (Kd.Q_far (p:=⟨b1,1,none⟩) (Kd.Q_far (p:=⟨b1,0,none⟩) (Kd.Q_types HO_434001.out a4.out (by decide)) (fun _ hk=>hk.2) (.slice q1 a3.length q9)) (fun _ hk=>hk.2) (.slice u8 a5.length y0)) (fun _ hk=>trivial),zq1,zq3,zq0⟩
end
end Go.Proofs.YtddgcdpogpppgaaDoor.Print
end
section
namespace Go.Proofs.YtddgcdpogpppgaaDoor.Print
open Go.RowKit Go.Proofs.YtddgcdpogpppgaaDoorW.PrintWords Go.Proofs.YtddgcdpogpppgaaDoorW.PrintLast Go.Proofs.YtddgcdpogpppgaaDoorW.PrintMore
open Oml
section
section
variable {b : List Int} (hb : Bytes b) (hl : b.length ≤ 2000)
include hb hl
theorem lg_j5 {m : Nat} (hm : 1 ≤ m) (hm2 : m ≤ 100) {U : List (List Int)} {N : List Int} (S : Sh m U N) {p : Int} (h0 : 0 ≤ p) (h1 : p ≤ 999999900) (n : Int) :
 ∃V M q,Ev (fun k=>spec_l20Logic.j5 k n b p U N) (V,M,q)∧p≤q∧q≤p+4:=by
 have hU:=S.len
 have hN:=S.lenN
 obtain⟨o,p1,ho,q1,q2⟩:=odd_ev hb hl h0 (by omega) n
 cases o with
 |false=>
  refine⟨U,N,p1,Ev.succ ?_,by omega,by omega⟩
  simp only [spec_l20Logic.j5]
  refine Ev.bind ho ?_
  dsimp only
  exact Ev.ite_neg (by decide) (Ev.now _)
 |true=>
  obtain⟨v,hv,v0,v1⟩:=pick_ev hb hl (p:=p1) (by omega) (by omega) 4
  have v2:=v1 (by omega)
  by_cases e0:v=0
  ·refine⟨[],[],p1+1,Ev.succ ?_,?_,?_⟩
   ·simp only [spec_l20Logic.j5]
    refine Ev.bind ho ?_
    dsimp only
    refine Ev.ite_pos rfl (Ev.bind hv ?_)
    dsimp only
    exact Ev.ite_pos e0 (Ev.now _)
   ·omega
   ·omega
  by_cases e1:v=1
  ·refine⟨U,N.drop (1:Int).toNat,p1+1,Ev.succ ?_,?_,?_⟩
   ·simp only [spec_l20Logic.j5]
    refine Ev.bind ho ?_
    dsimp only
    refine Ev.ite_pos rfl (Ev.bind hv ?_)
    dsimp only
    exact Ev.ite_neg e0 (Ev.ite_pos e1 (Ev.ite_pos (by omega) (Ev.now _)))
   ·omega
   ·omega
  by_cases e2:v=2
  ·obtain⟨x,hx,x0,x1⟩:=pick_ev hb hl (p:=p1+1) (by omega) (by omega) (N.length:Int)
   have x2:=x1 (by omega)
   obtain⟨y,hy,y0,y1⟩:=pick_ev hb hl (p:=p1+1+1) (by omega) (by omega) (wrap64 ((N.length:Int)+1))
   refine⟨U,N.set (x:Int).toNat y,p1+1+1+1,Ev.succ ?_,?_,?_⟩
   ·simp only [spec_l20Logic.j5]
    refine Ev.bind ho ?_
    dsimp only
    refine Ev.ite_pos rfl (Ev.bind hv ?_)
    dsimp only
    refine Ev.ite_neg e0 (Ev.ite_neg e1 (Ev.ite_pos e2 (Ev.bind hx (Ev.bind hy ?_))))
    dsimp only
    exact Ev.ite_pos x0 (Ev.ite_pos x2 (Ev.now _))
   ·omega
   ·omega
  ·have w1:wrap64 ((U.length:Int) - 1)=(U.length:Int) - 1:=wrap_pos (by omega) (by omega)
   have rl:=S.row _ (rdL_mem (xs:=U) (i:=(U.length:Int) - 1) (by omega) (by omega))
   refine⟨U.set ((U.length:Int) - 1).toNat ((rd_L5 U ((U.length:Int) - 1)).set (0:Int).toNat 1),N,p1+1,Ev.succ ?_,?_,?_⟩
   ·simp only [spec_l20Logic.j5]
    refine Ev.bind ho ?_
    dsimp only
    refine Ev.ite_pos rfl (Ev.bind hv ?_)
    dsimp only
    refine Ev.ite_neg e0 (Ev.ite_neg e1 (Ev.ite_neg e2 ?_))
    simp only [w1]
    exact Ev.ite_pos (by omega) (Ev.ite_pos (by omega) (Ev.ite_pos (by omega) (Ev.now _)))
   ·omega
   ·omega
theorem lg_l1 {U : List (List Int)} {N : List Int} {m i : Nat} (him : i < m) (hm : m ≤ 100) (n q v : Int) (v0 : 0 ≤ v) : ∀ (d : Nat) (o : List Int) (j : Int), j = v + d → j ≤ i → o.length = i + 1 → (∀ x ∈ o, 0 ≤ x ∧ x < (m : Int)) →
 ∃o':List Int,o'.length=i+1∧(∀x ∈ o',0≤x∧x<(m:Int))∧ ∀R,Ev (fun k=>spec_l20Logic.l1 k n o' (i:Int) v v b q U N) R→Ev (fun k=>spec_l20Logic.l1 k n o (i:Int) v j b q U N) R:=by
 intro d
 induction d with
 |zero=>
  intro o j hj _ hlen hr
  obtain rfl:j=v:=by omega
  exact⟨o,hlen,hr,fun R h=>h⟩
 |succ d ih=>
  intro o j hj hji hlen hr
  have w1:wrap64 (j - 1)=j - 1:=wrap_pos (by omega) (by omega)
  have hr1:=hr _ (rd_mem (xs:=o) (i:=j - 1) (by omega) (by omega))
  obtain⟨o',k1,k2,k3⟩:=ih (o.set j.toNat (rd o (j - 1))) (j - 1) (by omega) (by omega) (by rw [List.length_set];exact hlen) (fun x hx=>by
   rcases List.mem_or_eq_of_mem_set hx with hx|rfl
   ·exact hr x hx
   ·exact hr1)
  refine⟨o',k1,k2,fun R h=>Ev.succ ?_⟩
  simp only [spec_l20Logic.l1,w1]
  exact Ev.ite_pos (by omega) (Ev.ite_pos (by omega) (Ev.ite_pos (by omega) (Ev.ite_pos (by omega) (Ev.ite_pos (by omega) (k3 R h)))))
theorem lg_j2 {m : Nat} {U : List (List Int)} {N : List Int} (S : Sq m U N) {p : Int} (h0 : 0 ≤ p) (h1 : p ≤ 999999700) (n : Int) :
 ∃V M q,Ev (fun k=>spec_l20Logic.j2 k n b p U N) (V,M,q)∧p≤q∧q≤p+110:=by
 have hm:=S.pos
 have hm2:=S.small
 have hU:=S.len
 have hN:=S.lenN
 obtain⟨⟨o,p1⟩,⟨i1,i2,i3,i4⟩,ko⟩:=Ev.run (ρ:=List (List Int) × List Int × Int) (g:=fun k (s:List Int × Int) i=>spec_l20Logic.l0 k n s.1 i b s.2 U N) m (fun i s=>s.1.length=i∧(∀x ∈ s.1,0≤x∧x<(m:Int))∧p≤s.2∧s.2≤p+(i:Int)) (by omega) (fun i s hi hs=>by
  obtain⟨o,q⟩:=s
  obtain⟨j1,j2,j3,j4⟩:=hs
  have j1':o.length=i:=j1
  have j3':p≤q:=j3
  have j4':q≤p+(i:Int):=j4
  have w1:wrap64 ((i:Int)+1)=(i:Int)+1:=wrap_pos (by omega) (by omega)
  obtain⟨v,hv,v0,v1⟩:=pick_ev hb hl (p:=q) (by omega) (by omega) ((i:Int)+1)
  have v2:=v1 (by omega)
  obtain⟨o',k1,k2,k3⟩:=lg_l1 hb hl (U:=U) (N:=N) hi hm2 n (q+1) v v0 ((i:Int) - v).toNat (o ++ [(i:Int)]) (i:Int) (by omega) (by omega) (by rw [List.length_append,j1'];rfl) (fun x hx=>by
   rcases List.mem_append.1 hx with hx|hx
   ·exact j2 x hx
   ·rw [List.mem_singleton.1 hx];omega)
  refine⟨(o'.set v.toNat (i:Int),q+1),⟨by rw [List.length_set];exact k1,fun x hx=>?_,by show p≤q+1;omega,by show q+1≤p+((i+1:Nat):Int);omega⟩,fun R h=>Ev.succ ?_⟩
  ·rcases List.mem_or_eq_of_mem_set hx with hx|rfl
   ·exact k2 x hx
   ·omega
  ·rw [w1] at h
   simp only [spec_l20Logic.l0,w1]
   refine Ev.ite_pos (by omega) (Ev.bind hv ?_)
   dsimp only
   refine Ev.ite_pos (by omega) (k3 R (Ev.succ ?_))
   simp only [spec_l20Logic.l1,w1]
   exact Ev.ite_neg (by omega) (Ev.ite_pos (by omega) (Ev.ite_pos (by omega) h))) ([],p) ⟨rfl,(fun _ h=>by cases h),Int.le_refl _,by show p≤p+((0:Nat):Int);omega⟩
 have i1':o.length=m:=i1
 have i3':p≤p1:=i3
 have i4':p1≤p+(m:Int):=i4
 obtain⟨v,hv,v0,v1⟩:=pick_ev hb hl (p:=p1) (by omega) (by omega) 2
 have fin: ∀V M,Sh m V M→ ∃V' M' q,Ev (fun k=>spec_l20Logic.j5 k n b (p1+1) V M) (V',M',q)∧p≤q∧q≤p+110:=fun V M hS=>by
  obtain⟨V',M',q,h,k1,k2⟩:=lg_j5 hb hl hm hm2 hS (p:=p1+1) (by omega) (by omega) n
  exact⟨V',M',q,h,by omega,by omega⟩
 by_cases e:v=0
 ·obtain⟨V,M,hS,hR⟩:=rename_ev S i1' i2
  obtain⟨V',M',q,h,k1,k2⟩:=fin V M hS
  refine⟨V',M',q,Ev.succ ?_,k1,k2⟩
  simp only [spec_l20Logic.j2]
  refine ko _ (Ev.succ ?_)
  simp only [spec_l20Logic.l0]
  refine Ev.ite_neg (by omega) (Ev.bind hv ?_)
  dsimp only
  exact Ev.ite_pos e (Ev.bind hR h)
 ·obtain⟨V',M',q,h,k1,k2⟩:=fin U N S.sh
  refine⟨V',M',q,Ev.succ ?_,k1,k2⟩
  simp only [spec_l20Logic.j2]
  refine ko _ (Ev.succ ?_)
  simp only [spec_l20Logic.l0]
  refine Ev.ite_neg (by omega) (Ev.bind hv ?_)
  dsimp only
  exact Ev.ite_neg e h
theorem lg_j2' {r : List (List Int) × List Int} (S : sqB r = true) {p : Int} (h0 : 0 ≤ p) (h1 : p ≤ 999999700) (n : Int) :
 ∃V M q,Ev (fun k=>spec_l20Logic.j2 k n b p r.1 r.2) (V,M,q)∧p≤q∧q≤p+110:=lg_j2 hb hl (sq_of S) h0 h1 n
theorem logic_ev {p : Int} (h0 : 0 ≤ p) (h1 : p ≤ 999999600) (n : Int) : ∃ V M q, Ev (fun k => spec_l20Logic.f k b p n) (V, M, q) ∧ p ≤ q ∧ q ≤ p + 120 := by
 obtain⟨v,hv,v0,v1⟩:=pick_ev hb hl h0 (by omega) 9
 have v2:=v1 (by omega)
 have key: ∃V M q,Ev (fun k=>spec_l20Logic.j0 k n v (if v=0 then(v==0) else(v==1)) b (p+1)) (V,M,q)∧p≤q∧q≤p+120:=by
  have hj1: ¬(v=0)→ ¬(v=1)→(∃V M q,Ev (fun k=>spec_l20Logic.j1 k n v (if v=2 then(v==2) else(v==3)) b (p+1)) (V,M,q)∧p≤q∧q≤p+120)→ ∃V M q,Ev (fun k=>spec_l20Logic.j0 k n v (if v=0 then(v==0) else(v==1)) b (p+1)) (V,M,q)∧p≤q∧q≤p+120:=by
   rintro e0 e1 ⟨V,M,q,h,k⟩
   refine⟨V,M,q,Ev.succ ?_,k⟩
   simp only [spec_l20Logic.j0]
   rw [if_neg e0]
   refine Ev.ite_neg (by simpa using e1) ?_
   by_cases e2:v=2
   ·rw [if_pos e2] at h
    exact Ev.ite_pos e2 h
   ·rw [if_neg e2] at h
    exact Ev.ite_neg e2 h
  have hend: ∀r,sqB r=true→ ∃V M q,Ev (fun k=>spec_l20Logic.j2 k n b (p+1) r.1 r.2) (V,M,q)∧p≤q∧q≤p+120:=fun r hr=>by
   obtain⟨V,M,q,h,k1,k2⟩:=lg_j2' hb hl hr (p:=p+1) (by omega) (by omega) n
   exact⟨V,M,q,h,by omega,by omega⟩
  have B2:=(gB_ev (x:=2) (by omega) (by omega)).1
  have B3:=(gB_ev (x:=3) (by omega) (by omega)).1
  have hvs:(v=0∨v=1)∨(v=2∨v=3)∨v=4∨v=5∨v=6∨v=7∨v=8:=by omega
  rcases hvs with e|e|e|e|e|e|e
  ·obtain⟨x,hx,x0,x1⟩:=pick_ev hb hl (p:=p+1) (by omega) (by omega) 4
   obtain⟨g1,g2⟩:=gB_ev x0 (x1 (by omega))
   obtain⟨V,M,q,h,k1,k2⟩:=lg_j2' hb hl g2 (p:=p+1+1) (by omega) (by omega) n
   refine⟨V,M,q,Ev.succ ?_,by omega,by omega⟩
   simp only [spec_l20Logic.j0]
   refine Ev.ite_pos (by rcases e with rfl|rfl <;> rfl) (Ev.bind hx (Ev.bind g1 h))
  ·obtain⟨V,M,q,h,k⟩:=hend _ g22.2
   refine hj1 (by omega) (by omega) ⟨V,M,q,Ev.succ ?_,k⟩
   simp only [spec_l20Logic.j1]
   exact Ev.ite_pos (by rcases e with rfl|rfl <;> rfl) (Ev.bind B2 (Ev.bind B2 (Ev.bind g22.1 h)))
  ·obtain⟨V,M,q,h,k⟩:=hend _ g23.2
   subst e
   refine hj1 (by omega) (by omega) ⟨V,M,q,Ev.succ ?_,k⟩
   simp only [spec_l20Logic.j1]
   exact Ev.ite_neg (by simp) (Ev.ite_pos (by simp) (Ev.bind B2 (Ev.bind B3 (Ev.bind g23.1 h))))
  ·obtain⟨V,M,q,h,k⟩:=hend _ g222.2
   subst e
   refine hj1 (by omega) (by omega) ⟨V,M,q,Ev.succ ?_,k⟩
   simp only [spec_l20Logic.j1]
   exact Ev.ite_neg (by simp) (Ev.ite_neg (by simp) (Ev.ite_pos (by simp) (Ev.bind B2 (Ev.bind B2 (Ev.bind g22.1 (Ev.bind B2 (Ev.bind g222.1 h)))))))
  ·obtain⟨V,M,q,h,k⟩:=hend _ gS_ev.2
   subst e
   refine hj1 (by omega) (by omega) ⟨V,M,q,Ev.succ ?_,k⟩
   simp only [spec_l20Logic.j1]
   exact Ev.ite_neg (by simp) (Ev.ite_neg (by simp) (Ev.ite_neg (by simp) (Ev.ite_pos (by simp) (Ev.pbind gS_ev.1 h))))
  ·obtain⟨V,M,q,h,k⟩:=hend _ gS2.2
   subst e
   refine hj1 (by omega) (by omega) ⟨V,M,q,Ev.succ ?_,k⟩
   simp only [spec_l20Logic.j1]
   exact Ev.ite_neg (by simp) (Ev.ite_neg (by simp) (Ev.ite_neg (by simp) (Ev.ite_neg (by simp) (Ev.ite_pos (by simp) (Ev.pbind gS_ev.1 (Ev.bind B2 (Ev.bind gS2.1 h)))))))
  ·obtain⟨V,M,q,h,k⟩:=hend _ gP_ev.2
   subst e
   refine hj1 (by omega) (by omega) ⟨V,M,q,Ev.succ ?_,k⟩
   simp only [spec_l20Logic.j1]
   exact Ev.ite_neg (by simp) (Ev.ite_neg (by simp) (Ev.ite_neg (by simp) (Ev.ite_neg (by simp) (Ev.ite_neg (by simp) (Ev.bind gP_ev.1 h)))))
 obtain⟨V,M,q,h,k⟩:=key
 refine⟨V,M,q,?_,k⟩
 unfold spec_l20Logic.f
 refine Ev.bind hv ?_
 dsimp only
 by_cases e:v=0
 ·rw [if_pos e] at h
  exact Ev.ite_pos e h
 ·rw [if_neg e] at h
  exact Ev.ite_neg e h
end
end
end Go.Proofs.YtddgcdpogpppgaaDoor.Print
end
section
namespace Go.Proofs.YtddgcdpogpppgaaDoor.Print
open Go.RowKit Go.Proofs.YtddgcdpogpppgaaDoorW.PrintWords Go.Proofs.YtddgcdpogpppgaaDoorW.PrintLast Go.Proofs.YtddgcdpogpppgaaDoorW.PrintMore
section
attribute [local go_sem] max2_int min2_int max_two min_two max_three min_three max_four min_four
mutual
def spec_l20Deed.j1 : Nat → List Int → Int → Int → Int → Int → Option (Int × Int × Int × Int)
 | 0, _, _, _, _, _ => none
 | k + 1, x1000, x1001, x281000, x281001, x281002 => (spec_l20Rd_odd.f k x1000 x1001 40).bind fun bt291 => (if bt291.1 = true then ((some (([(-1), 12, 100] : List Int) : List Int)).bind fun y293 => ((spec_l20Rd_pick.f k x1000 bt291.2 3).bind fun bt296 => (if 0 ≤ bt296.1 then (if bt296.1 < (y293.length : Int) then (some (x281000, x281001, rd y293 bt296.1, bt296.2)) else (none)) else (none)))) else (some (x281000, x281001, x281002, bt291.2)))
def spec_l20Deed.j0 : Nat → Int → Int → Bool → List Int → Int → Int → Int → Int → Option (Int × Int × Int × Int)
 | 0, _, _, _, _, _, _, _, _ => none
 | k + 1, x6, x23, x24, x1000, x1001, x281000, x281001, x281002 => if x24 = true then ((some (([2, 2, 1, 3, 0, 4] : List Int) : List Int)).bind fun y281 => ((spec_l20Rd_pick.f k x1000 x1001 6).bind fun bt284 => (if 0 ≤ bt284.1 then (if bt284.1 < (y281.length : Int) then (spec_l20Deed.j1 k x1000 bt284.2 x281000 (rd y281 bt284.1) x281002) else (none)) else (none)))) else (if x23 = 3 then ((spec_l20Rd_pick.f k x1000 x1001 x6).bind fun bt287 => ((spec_l20Rd_pick.f k x1000 bt287.2 x6).bind fun bt289 => (spec_l20Deed.j1 k x1000 bt289.2 x281000 bt287.1 bt289.1))) else (spec_l20Deed.j1 k x1000 x1001 x281000 x281001 x281002))
end
def spec_l20Deed.f (k : Nat) (s0_0 : List Int) (s0_1 : Int) (l1_0 : List (List Int)) (l1_1 : List Int) : Option (Int × Int × Int × Int) := (some (([0, 0, 1, 2, 3, 3, 4] : List Int) : List Int)).bind fun y272 => ((spec_l20Rd_pick.f k s0_0 s0_1 7).bind fun bt275 => (if 0 ≤ bt275.1 then (if bt275.1 < (y272.length : Int) then ((spec_l20Rd_pick.f k s0_0 bt275.2 60).bind fun bt278 => (if (wrap64 ((rd y272 bt275.1) + (wrap64 ((wrap64 (Int.tdiv bt278.1 59)) * 5)))) = 0 then (spec_l20Deed.j0 k (mx (l1_1.length : Int) 1) (wrap64 ((rd y272 bt275.1) + (wrap64 ((wrap64 (Int.tdiv bt278.1 59)) * 5)))) ((wrap64 ((rd y272 bt275.1) + (wrap64 ((wrap64 (Int.tdiv bt278.1 59)) * 5)))) == 0) s0_0 bt278.2 (wrap64 ((rd y272 bt275.1) + (wrap64 ((wrap64 (Int.tdiv bt278.1 59)) * 5)))) 0 0) else (spec_l20Deed.j0 k (mx (l1_1.length : Int) 1) (wrap64 ((rd y272 bt275.1) + (wrap64 ((wrap64 (Int.tdiv bt278.1 59)) * 5)))) ((wrap64 ((rd y272 bt275.1) + (wrap64 ((wrap64 (Int.tdiv bt278.1 59)) * 5)))) == 1) s0_0 bt278.2 (wrap64 ((rd y272 bt275.1) + (wrap64 ((wrap64 (Int.tdiv bt278.1 59)) * 5)))) 0 0))) else (none)) else (none)))
def spec_l20Deed.T1 : Bool × List (List Nat × List Nat) := (true, [([], []), ([], []), ([1], [1]), ([0, 2], [0, 2]), ([3], [3]), ([], []), ([5, 2], [5]), ([6], [6]), ([7], [7]), ([4, 8], [4, 8]), ([9], [9]), ([], []), ([11, 10, 6, 0, 1, 2, 3, 4, 5, 6, 7, 8, 9, 10, 11], [10, 11])])
def spec_l20Deed.B1 : List Nat := [0, 0, 2, 7, 15, 0, 38, 102, 230, 511, 1023, 0, 4095]
theorem spec_l20Deed.tab1 : rtab .any (opsOf Tryd.f42 1) = spec_l20Deed.T1 := by kernel_rfl
theorem spec_l20Deed.bits1 : waitsOk spec_l20Deed.T1.2 spec_l20Deed.B1 = true := by kernel_rfl
set_option maxHeartbeats 8000000 in
set_option maxRecDepth 100000 in
theorem spec_l20Deed.calls (k : Nat) (g : Nat) (s0_0 : List Int) (s0_1 : Int) (A1_0 : Option Addr) (c1_0 : Nat) (l1_0 : List (List Int)) (A1_1 : Option Addr) (c1_1 : Nat) (l1_1 : List Int) (r1 : Int) (r2 : Int) (r3 : Int) (r4 : Int) (w0 w : World) (hI : IsS78 w0 w g s0_0 s0_1) (hB : Below w0.heap.size w0 w) (hr1_0 : ∀ W_, KeepBut w W_ g none → Kd.C (Kd.slice 3 (Kd.int .i64)) W_ A1_0 l1_0.length l1_0) (hc1_0 : l1_0.length ≤ c1_0) (hr1_1 : Kd.C (Kd.int .i64) w A1_1 l1_1.length l1_1) (hc1_1 : l1_1.length ≤ c1_1) (hf1_1 : ∀ ad, A1_1 = some ad → 0 < l1_1.length → ad.block ≠ g) (h : spec_l20Deed.f k s0_0 s0_1 l1_0 l1_1 = some (r1, r2, r3, r4)) :
  Calls Tryd.prog 42 #[.pointer (some ⟨g, 0, none⟩), .agg #[.slice A1_0 l1_0.length c1_0, .slice A1_1 l1_1.length c1_1]] w fun e w' => e = .returned (.agg #[.int .i64 r1, .int .i64 r2, .int .i64 r3]) ∧ IsS78 w0 w' g s0_0 r4 ∧ Below w0.heap.size w0 w' ∧ KeepBut w w' g none := by
 have hu68:=Tryd.underlying68;have hu25:=Tryd.underlying25;have w2:=zqm hr1_0;have v8:=zqm hc1_0;clear hr1_0 hc1_0;have w3:=zqm hr1_1;have v9:=zqm hc1_1;clear hr1_1 hc1_1;have a1:=zqm hI;have HK:=zqm (KeepBut.refl w g none);have HL:=zqm hB.size;clear hI;have i1:=zqm hB.size;have HB:=zqm hB;clear hB;have H:((some (([0,0,1,2,3,3,4]:List Int):List Int)).bind fun a4=>((spec_l20Rd_pick.f k s0_0 s0_1 7).bind fun e2=>(if 0≤e2.1 then(if e2.1<(a4.length:Int) then((spec_l20Rd_pick.f k s0_0 e2.2 60).bind fun d4=>(if(wrap64 ((rd a4 e2.1)+(wrap64 ((wrap64 (Int.tdiv d4.1 59))*5))))=0 then(spec_l20Deed.j0 k (mx (l1_1.length:Int) 1) (wrap64 ((rd a4 e2.1)+(wrap64 ((wrap64 (Int.tdiv d4.1 59))*5)))) ((wrap64 ((rd a4 e2.1)+(wrap64 ((wrap64 (Int.tdiv d4.1 59))*5))))==0) s0_0 d4.2 (wrap64 ((rd a4 e2.1)+(wrap64 ((wrap64 (Int.tdiv d4.1 59))*5)))) 0 0) else(spec_l20Deed.j0 k (mx (l1_1.length:Int) 1) (wrap64 ((rd a4 e2.1)+(wrap64 ((wrap64 (Int.tdiv d4.1 59))*5)))) ((wrap64 ((rd a4 e2.1)+(wrap64 ((wrap64 (Int.tdiv d4.1 59))*5))))==1) s0_0 d4.2 (wrap64 ((rd a4 e2.1)+(wrap64 ((wrap64 (Int.tdiv d4.1 59))*5)))) 0 0))) else(none)) else(none))))=some (r1,r2,r3,r4):=h;clear h;obtain⟨a4,k6⟩: ∃y_:List Int,y_=(([0,0,1,2,3,3,4]:List Int)):=⟨_,rfl⟩;replace H:((spec_l20Rd_pick.f k s0_0 s0_1 7).bind fun e2=>(if 0≤e2.1 then(if e2.1<(a4.length:Int) then((spec_l20Rd_pick.f k s0_0 e2.2 60).bind fun d4=>(if(wrap64 ((rd a4 e2.1)+(wrap64 ((wrap64 (Int.tdiv d4.1 59))*5))))=0 then(spec_l20Deed.j0 k (mx (l1_1.length:Int) 1) (wrap64 ((rd a4 e2.1)+(wrap64 ((wrap64 (Int.tdiv d4.1 59))*5)))) ((wrap64 ((rd a4 e2.1)+(wrap64 ((wrap64 (Int.tdiv d4.1 59))*5))))==0) s0_0 d4.2 (wrap64 ((rd a4 e2.1)+(wrap64 ((wrap64 (Int.tdiv d4.1 59))*5)))) 0 0) else(spec_l20Deed.j0 k (mx (l1_1.length:Int) 1) (wrap64 ((rd a4 e2.1)+(wrap64 ((wrap64 (Int.tdiv d4.1 59))*5)))) ((wrap64 ((rd a4 e2.1)+(wrap64 ((wrap64 (Int.tdiv d4.1 59))*5))))==1) s0_0 d4.2 (wrap64 ((rd a4 e2.1)+(wrap64 ((wrap64 (Int.tdiv d4.1 59))*5)))) 0 0))) else(none)) else(none)))=some (r1,r2,r3,r4):=zqy k6 H;have e8:=zqm k6;clear k6;replace H:=Option.bind_eq_some_iff.mp H;obtain⟨⟨b1,d6⟩,o2,H⟩:=H;replace H:(if 0≤b1 then(if b1<(a4.length:Int) then((spec_l20Rd_pick.f k s0_0 d6 60).bind fun d4=>(if(wrap64 ((rd a4 b1)+(wrap64 ((wrap64 (Int.tdiv d4.1 59))*5))))=0 then(spec_l20Deed.j0 k (mx (l1_1.length:Int) 1) (wrap64 ((rd a4 b1)+(wrap64 ((wrap64 (Int.tdiv d4.1 59))*5)))) ((wrap64 ((rd a4 b1)+(wrap64 ((wrap64 (Int.tdiv d4.1 59))*5))))==0) s0_0 d4.2 (wrap64 ((rd a4 b1)+(wrap64 ((wrap64 (Int.tdiv d4.1 59))*5)))) 0 0) else(spec_l20Deed.j0 k (mx (l1_1.length:Int) 1) (wrap64 ((rd a4 b1)+(wrap64 ((wrap64 (Int.tdiv d4.1 59))*5)))) ((wrap64 ((rd a4 b1)+(wrap64 ((wrap64 (Int.tdiv d4.1 59))*5))))==1) s0_0 d4.2 (wrap64 ((rd a4 b1)+(wrap64 ((wrap64 (Int.tdiv d4.1 59))*5)))) 0 0))) else(none)) else(none))=some (r1,r2,r3,r4):=H;have A3:=zqm o2;clear o2
 by_cases c4:0≤b1
 ·rw [if_pos c4] at H;have a0t:decide (0≤b1)=true:=decide_eq_true c4;clear c4
  by_cases c5:b1<(a4.length:Int)
  ·rw [if_pos c5] at H;have a0u:decide (b1<(a4.length:Int))=true:=decide_eq_true c5;clear c5;replace H:=Option.bind_eq_some_iff.mp H;obtain⟨⟨b6,d3⟩,o4,H⟩:=H;replace H:(if(wrap64 ((rd a4 b1)+(wrap64 ((wrap64 (Int.tdiv b6 59))*5))))=0 then(spec_l20Deed.j0 k (mx (l1_1.length:Int) 1) (wrap64 ((rd a4 b1)+(wrap64 ((wrap64 (Int.tdiv b6 59))*5)))) ((wrap64 ((rd a4 b1)+(wrap64 ((wrap64 (Int.tdiv b6 59))*5))))==0) s0_0 d3 (wrap64 ((rd a4 b1)+(wrap64 ((wrap64 (Int.tdiv b6 59))*5)))) 0 0) else(spec_l20Deed.j0 k (mx (l1_1.length:Int) 1) (wrap64 ((rd a4 b1)+(wrap64 ((wrap64 (Int.tdiv b6 59))*5)))) ((wrap64 ((rd a4 b1)+(wrap64 ((wrap64 (Int.tdiv b6 59))*5))))==1) s0_0 d3 (wrap64 ((rd a4 b1)+(wrap64 ((wrap64 (Int.tdiv b6 59))*5)))) 0 0))=some (r1,r2,r3,r4):=H;have A6:=zqm o4;clear o4;obtain⟨h1,h0⟩: ∃j_:Int,(mx (l1_1.length:Int) 1)=j_:=⟨_,rfl⟩;(replace H:(if(wrap64 ((rd a4 b1)+(wrap64 ((wrap64 (Int.tdiv b6 59))*5))))=0 then(spec_l20Deed.j0 k h1 (wrap64 ((rd a4 b1)+(wrap64 ((wrap64 (Int.tdiv b6 59))*5)))) ((wrap64 ((rd a4 b1)+(wrap64 ((wrap64 (Int.tdiv b6 59))*5))))==0) s0_0 d3 (wrap64 ((rd a4 b1)+(wrap64 ((wrap64 (Int.tdiv b6 59))*5)))) 0 0) else(spec_l20Deed.j0 k h1 (wrap64 ((rd a4 b1)+(wrap64 ((wrap64 (Int.tdiv b6 59))*5)))) ((wrap64 ((rd a4 b1)+(wrap64 ((wrap64 (Int.tdiv b6 59))*5))))==1) s0_0 d3 (wrap64 ((rd a4 b1)+(wrap64 ((wrap64 (Int.tdiv b6 59))*5)))) 0 0))=some (r1,r2,r3,r4):=by first|(rw [h0] at H;exact H)|(simp only [h0] at H ⊢;exact H));(try rw [h0] at A3);(try rw [h0] at A6);(try(have hji7l:1≤h1:=by(rw [← h0];unfold mx;(repeat' split) <;> omega)));(try(have hji7m:0≤h1:=by omega));have x1:(if(l1_1.length:Int)<1 then 1 else(l1_1.length:Int))=h1:=h0;have n4:=zqm H;clear H
   go_enter Tryd.func42,Tryd.ntmps42
   (try go_wp2_with (first|((with_reducible refine gate_dst (N:=3) rfl ?_);refine box_event ?hg (N:=3) ?hd (cs:= #[.slice A1_0 l1_0.length c1_0,.slice A1_1 l1_1.length c1_1]) (t:=68) ?hr ?_;(case hd=>rfl);(case hg=>rfl);(case hr=> exact zq18);intro a6 hg w9 hbox hb;have d1:=zqm (IsS78.below zq86 hb);have c7:=zqm (KeepBut.trans zq14 (KeepBut.of_below hb g none) (.inl rfl));replace HB:=zqm (below_step (by repeat(first|(with_reducible first|exact HB.out|apply below_alloc|apply pw_below_drewN|apply below_drew1|refine below_set ?_ (IsS78.ge a1.out))|exact HB.out)) hb);have a3:=zqm (hbox);have b2:=zqm ((by rw [hg];exact(keep_size (w:=w) (g:=g) (row:=none) zq14):w.heap.size≤a6));have c3:=zqm ((Nat.le_trans i1.out (by rw [hg];exact(keep_size (w:=w) (g:=g) (row:=none) zq14):w.heap.size≤a6):w0.heap.size≤a6));have a7:=zqm ((by rw [hg];exact Nat.ne_of_lt (IsS78.lt (show IsS78 w0 _ g s0_0 s0_1 from zq86)):g≠a6));have d8:=zqm ((by rw [hg];exact Nat.ne_of_gt (IsS78.lt (show IsS78 w0 _ g s0_0 s0_1 from zq86)):a6≠g));clear a1 HK;have a1:=d1;have HK:=c7;clear d1 c7 hb hbox hg)|((with_reducible refine gate_dst (N:=4) rfl ?_);refine box_event ?hg (N:=4) ?hd (cs:= #[.int .i64 0,.int .i64 0,.int .i64 0]) (t:=25) ?hr ?_;(case hd=>rfl);(case hg=>rfl);(case hr=> exact zq18);intro a5 hg v7 hbox hb;have d1:=zqm (IsS78.below zq70 hb);have c7:=zqm (blk_below (g:=a6) (o:= .cells #[.slice A1_0 l1_0.length c1_0,.slice A1_1 l1_1.length c1_1] 68 (0,0)) (zqe a3.out) hb);have c8:=zqm (KeepBut.trans zq74 (KeepBut.of_below hb g none) (.inl rfl));replace HB:=zqm (below_step (by repeat(first|(with_reducible first|exact HB.out|apply below_alloc|apply pw_below_drewN|apply below_drew1|refine below_set ?_ (IsS78.ge a1.out)|refine below_set ?_ c3.out)|exact HB.out)) hb);have a2:=zqm (hbox);have b4:=zqm ((by rw [hg];exact(keep_size (w:=w) (g:=g) (row:=none) zq74):w.heap.size≤a5));have c6:=zqm ((Nat.le_trans i1.out (by rw [hg];exact(keep_size (w:=w) (g:=g) (row:=none) zq74):w.heap.size≤a5):w0.heap.size≤a5));have h9:=zqm ((by rw [hg];exact Nat.ne_of_lt (blk_lt (g:=a6) (o:= .cells #[.slice A1_0 l1_0.length c1_0,.slice A1_1 l1_1.length c1_1] 68 (0,0)) (zqe a3.out)):a6≠a5));have i0:=zqm ((by rw [hg];exact Nat.ne_of_gt (blk_lt (g:=a6) (o:= .cells #[.slice A1_0 l1_0.length c1_0,.slice A1_1 l1_1.length c1_1] 68 (0,0)) (zqe a3.out)):a5≠a6));have a8:=zqm ((by rw [hg];exact Nat.ne_of_lt (IsS78.lt (show IsS78 w0 _ g s0_0 s0_1 from zq70)):g≠a5));have d7:=zqm ((by rw [hg];exact Nat.ne_of_gt (IsS78.lt (show IsS78 w0 _ g s0_0 s0_1 from zq70)):a5≠g));clear a1 a3 HK;have a1:=d1;have a3:=c7;have HK:=c8;clear d1 c7 c8 hb hbox hg)));have pi277:(0≤(b1:Int))=True:=eq_true (zqo);have a0o:(b1<(a4.length:Int))=True:=eq_true (zqo);replace a3:=zqm (blk_drew a3.out);replace a2:=zqm (blk_drew a2.out);replace a1:=zqm (IsS78.drew a1.out);replace HK:=zqm (keep_drew HK.out);replace HB:=zqm (below_drew1 HB.out);refine start_ (n:=13) (S:=fun w'=>True) (ds:= []) (zqb 13 0) zqk rfl rfl trivial (fun hHeld=>?_);refine with_tabW spec_l20Deed.tab1 spec_l20Deed.bits1 (fun HT_ HW_=>?_);generalize v7.drew=w11 at a3 a2 a1 HK HB hHeld ⊢;refine zqp 1 8 (zqb 13 2) HT_ ?_
   refine zqp 5 12 (zqb 13 34) HT_ ?_;refine join_ (σ:=Value × Addr × Nat) 1 (zqb 13 4095) (fun s_=> [(7,s_.1),(9,.int .i64 b1),(11,.int .i64 (rd a4 b1)),(13,.int .i64 b6),(5,.pointer (some ⟨s_.2.2,0,none⟩)),(10,.pointer (some (s_.2.1.add (b1).toNat))),(14,.int .i64 (wrap64 (Int.tdiv b6 59))),(15,.int .i64 (wrap64 ((wrap64 (Int.tdiv b6 59))*5))),(16,.int .i64 (wrap64 ((rd a4 b1)+(wrap64 ((wrap64 (Int.tdiv b6 59))*5))))),(17,.agg #[.int .i64 (wrap64 ((rd a4 b1)+(wrap64 ((wrap64 (Int.tdiv b6 59))*5)))),.int .i64 0,.int .i64 0])]) (fun s_ w'=>(Kd.R (Kd.int .i64) 3 w' w.heap.size (fun _=>True) s_.1 a4)∧(∃c_,(s_.1:Value)= .slice (some s_.2.1) a4.length c_)∧(w'.heap[a6]? =some (.cells #[.slice A1_0 l1_0.length c1_0,.slice A1_1 l1_1.length c1_1] 68 (0,0)))∧(w'.heap[a5]? =some (.cells #[.int .i64 0,.int .i64 0,.int .i64 0] 25 (0,0)))∧(w'.heap[s_.2.2]? =some (.cells #[.int .i64 0,.int .i64 0,.int .i64 0] 25 (0,0)))∧(w.heap.size≤s_.2.2)∧(w0.heap.size≤s_.2.2)∧(g≠s_.2.2)∧(s_.2.2≠g)∧(a6≠s_.2.2)∧(s_.2.2≠a6)∧(a5≠s_.2.2)∧(s_.2.2≠a5)∧(IsS78 w0 w' g s0_0 d3)∧(KeepBut w w' g none)∧(Below w0.heap.size w0 w')) ?_ ?_;rotate_left
   ·intro hJ0_2_4_6_11;refine join_ (σ:=Value × Addr) 2 (zqb 13 2047) (fun s_=> [(7,s_.1),(9,.int .i64 b1),(11,.int .i64 (rd a4 b1)),(13,.int .i64 b6),(10,.pointer (some (s_.2.add (b1).toNat))),(14,.int .i64 (wrap64 (Int.tdiv b6 59))),(15,.int .i64 (wrap64 ((wrap64 (Int.tdiv b6 59))*5))),(16,.int .i64 (wrap64 ((rd a4 b1)+(wrap64 ((wrap64 (Int.tdiv b6 59))*5))))),(17,.agg #[.int .i64 (wrap64 ((rd a4 b1)+(wrap64 ((wrap64 (Int.tdiv b6 59))*5)))),.int .i64 0,.int .i64 0])]) (fun s_ w'=>(Kd.R (Kd.int .i64) 3 w' w.heap.size (fun _=>True) s_.1 a4)∧(∃c_,(s_.1:Value)= .slice (some s_.2) a4.length c_)∧(w'.heap[a6]? =some (.cells #[.slice A1_0 l1_0.length c1_0,.slice A1_1 l1_1.length c1_1] 68 (0,0)))∧(w'.heap[a5]? =some (.cells #[.int .i64 0,.int .i64 0,.int .i64 0] 25 (0,0)))∧(IsS78 w0 w' g s0_0 d3)∧(KeepBut w w' g none)∧(Below w0.heap.size w0 w')) ?_ ?_;rotate_left
    ·intro hJ0_2_4_6;refine join_ (σ:=Value × Addr × Nat) 6 (zqb 13 2111) (fun s_=> [(7,s_.1),(9,.int .i64 b1),(11,.int .i64 (rd a4 b1)),(5,.pointer (some ⟨s_.2.2,0,none⟩)),(10,.pointer (some (s_.2.1.add (b1).toNat)))]) (fun s_ w'=>(Kd.R (Kd.int .i64) 3 w' w.heap.size (fun _=>True) s_.1 a4)∧(∃c_,(s_.1:Value)= .slice (some s_.2.1) a4.length c_)∧(w'.heap[a6]? =some (.cells #[.slice A1_0 l1_0.length c1_0,.slice A1_1 l1_1.length c1_1] 68 (0,0)))∧(w'.heap[a5]? =some (.cells #[.int .i64 0,.int .i64 0,.int .i64 0] 25 (0,0)))∧(w'.heap[s_.2.2]? =some (.cells #[.int .i64 0,.int .i64 0,.int .i64 0] 25 (0,0)))∧(w.heap.size≤s_.2.2)∧(w0.heap.size≤s_.2.2)∧(g≠s_.2.2)∧(s_.2.2≠g)∧(a6≠s_.2.2)∧(s_.2.2≠a6)∧(a5≠s_.2.2)∧(s_.2.2≠a5)∧(IsS78 w0 w' g s0_0 d6)∧(KeepBut w w' g none)∧(Below w0.heap.size w0 w')) ?_ ?_;rotate_left
     ·intro hJ0_2_4_11;refine join_ (σ:=Value × Addr × Nat) 4 (zqb 13 2543) (fun s_=> [(7,s_.1),(9,.int .i64 b1),(13,.int .i64 b6),(5,.pointer (some ⟨s_.2.2,0,none⟩)),(10,.pointer (some (s_.2.1.add (b1).toNat))),(14,.int .i64 (wrap64 (Int.tdiv b6 59))),(15,.int .i64 (wrap64 ((wrap64 (Int.tdiv b6 59))*5)))]) (fun s_ w'=>(Kd.R (Kd.int .i64) 3 w' w.heap.size (fun _=>True) s_.1 a4)∧(∃c_,(s_.1:Value)= .slice (some s_.2.1) a4.length c_)∧(w'.heap[a6]? =some (.cells #[.slice A1_0 l1_0.length c1_0,.slice A1_1 l1_1.length c1_1] 68 (0,0)))∧(w'.heap[a5]? =some (.cells #[.int .i64 0,.int .i64 0,.int .i64 0] 25 (0,0)))∧(w'.heap[s_.2.2]? =some (.cells #[.int .i64 0,.int .i64 0,.int .i64 0] 25 (0,0)))∧(w.heap.size≤s_.2.2)∧(w0.heap.size≤s_.2.2)∧(g≠s_.2.2)∧(s_.2.2≠g)∧(a6≠s_.2.2)∧(s_.2.2≠a6)∧(a5≠s_.2.2)∧(s_.2.2≠a5)∧(IsS78 w0 w' g s0_0 d3)∧(KeepBut w w' g none)∧(Below w0.heap.size w0 w')) ?_ ?_;rotate_left
      ·intro hJ0_2_6_11;refine join_ (σ:=Value × Addr) 7 (zqb 13 63) (fun s_=> [(7,s_.1),(9,.int .i64 b1),(11,.int .i64 (rd a4 b1)),(10,.pointer (some (s_.2.add (b1).toNat)))]) (fun s_ w'=>(Kd.R (Kd.int .i64) 3 w' w.heap.size (fun _=>True) s_.1 a4)∧(∃c_,(s_.1:Value)= .slice (some s_.2) a4.length c_)∧(w'.heap[a6]? =some (.cells #[.slice A1_0 l1_0.length c1_0,.slice A1_1 l1_1.length c1_1] 68 (0,0)))∧(w'.heap[a5]? =some (.cells #[.int .i64 0,.int .i64 0,.int .i64 0] 25 (0,0)))∧(IsS78 w0 w' g s0_0 d6)∧(KeepBut w w' g none)∧(Below w0.heap.size w0 w')) ?_ ?_;rotate_left
       ·intro hJ0_2_4;refine join_ (σ:=Value × Addr) 5 (zqb 13 495) (fun s_=> [(7,s_.1),(9,.int .i64 b1),(13,.int .i64 b6),(10,.pointer (some (s_.2.add (b1).toNat))),(14,.int .i64 (wrap64 (Int.tdiv b6 59))),(15,.int .i64 (wrap64 ((wrap64 (Int.tdiv b6 59))*5)))]) (fun s_ w'=>(Kd.R (Kd.int .i64) 3 w' w.heap.size (fun _=>True) s_.1 a4)∧(∃c_,(s_.1:Value)= .slice (some s_.2) a4.length c_)∧(w'.heap[a6]? =some (.cells #[.slice A1_0 l1_0.length c1_0,.slice A1_1 l1_1.length c1_1] 68 (0,0)))∧(w'.heap[a5]? =some (.cells #[.int .i64 0,.int .i64 0,.int .i64 0] 25 (0,0)))∧(IsS78 w0 w' g s0_0 d3)∧(KeepBut w w' g none)∧(Below w0.heap.size w0 w')) ?_ ?_;rotate_left
        ·intro hJ0_2_6;refine join_ (σ:=Value × Addr × Nat) 7 (zqb 13 2095) (fun s_=> [(7,s_.1),(9,.int .i64 b1),(5,.pointer (some ⟨s_.2.2,0,none⟩)),(10,.pointer (some (s_.2.1.add (b1).toNat)))]) (fun s_ w'=>(Kd.R (Kd.int .i64) 3 w' w.heap.size (fun _=>True) s_.1 a4)∧(∃c_,(s_.1:Value)= .slice (some s_.2.1) a4.length c_)∧(w'.heap[a6]? =some (.cells #[.slice A1_0 l1_0.length c1_0,.slice A1_1 l1_1.length c1_1] 68 (0,0)))∧(w'.heap[a5]? =some (.cells #[.int .i64 0,.int .i64 0,.int .i64 0] 25 (0,0)))∧(w'.heap[s_.2.2]? =some (.cells #[.int .i64 0,.int .i64 0,.int .i64 0] 25 (0,0)))∧(w.heap.size≤s_.2.2)∧(w0.heap.size≤s_.2.2)∧(g≠s_.2.2)∧(s_.2.2≠g)∧(a6≠s_.2.2)∧(s_.2.2≠a6)∧(a5≠s_.2.2)∧(s_.2.2≠a5)∧(IsS78 w0 w' g s0_0 d6)∧(KeepBut w w' g none)∧(Below w0.heap.size w0 w')) ?_ ?_;rotate_left
         ·intro hJ0_2_11;refine join_ (σ:=Nat) 6 (zqb 13 2534) (fun s_=> [(9,.int .i64 b1),(13,.int .i64 b6),(5,.pointer (some ⟨s_,0,none⟩)),(14,.int .i64 (wrap64 (Int.tdiv b6 59))),(15,.int .i64 (wrap64 ((wrap64 (Int.tdiv b6 59))*5)))]) (fun s_ w'=>(w'.heap[a6]? =some (.cells #[.slice A1_0 l1_0.length c1_0,.slice A1_1 l1_1.length c1_1] 68 (0,0)))∧(w'.heap[a5]? =some (.cells #[.int .i64 0,.int .i64 0,.int .i64 0] 25 (0,0)))∧(w'.heap[s_]? =some (.cells #[.int .i64 0,.int .i64 0,.int .i64 0] 25 (0,0)))∧(w.heap.size≤s_)∧(w0.heap.size≤s_)∧(g≠s_)∧(s_≠g)∧(a6≠s_)∧(s_≠a6)∧(a5≠s_)∧(s_≠a5)∧(IsS78 w0 w' g s0_0 d3)∧(KeepBut w w' g none)∧(Below w0.heap.size w0 w')) ?_ ?_;rotate_left
          ·intro hJ2_6_11;refine join_ (σ:=Value × Addr) 8 (zqb 13 47) (fun s_=> [(7,s_.1),(9,.int .i64 b1),(10,.pointer (some (s_.2.add (b1).toNat)))]) (fun s_ w'=>(Kd.R (Kd.int .i64) 3 w' w.heap.size (fun _=>True) s_.1 a4)∧(∃c_,(s_.1:Value)= .slice (some s_.2) a4.length c_)∧(w'.heap[a6]? =some (.cells #[.slice A1_0 l1_0.length c1_0,.slice A1_1 l1_1.length c1_1] 68 (0,0)))∧(w'.heap[a5]? =some (.cells #[.int .i64 0,.int .i64 0,.int .i64 0] 25 (0,0)))∧(IsS78 w0 w' g s0_0 d6)∧(KeepBut w w' g none)∧(Below w0.heap.size w0 w')) ?_ ?_;rotate_left
           ·intro hJ0_2;refine join_ (σ:=Value × Addr × Nat) 9 (zqb 13 2083) (fun s_=> [(7,s_.1),(5,.pointer (some ⟨s_.2.2,0,none⟩))]) (fun s_ w'=>(Kd.R (Kd.int .i64) 3 w' w.heap.size (fun _=>True) s_.1 a4)∧(∃c_,(s_.1:Value)= .slice (some s_.2.1) a4.length c_)∧(w'.heap[a6]? =some (.cells #[.slice A1_0 l1_0.length c1_0,.slice A1_1 l1_1.length c1_1] 68 (0,0)))∧(w'.heap[a5]? =some (.cells #[.int .i64 0,.int .i64 0,.int .i64 0] 25 (0,0)))∧(w'.heap[s_.2.2]? =some (.cells #[.int .i64 0,.int .i64 0,.int .i64 0] 25 (0,0)))∧(w.heap.size≤s_.2.2)∧(w0.heap.size≤s_.2.2)∧(g≠s_.2.2)∧(s_.2.2≠g)∧(a6≠s_.2.2)∧(s_.2.2≠a6)∧(a5≠s_.2.2)∧(s_.2.2≠a5)∧(IsS78 w0 w' g s0_0 s0_1)∧(KeepBut w w' g none)∧(Below w0.heap.size w0 w')) ?_ ?_;rotate_left
            ·intro hJ0_11;refine join_ (σ:=Unit) 7 (zqb 13 486) (fun s_=> [(9,.int .i64 b1),(13,.int .i64 b6),(14,.int .i64 (wrap64 (Int.tdiv b6 59))),(15,.int .i64 (wrap64 ((wrap64 (Int.tdiv b6 59))*5)))]) (fun s_ w'=>(w'.heap[a6]? =some (.cells #[.slice A1_0 l1_0.length c1_0,.slice A1_1 l1_1.length c1_1] 68 (0,0)))∧(w'.heap[a5]? =some (.cells #[.int .i64 0,.int .i64 0,.int .i64 0] 25 (0,0)))∧(IsS78 w0 w' g s0_0 d3)∧(KeepBut w w' g none)∧(Below w0.heap.size w0 w')) ?_ ?_;rotate_left
             ·intro hJ2_6;refine join_ (σ:=Nat) 9 (zqb 13 2086) (fun s_=> [(9,.int .i64 b1),(5,.pointer (some ⟨s_,0,none⟩))]) (fun s_ w'=>(w'.heap[a6]? =some (.cells #[.slice A1_0 l1_0.length c1_0,.slice A1_1 l1_1.length c1_1] 68 (0,0)))∧(w'.heap[a5]? =some (.cells #[.int .i64 0,.int .i64 0,.int .i64 0] 25 (0,0)))∧(w'.heap[s_]? =some (.cells #[.int .i64 0,.int .i64 0,.int .i64 0] 25 (0,0)))∧(w.heap.size≤s_)∧(w0.heap.size≤s_)∧(g≠s_)∧(s_≠g)∧(a6≠s_)∧(s_≠a6)∧(a5≠s_)∧(s_≠a5)∧(IsS78 w0 w' g s0_0 d6)∧(KeepBut w w' g none)∧(Below w0.heap.size w0 w')) ?_ ?_;rotate_left
              ·intro hJ2_11;refine join_ (σ:=Value × Addr) 10 (zqb 13 35) (fun s_=> [(7,s_.1)]) (fun s_ w'=>(Kd.R (Kd.int .i64) 3 w' w.heap.size (fun _=>True) s_.1 a4)∧(∃c_,(s_.1:Value)= .slice (some s_.2) a4.length c_)∧(w'.heap[a6]? =some (.cells #[.slice A1_0 l1_0.length c1_0,.slice A1_1 l1_1.length c1_1] 68 (0,0)))∧(w'.heap[a5]? =some (.cells #[.int .i64 0,.int .i64 0,.int .i64 0] 25 (0,0)))∧(IsS78 w0 w' g s0_0 s0_1)∧(KeepBut w w' g none)∧(Below w0.heap.size w0 w')) ?_ ?_;rotate_left
               ·intro hJ0;refine join_ (σ:=Unit) 10 (zqb 13 38) (fun s_=> [(9,.int .i64 b1)]) (fun s_ w'=>(w'.heap[a6]? =some (.cells #[.slice A1_0 l1_0.length c1_0,.slice A1_1 l1_1.length c1_1] 68 (0,0)))∧(w'.heap[a5]? =some (.cells #[.int .i64 0,.int .i64 0,.int .i64 0] 25 (0,0)))∧(IsS78 w0 w' g s0_0 d6)∧(KeepBut w w' g none)∧(Below w0.heap.size w0 w')) ?_ ?_;rotate_left
                ·intro hJ2;refine join_ (σ:=Nat) 10 (zqb 13 2082) (fun s_=> [(5,.pointer (some ⟨s_,0,none⟩))]) (fun s_ w'=>(w'.heap[a6]? =some (.cells #[.slice A1_0 l1_0.length c1_0,.slice A1_1 l1_1.length c1_1] 68 (0,0)))∧(w'.heap[a5]? =some (.cells #[.int .i64 0,.int .i64 0,.int .i64 0] 25 (0,0)))∧(w'.heap[s_]? =some (.cells #[.int .i64 0,.int .i64 0,.int .i64 0] 25 (0,0)))∧(w.heap.size≤s_)∧(w0.heap.size≤s_)∧(g≠s_)∧(s_≠g)∧(a6≠s_)∧(s_≠a6)∧(a5≠s_)∧(s_≠a5)∧(IsS78 w0 w' g s0_0 s0_1)∧(KeepBut w w' g none)∧(Below w0.heap.size w0 w')) ?_ ?_;rotate_left
                 ·intro hJ11;refine three_ (i:=0) (j:=2) (k:=11) (Ni:=some 7) (Nj:=some 9) (Nk:=some 5) (zqb 13 35) (zqb 13 38) (zqb 13 2082) rfl rfl rfl rfl rfl rfl (three_of HT_.out zqk) (by decide) (by decide) (by decide) (fun K hK=>?_) (fun K hK=>?_) (fun K hK=>?_)
                  ·skip
                   refine Kd.R_lit_step (Kd.int .i64) _ 3 ?hg (N:=7) ?hd (xs:=([0,0,1,2,3,3,4]:List Int)) (inner:= [.int .i64 0,.int .i64 0,.int .i64 1,.int .i64 2,.int .i64 3,.int .i64 3,.int .i64 4]) (ok:=fun _=>True) (okp:=fun _=>True) ?hr ?hp (fun _ hk=>hk) trivial (Below.refl _ _) (Nat.le_refl _) (by simp) ?_;(case hd=>rfl);(case hg=>rfl);(case hr=> exact zq18);(case hp=> exact zq24);intro d5 o5 j6 hb hg_ hnew_;clear hg_ hnew_;(first|rw [← e8.out] at j6|(simp only [Int.reduceToNat] at j6;rw [← e8.out] at j6));have c1:=zqm (Kd.R_lower j6 (keep_size (w:=w) (g:=g) (row:=none) zq11));have c7:=zqm (IsS78.below zq9 hb);replace a3:=zqm (blk_below (g:=a6) (o:= .cells #[.slice A1_0 l1_0.length c1_0,.slice A1_1 l1_1.length c1_1] 68 (0,0)) (zqe a3.out) hb);replace a2:=zqm (blk_below (g:=a5) (o:= .cells #[.int .i64 0,.int .i64 0,.int .i64 0] 25 (0,0)) (zqe a2.out) hb);replace HK:=zqm (KeepBut.trans zq11 (KeepBut.of_below hb g none) (.inl rfl));replace HB:=zqm (below_step zq13 hb);clear a1;have a1:=c7;clear c7 hb j6;obtain⟨a0p,o8,p1⟩:=Kd.R_slice c1.out;subst p1;obtain⟨ado14,fo14,_⟩:=Kd.at_int (Kd.R_reads' c1.out).2.2 0 (by decide) (by rw [e8.out];simp)
                   cases fo14
                   refine hK.out _ _ trivial (fun hHeld=>?_);clear hK K;refine norm_ (a':=?_) ?_ ?_;rotate_left
                   ·show Act.put _ (some 7) _=_;exact zqs
                   exact norm_ zq10 (hJ0 (.slice (some ado14) a4.length o8,ado14) _ ⟨(zqfR c1.out),⟨_,rfl⟩,(zqe a3.out),(zqe a2.out),zq9,zq11,zq13⟩)
                  ·skip
                   refine goes_ Tryd.func45 zqk rfl #[.pointer (some ⟨g,0,none⟩),.int .i64 7] (by rfl) rfl rfl zq2 ?_;(with_reducible refine(spec_l20Rd_pick.calls k g s0_0 s0_1 7 b1 d6 w0 _ ?side1 ?side2 A3.out).mono ?_);(case side1=> exact zq9);(case side2=> exact zq13);rintro e o5 ⟨rfl,hi,hb,hk⟩;refine⟨_,rfl,?_⟩;replace a3:=zqm (KeepBut.blk hk (g':=a6) (o:= .cells #[.slice A1_0 l1_0.length c1_0,.slice A1_1 l1_1.length c1_1] 68 (0,0)) (zqe a3.out) d8.out (by simp));replace a2:=zqm (KeepBut.blk hk (g':=a5) (o:= .cells #[.int .i64 0,.int .i64 0,.int .i64 0] 25 (0,0)) (zqe a2.out) d7.out (by simp));replace HK:=zqm (KeepBut.trans zq11 hk (.inl rfl));replace HB:=zqm (hb);replace a1:=zqm (hi);clear hb hk hi;refine hK.out _ _ trivial (fun hHeld=>?_);clear hK K;refine norm_ (a':=?_) ?_ ?_;rotate_left
                   ·show Act.put _ (some 9) _=_;exact zqs
                   exact norm_ zq10 (hJ2 () _ ⟨(zqe a3.out),(zqe a2.out),zq9,zq11,zq13⟩)
                  ·skip
                   refine box_step ?hg (N:=5) ?hd (cs:= #[.int .i64 0,.int .i64 0,.int .i64 0]) (t:=25) ?hr ?_;(case hd=>rfl);(case hg=>rfl);(case hr=> exact zq18);intro a0 hg o5 hbox hb;have d1:=zqm (IsS78.below zq9 hb);have c7:=zqm (blk_below (g:=a6) (o:= .cells #[.slice A1_0 l1_0.length c1_0,.slice A1_1 l1_1.length c1_1] 68 (0,0)) (zqe a3.out) hb);have c8:=zqm (blk_below (g:=a5) (o:= .cells #[.int .i64 0,.int .i64 0,.int .i64 0] 25 (0,0)) (zqe a2.out) hb);have c9:=zqm (KeepBut.trans zq11 (KeepBut.of_below hb g none) (.inl rfl));replace HB:=zqm (below_step zq13 hb);have b0:=zqm (hbox);have b7:=zqm ((by rw [hg];exact(keep_size (w:=w) (g:=g) (row:=none) zq11):w.heap.size≤a0));have c0:=zqm ((Nat.le_trans i1.out (by rw [hg];exact(keep_size (w:=w) (g:=g) (row:=none) zq11):w.heap.size≤a0):w0.heap.size≤a0));have b5:=zqm ((by rw [hg];exact Nat.ne_of_lt (blk_lt (g:=a6) (o:= .cells #[.slice A1_0 l1_0.length c1_0,.slice A1_1 l1_1.length c1_1] 68 (0,0)) (zqe a3.out)):a6≠a0));have b8:=zqm ((by rw [hg];exact Nat.ne_of_gt (blk_lt (g:=a6) (o:= .cells #[.slice A1_0 l1_0.length c1_0,.slice A1_1 l1_1.length c1_1] 68 (0,0)) (zqe a3.out)):a0≠a6));have b3:=zqm ((by rw [hg];exact Nat.ne_of_lt (blk_lt (g:=a5) (o:= .cells #[.int .i64 0,.int .i64 0,.int .i64 0] 25 (0,0)) (zqe a2.out)):a5≠a0));have b9:=zqm ((by rw [hg];exact Nat.ne_of_gt (blk_lt (g:=a5) (o:= .cells #[.int .i64 0,.int .i64 0,.int .i64 0] 25 (0,0)) (zqe a2.out)):a0≠a5));have a9:=zqm ((by rw [hg];exact Nat.ne_of_lt (IsS78.lt (show IsS78 w0 _ g s0_0 s0_1 from zq9)):g≠a0));have c2:=zqm ((by rw [hg];exact Nat.ne_of_gt (IsS78.lt (show IsS78 w0 _ g s0_0 s0_1 from zq9)):a0≠g));clear a1 a3 a2 HK;have a1:=d1;have a3:=c7;have a2:=c8;have HK:=c9;clear d1 c7 c8 c9 hb hbox hg;refine hK.out _ _ trivial (fun hHeld=>?_);clear hK K;refine norm_ (a':=?_) ?_ ?_;rotate_left
                   ·show Act.put _ (some 5) _=_;exact zqs
                   exact norm_ zq10 (hJ11 (a0) _ ⟨(zqe a3.out),(zqe a2.out),(zqe b0.out),b7.out,c0.out,a9.out,c2.out,b5.out,b8.out,b3.out,b9.out,zq6,zq7,zq8⟩)
                 ·skip
                  rintro a0 h8 ⟨h0_,h1_,h2_,h3_,h4_,h5_,h6_,h7_,h8_,h9_,h10_,h11_,h12_,h13_⟩;have d1:Aside0 (h8.heap[a6]? =some (.cells #[.slice A1_0 l1_0.length c1_0,.slice A1_1 l1_1.length c1_1] 68 (0,0))):=⟨h0_⟩;have c7:Aside0 (h8.heap[a5]? =some (.cells #[.int .i64 0,.int .i64 0,.int .i64 0] 25 (0,0))):=⟨h1_⟩;have c8:Aside0 (h8.heap[a0]? =some (.cells #[.int .i64 0,.int .i64 0,.int .i64 0] 25 (0,0))):=⟨h2_⟩;have c9:Aside0 (w.heap.size≤a0):=⟨h3_⟩;have d0:Aside0 (w0.heap.size≤a0):=⟨h4_⟩;have d9:Aside0 (g≠a0):=⟨h5_⟩;have e0:Aside0 (a0≠g):=⟨h6_⟩;have f1:Aside0 (a6≠a0):=⟨h7_⟩;have f2:Aside0 (a0≠a6):=⟨h8_⟩;have f3:Aside0 (a5≠a0):=⟨h9_⟩;have e3:Aside0 (a0≠a5):=⟨h10_⟩;have e4:Aside0 (IsS78 w0 h8 g s0_0 s0_1):=⟨h11_⟩;have e5:Aside0 (KeepBut w h8 g none):=⟨h12_⟩;have e6:Aside0 (Below w0.heap.size w0 h8):=⟨h13_⟩;clear a3 a2 a1 HK HB h0_ h1_ h2_ h3_ h4_ h5_ h6_ h7_ h8_ h9_ h10_ h11_ h12_ h13_;have a3:=d1;have a2:=c7;have b0:=c8;have b7:=c9;have c0:=d0;have a9:=d9;have c2:=e0;have b5:=f1;have b8:=f2;have b3:=f3;have b9:=e3;have a1:=e4;have HK:=e5;have HB:=e6;clear d1 c7 c8 c9 d0 d9 e0 f1 f2 f3 e3 e4 e5 e6;have hHeld:=trivial;refine norm_ (a':=?_) ?_ ?_;rotate_left
                  ·simp only [putAll,Act.put,List.setIfInBounds_toArray,List.set_cons_zero,List.set_cons_succ];rfl
                  refine two_ (i:=0) (j:=2) (Ni:=some 7) (Nj:=some 9) (zqb 13 2083) (zqb 13 2086) rfl rfl rfl rfl (two_of HT_.out zqk) (by decide) (by decide) (fun K hK=>?_) (fun K hK=>?_)
                  ·skip
                   refine Kd.R_lit_step (Kd.int .i64) _ 3 ?hg (N:=7) ?hd (xs:=([0,0,1,2,3,3,4]:List Int)) (inner:= [.int .i64 0,.int .i64 0,.int .i64 1,.int .i64 2,.int .i64 3,.int .i64 3,.int .i64 4]) (ok:=fun _=>True) (okp:=fun _=>True) ?hr ?hp (fun _ hk=>hk) trivial (Below.refl _ _) (Nat.le_refl _) (by simp) ?_;(case hd=>rfl);(case hg=>rfl);(case hr=> exact zq18);(case hp=> exact zq24);intro d5 g0 g7 hb hg_ hnew_;clear hg_ hnew_;(first|rw [← e8.out] at g7|(simp only [Int.reduceToNat] at g7;rw [← e8.out] at g7));have c1:=zqm (Kd.R_lower g7 (keep_size (w:=w) (g:=g) (row:=none) zq7));have c7:=zqm (IsS78.below zq6 hb);replace a3:=zqm (blk_below (g:=a6) (o:= .cells #[.slice A1_0 l1_0.length c1_0,.slice A1_1 l1_1.length c1_1] 68 (0,0)) (zqe a3.out) hb);replace a2:=zqm (blk_below (g:=a5) (o:= .cells #[.int .i64 0,.int .i64 0,.int .i64 0] 25 (0,0)) (zqe a2.out) hb);replace b0:=zqm (blk_below (g:=a0) (o:= .cells #[.int .i64 0,.int .i64 0,.int .i64 0] 25 (0,0)) (zqe b0.out) hb);replace HK:=zqm (KeepBut.trans zq7 (KeepBut.of_below hb g none) (.inl rfl));replace HB:=zqm (below_step zq8 hb);clear a1;have a1:=c7;clear c7 hb g7;obtain⟨o6,i8,j5⟩:=Kd.R_slice c1.out;subst j5;obtain⟨ado16,fo16,_⟩:=Kd.at_int (Kd.R_reads' c1.out).2.2 0 (by decide) (by rw [e8.out];simp)
                   cases fo16
                   refine hK.out _ _ trivial (fun hHeld=>?_);clear hK K;refine norm_ (a':=?_) ?_ ?_;rotate_left
                   ·show Act.put _ (some 7) _=_;exact zqs
                   exact norm_ zq10 (hJ0_11 (.slice (some ado16) a4.length i8,ado16,a0) _ ⟨(zqfR c1.out),⟨_,rfl⟩,(zqe a3.out),(zqe a2.out),(zqe b0.out),b7.out,c0.out,a9.out,c2.out,b5.out,b8.out,b3.out,b9.out,zq6,zq7,zq8⟩)
                  ·skip
                   refine goes_ Tryd.func45 zqk rfl #[.pointer (some ⟨g,0,none⟩),.int .i64 7] (by rfl) rfl rfl zq2 ?_;(with_reducible refine(spec_l20Rd_pick.calls k g s0_0 s0_1 7 b1 d6 w0 _ ?side1 ?side2 A3.out).mono ?_);(case side1=> exact zq6);(case side2=> exact zq8);rintro e g0 ⟨rfl,hi,hb,hk⟩;refine⟨_,rfl,?_⟩;replace a3:=zqm (KeepBut.blk hk (g':=a6) (o:= .cells #[.slice A1_0 l1_0.length c1_0,.slice A1_1 l1_1.length c1_1] 68 (0,0)) (zqe a3.out) d8.out (by simp));replace a2:=zqm (KeepBut.blk hk (g':=a5) (o:= .cells #[.int .i64 0,.int .i64 0,.int .i64 0] 25 (0,0)) (zqe a2.out) d7.out (by simp));replace b0:=zqm (KeepBut.blk hk (g':=a0) (o:= .cells #[.int .i64 0,.int .i64 0,.int .i64 0] 25 (0,0)) (zqe b0.out) c2.out (by simp));replace HK:=zqm (KeepBut.trans zq7 hk (.inl rfl));replace HB:=zqm (hb);replace a1:=zqm (hi);clear hb hk hi;refine hK.out _ _ trivial (fun hHeld=>?_);clear hK K;refine norm_ (a':=?_) ?_ ?_;rotate_left
                   ·show Act.put _ (some 9) _=_;exact zqs
                   exact norm_ zq10 (hJ2_11 (a0) _ ⟨(zqe a3.out),(zqe a2.out),(zqe b0.out),b7.out,c0.out,a9.out,c2.out,b5.out,b8.out,b3.out,b9.out,zq6,zq7,zq8⟩)
                ·skip
                 rintro _ h8 ⟨h0_,h1_,h2_,h3_,h4_⟩;have d1:Aside0 (h8.heap[a6]? =some (.cells #[.slice A1_0 l1_0.length c1_0,.slice A1_1 l1_1.length c1_1] 68 (0,0))):=⟨h0_⟩;have c7:Aside0 (h8.heap[a5]? =some (.cells #[.int .i64 0,.int .i64 0,.int .i64 0] 25 (0,0))):=⟨h1_⟩;have c8:Aside0 (IsS78 w0 h8 g s0_0 d6):=⟨h2_⟩;have c9:Aside0 (KeepBut w h8 g none):=⟨h3_⟩;have d0:Aside0 (Below w0.heap.size w0 h8):=⟨h4_⟩;clear a3 a2 a1 HK HB h0_ h1_ h2_ h3_ h4_;have a3:=d1;have a2:=c7;have a1:=c8;have HK:=c9;have HB:=d0;clear d1 c7 c8 c9 d0;have hHeld:=trivial;refine norm_ (a':=?_) ?_ ?_;rotate_left
                 ·simp only [putAll,Act.put,List.setIfInBounds_toArray,List.set_cons_zero,List.set_cons_succ];rfl
                 refine three_ (i:=0) (j:=6) (k:=11) (Ni:=some 7) (Nj:=some 13) (Nk:=some 5) (zqb 13 39) (zqb 13 102) (zqb 13 2086) rfl rfl rfl rfl rfl rfl (three_of HT_.out zqk) (by decide) (by decide) (by decide) (fun K hK=>?_) (fun K hK=>?_) (fun K hK=>?_)
                 ·skip
                  refine Kd.R_lit_step (Kd.int .i64) _ 3 ?hg (N:=7) ?hd (xs:=([0,0,1,2,3,3,4]:List Int)) (inner:= [.int .i64 0,.int .i64 0,.int .i64 1,.int .i64 2,.int .i64 3,.int .i64 3,.int .i64 4]) (ok:=fun _=>True) (okp:=fun _=>True) ?hr ?hp (fun _ hk=>hk) trivial (Below.refl _ _) (Nat.le_refl _) (by simp) ?_;(case hd=>rfl);(case hg=>rfl);(case hr=> exact zq18);(case hp=> exact zq24);intro d5 g0 g7 hb hg_ hnew_;clear hg_ hnew_;(first|rw [← e8.out] at g7|(simp only [Int.reduceToNat] at g7;rw [← e8.out] at g7));have c1:=zqm (Kd.R_lower g7 (keep_size (w:=w) (g:=g) (row:=none) zq11));have c7:=zqm (IsS78.below zq9 hb);replace a3:=zqm (blk_below (g:=a6) (o:= .cells #[.slice A1_0 l1_0.length c1_0,.slice A1_1 l1_1.length c1_1] 68 (0,0)) (zqe a3.out) hb);replace a2:=zqm (blk_below (g:=a5) (o:= .cells #[.int .i64 0,.int .i64 0,.int .i64 0] 25 (0,0)) (zqe a2.out) hb);replace HK:=zqm (KeepBut.trans zq11 (KeepBut.of_below hb g none) (.inl rfl));replace HB:=zqm (below_step zq13 hb);clear a1;have a1:=c7;clear c7 hb g7;obtain⟨o6,i8,j5⟩:=Kd.R_slice c1.out;subst j5;obtain⟨ado16,fo16,_⟩:=Kd.at_int (Kd.R_reads' c1.out).2.2 0 (by decide) (by rw [e8.out];simp)
                  cases fo16
                  refine hK.out _ _ trivial (fun hHeld=>?_);clear hK K;refine norm_ (a':=?_) ?_ ?_;rotate_left
                  ·show Act.put _ (some 7) _=_;exact zqs
                  refine zqp 3 10 (zqb 13 47) HT_ ?_;exact norm_ zq10 (hJ0_2 (.slice (some ado16) a4.length i8,ado16) _ ⟨(zqfR c1.out),⟨_,rfl⟩,(zqe a3.out),(zqe a2.out),zq9,zq11,zq13⟩)
                 ·skip
                  refine goes_ Tryd.func45 zqk rfl #[.pointer (some ⟨g,0,none⟩),.int .i64 60] (by rfl) rfl rfl zq2 ?_;(with_reducible refine(spec_l20Rd_pick.calls k g s0_0 d6 60 b6 d3 w0 _ ?side1 ?side2 A6.out).mono ?_);(case side1=> exact zq9);(case side2=> exact zq13);rintro e g0 ⟨rfl,hi,hb,hk⟩;refine⟨_,rfl,?_⟩;replace a3:=zqm (KeepBut.blk hk (g':=a6) (o:= .cells #[.slice A1_0 l1_0.length c1_0,.slice A1_1 l1_1.length c1_1] 68 (0,0)) (zqe a3.out) d8.out (by simp));replace a2:=zqm (KeepBut.blk hk (g':=a5) (o:= .cells #[.int .i64 0,.int .i64 0,.int .i64 0] 25 (0,0)) (zqe a2.out) d7.out (by simp));replace HK:=zqm (KeepBut.trans zq11 hk (.inl rfl));replace HB:=zqm (hb);replace a1:=zqm (hi);clear hb hk hi;refine hK.out _ _ trivial (fun hHeld=>?_);clear hK K;refine norm_ (a':=?_) ?_ ?_;rotate_left
                  ·show Act.put _ (some 13) _=_;exact zqs
                  refine zqp 7 14 (zqb 13 230) HT_ ?_;refine zqp 8 15 (zqb 13 486) HT_ ?_;exact norm_ zq10 (hJ2_6 () _ ⟨(zqe a3.out),(zqe a2.out),zq9,zq11,zq13⟩)
                 ·skip
                  refine box_step ?hg (N:=5) ?hd (cs:= #[.int .i64 0,.int .i64 0,.int .i64 0]) (t:=25) ?hr ?_;(case hd=>rfl);(case hg=>rfl);(case hr=> exact zq18);intro a0 hg g0 hbox hb;have d1:=zqm (IsS78.below zq9 hb);have c7:=zqm (blk_below (g:=a6) (o:= .cells #[.slice A1_0 l1_0.length c1_0,.slice A1_1 l1_1.length c1_1] 68 (0,0)) (zqe a3.out) hb);have c8:=zqm (blk_below (g:=a5) (o:= .cells #[.int .i64 0,.int .i64 0,.int .i64 0] 25 (0,0)) (zqe a2.out) hb);have c9:=zqm (KeepBut.trans zq11 (KeepBut.of_below hb g none) (.inl rfl));replace HB:=zqm (below_step zq13 hb);have b0:=zqm (hbox);have b7:=zqm ((by rw [hg];exact(keep_size (w:=w) (g:=g) (row:=none) zq11):w.heap.size≤a0));have c0:=zqm ((Nat.le_trans i1.out (by rw [hg];exact(keep_size (w:=w) (g:=g) (row:=none) zq11):w.heap.size≤a0):w0.heap.size≤a0));have b5:=zqm ((by rw [hg];exact Nat.ne_of_lt (blk_lt (g:=a6) (o:= .cells #[.slice A1_0 l1_0.length c1_0,.slice A1_1 l1_1.length c1_1] 68 (0,0)) (zqe a3.out)):a6≠a0));have b8:=zqm ((by rw [hg];exact Nat.ne_of_gt (blk_lt (g:=a6) (o:= .cells #[.slice A1_0 l1_0.length c1_0,.slice A1_1 l1_1.length c1_1] 68 (0,0)) (zqe a3.out)):a0≠a6));have b3:=zqm ((by rw [hg];exact Nat.ne_of_lt (blk_lt (g:=a5) (o:= .cells #[.int .i64 0,.int .i64 0,.int .i64 0] 25 (0,0)) (zqe a2.out)):a5≠a0));have b9:=zqm ((by rw [hg];exact Nat.ne_of_gt (blk_lt (g:=a5) (o:= .cells #[.int .i64 0,.int .i64 0,.int .i64 0] 25 (0,0)) (zqe a2.out)):a0≠a5));have a9:=zqm ((by rw [hg];exact Nat.ne_of_lt (IsS78.lt (show IsS78 w0 _ g s0_0 d6 from zq9)):g≠a0));have c2:=zqm ((by rw [hg];exact Nat.ne_of_gt (IsS78.lt (show IsS78 w0 _ g s0_0 d6 from zq9)):a0≠g));clear a1 a3 a2 HK;have a1:=d1;have a3:=c7;have a2:=c8;have HK:=c9;clear d1 c7 c8 c9 hb hbox hg;refine hK.out _ _ trivial (fun hHeld=>?_);clear hK K;refine norm_ (a':=?_) ?_ ?_;rotate_left
                  ·show Act.put _ (some 5) _=_;exact zqs
                  exact norm_ zq10 (hJ2_11 (a0) _ ⟨(zqe a3.out),(zqe a2.out),(zqe b0.out),b7.out,c0.out,a9.out,c2.out,b5.out,b8.out,b3.out,b9.out,zq6,zq7,zq8⟩)
               ·skip
                rintro ⟨d5,adz_v273⟩ g1 ⟨h0_,h1_,h2_,h3_,h4_,h5_,h6_⟩;have d1:Aside0 (Kd.R (Kd.int .i64) 3 g1 w.heap.size (fun _=>True) d5 a4):=⟨h0_⟩;have c7:Aside0 (∃c_,(d5:Value)= .slice (some adz_v273) a4.length c_):=⟨h1_⟩;have c8:Aside0 (g1.heap[a6]? =some (.cells #[.slice A1_0 l1_0.length c1_0,.slice A1_1 l1_1.length c1_1] 68 (0,0))):=⟨h2_⟩;have c9:Aside0 (g1.heap[a5]? =some (.cells #[.int .i64 0,.int .i64 0,.int .i64 0] 25 (0,0))):=⟨h3_⟩;have d0:Aside0 (IsS78 w0 g1 g s0_0 s0_1):=⟨h4_⟩;have d9:Aside0 (KeepBut w g1 g none):=⟨h5_⟩;have e0:Aside0 (Below w0.heap.size w0 g1):=⟨h6_⟩;clear a3 a2 a1 HK HB h0_ h1_ h2_ h3_ h4_ h5_ h6_;have c1:=d1;have HA_HO274:=c7;have a3:=c8;have a2:=c9;have a1:=d0;have HK:=d9;have HB:=e0;clear d1 c7 c8 c9 d0 d9 e0;have hHeld:=trivial;obtain⟨i8,j5⟩:=HA_HO274.out;clear HA_HO274;subst j5;refine norm_ (a':=?_) ?_ ?_;rotate_left
                ·simp only [putAll,Act.put,List.setIfInBounds_toArray,List.set_cons_zero,List.set_cons_succ];rfl
                refine two_ (i:=2) (j:=11) (Ni:=some 9) (Nj:=some 5) (zqb 13 39) (zqb 13 2083) rfl rfl rfl rfl (two_of HT_.out zqk) (by decide) (by decide) (fun K hK=>?_) (fun K hK=>?_)
                ·skip
                 refine goes_ Tryd.func45 zqk rfl #[.pointer (some ⟨g,0,none⟩),.int .i64 7] (by rfl) rfl rfl zq2 ?_;(with_reducible refine(spec_l20Rd_pick.calls k g s0_0 s0_1 7 b1 d6 w0 _ ?side1 ?side2 A3.out).mono ?_);(case side1=> exact zq9);(case side2=> exact zq13);rintro e e7 ⟨rfl,hi,hb,hk⟩;refine⟨_,rfl,?_⟩;replace a3:=zqm (KeepBut.blk hk (g':=a6) (o:= .cells #[.slice A1_0 l1_0.length c1_0,.slice A1_1 l1_1.length c1_1] 68 (0,0)) (zqe a3.out) d8.out (by simp));replace a2:=zqm (KeepBut.blk hk (g':=a5) (o:= .cells #[.int .i64 0,.int .i64 0,.int .i64 0] 25 (0,0)) (zqe a2.out) d7.out (by simp));replace c1:=zqm (Kd.R_mono (Kd.R_keep (IsS78.apart (show IsS78 w0 _ g s0_0 s0_1 from zq9) (zqfR c1.out) (by decide)) hk (fun _ h=>h.2)) (fun _ h=>h.1));replace HK:=zqm (KeepBut.trans zq11 hk (.inl rfl));replace HB:=zqm (hb);replace a1:=zqm (hi);clear hb hk hi;refine hK.out _ _ trivial (fun hHeld=>?_);clear hK K;refine norm_ (a':=?_) ?_ ?_;rotate_left
                 ·show Act.put _ (some 9) _=_;exact zqs
                 refine zqp 3 10 (zqb 13 47) HT_ ?_;exact norm_ zq10 (hJ0_2 (.slice (some adz_v273) a4.length i8,adz_v273) _ ⟨(zqfR c1.out),⟨_,rfl⟩,(zqe a3.out),(zqe a2.out),zq9,zq11,zq13⟩)
                ·skip
                 refine box_step ?hg (N:=5) ?hd (cs:= #[.int .i64 0,.int .i64 0,.int .i64 0]) (t:=25) ?hr ?_;(case hd=>rfl);(case hg=>rfl);(case hr=> exact zq18);intro a0 hg e7 hbox hb;replace c1:=zqm (Kd.R_below (zqfR c1.out) hb);have c7:=zqm (IsS78.below zq9 hb);have c8:=zqm (blk_below (g:=a6) (o:= .cells #[.slice A1_0 l1_0.length c1_0,.slice A1_1 l1_1.length c1_1] 68 (0,0)) (zqe a3.out) hb);have c9:=zqm (blk_below (g:=a5) (o:= .cells #[.int .i64 0,.int .i64 0,.int .i64 0] 25 (0,0)) (zqe a2.out) hb);have d0:=zqm (KeepBut.trans zq11 (KeepBut.of_below hb g none) (.inl rfl));replace HB:=zqm (below_step zq13 hb);have b0:=zqm (hbox);have b7:=zqm ((by rw [hg];exact(keep_size (w:=w) (g:=g) (row:=none) zq11):w.heap.size≤a0));have c0:=zqm ((Nat.le_trans i1.out (by rw [hg];exact(keep_size (w:=w) (g:=g) (row:=none) zq11):w.heap.size≤a0):w0.heap.size≤a0));have b5:=zqm ((by rw [hg];exact Nat.ne_of_lt (blk_lt (g:=a6) (o:= .cells #[.slice A1_0 l1_0.length c1_0,.slice A1_1 l1_1.length c1_1] 68 (0,0)) (zqe a3.out)):a6≠a0));have b8:=zqm ((by rw [hg];exact Nat.ne_of_gt (blk_lt (g:=a6) (o:= .cells #[.slice A1_0 l1_0.length c1_0,.slice A1_1 l1_1.length c1_1] 68 (0,0)) (zqe a3.out)):a0≠a6));have b3:=zqm ((by rw [hg];exact Nat.ne_of_lt (blk_lt (g:=a5) (o:= .cells #[.int .i64 0,.int .i64 0,.int .i64 0] 25 (0,0)) (zqe a2.out)):a5≠a0));have b9:=zqm ((by rw [hg];exact Nat.ne_of_gt (blk_lt (g:=a5) (o:= .cells #[.int .i64 0,.int .i64 0,.int .i64 0] 25 (0,0)) (zqe a2.out)):a0≠a5));have a9:=zqm ((by rw [hg];exact Nat.ne_of_lt (IsS78.lt (show IsS78 w0 _ g s0_0 s0_1 from zq9)):g≠a0));have c2:=zqm ((by rw [hg];exact Nat.ne_of_gt (IsS78.lt (show IsS78 w0 _ g s0_0 s0_1 from zq9)):a0≠g));clear a1 a3 a2 HK;have a1:=c7;have a3:=c8;have a2:=c9;have HK:=d0;clear c7 c8 c9 d0 hb hbox hg;refine hK.out _ _ trivial (fun hHeld=>?_);clear hK K;refine norm_ (a':=?_) ?_ ?_;rotate_left
                 ·show Act.put _ (some 5) _=_;exact zqs
                 exact norm_ zq10 (hJ0_11 (.slice (some adz_v273) a4.length i8,adz_v273,a0) _ ⟨(zqfR c1.out),⟨_,rfl⟩,(zqe a3.out),(zqe a2.out),(zqe b0.out),b7.out,c0.out,a9.out,c2.out,b5.out,b8.out,b3.out,b9.out,zq6,zq7,zq8⟩)
              ·skip
               rintro a0 g0 ⟨h0_,h1_,h2_,h3_,h4_,h5_,h6_,h7_,h8_,h9_,h10_,h11_,h12_,h13_⟩;have d1:Aside0 (g0.heap[a6]? =some (.cells #[.slice A1_0 l1_0.length c1_0,.slice A1_1 l1_1.length c1_1] 68 (0,0))):=⟨h0_⟩;have c7:Aside0 (g0.heap[a5]? =some (.cells #[.int .i64 0,.int .i64 0,.int .i64 0] 25 (0,0))):=⟨h1_⟩;have c8:Aside0 (g0.heap[a0]? =some (.cells #[.int .i64 0,.int .i64 0,.int .i64 0] 25 (0,0))):=⟨h2_⟩;have c9:Aside0 (w.heap.size≤a0):=⟨h3_⟩;have d0:Aside0 (w0.heap.size≤a0):=⟨h4_⟩;have d9:Aside0 (g≠a0):=⟨h5_⟩;have e0:Aside0 (a0≠g):=⟨h6_⟩;have f1:Aside0 (a6≠a0):=⟨h7_⟩;have f2:Aside0 (a0≠a6):=⟨h8_⟩;have f3:Aside0 (a5≠a0):=⟨h9_⟩;have e3:Aside0 (a0≠a5):=⟨h10_⟩;have e4:Aside0 (IsS78 w0 g0 g s0_0 d6):=⟨h11_⟩;have e5:Aside0 (KeepBut w g0 g none):=⟨h12_⟩;have e6:Aside0 (Below w0.heap.size w0 g0):=⟨h13_⟩;clear a3 a2 a1 HK HB h0_ h1_ h2_ h3_ h4_ h5_ h6_ h7_ h8_ h9_ h10_ h11_ h12_ h13_;have a3:=d1;have a2:=c7;have b0:=c8;have b7:=c9;have c0:=d0;have a9:=d9;have c2:=e0;have b5:=f1;have b8:=f2;have b3:=f3;have b9:=e3;have a1:=e4;have HK:=e5;have HB:=e6;clear d1 c7 c8 c9 d0 d9 e0 f1 f2 f3 e3 e4 e5 e6;have hHeld:=trivial;refine norm_ (a':=?_) ?_ ?_;rotate_left
               ·simp only [putAll,Act.put,List.setIfInBounds_toArray,List.set_cons_zero,List.set_cons_succ];rfl
               refine two_ (i:=0) (j:=6) (Ni:=some 7) (Nj:=some 13) (zqb 13 2087) (zqb 13 2150) rfl rfl rfl rfl (two_of HT_.out zqk) (by decide) (by decide) (fun K hK=>?_) (fun K hK=>?_)
               ·skip
                refine Kd.R_lit_step (Kd.int .i64) _ 3 ?hg (N:=7) ?hd (xs:=([0,0,1,2,3,3,4]:List Int)) (inner:= [.int .i64 0,.int .i64 0,.int .i64 1,.int .i64 2,.int .i64 3,.int .i64 3,.int .i64 4]) (ok:=fun _=>True) (okp:=fun _=>True) ?hr ?hp (fun _ hk=>hk) trivial (Below.refl _ _) (Nat.le_refl _) (by simp) ?_;(case hd=>rfl);(case hg=>rfl);(case hr=> exact zq18);(case hp=> exact zq24);intro d5 g1 g8 hb hg_ hnew_;clear hg_ hnew_;(first|rw [← e8.out] at g8|(simp only [Int.reduceToNat] at g8;rw [← e8.out] at g8));have c1:=zqm (Kd.R_lower g8 (keep_size (w:=w) (g:=g) (row:=none) zq7));have c7:=zqm (IsS78.below zq6 hb);replace a3:=zqm (blk_below (g:=a6) (o:= .cells #[.slice A1_0 l1_0.length c1_0,.slice A1_1 l1_1.length c1_1] 68 (0,0)) (zqe a3.out) hb);replace a2:=zqm (blk_below (g:=a5) (o:= .cells #[.int .i64 0,.int .i64 0,.int .i64 0] 25 (0,0)) (zqe a2.out) hb);replace b0:=zqm (blk_below (g:=a0) (o:= .cells #[.int .i64 0,.int .i64 0,.int .i64 0] 25 (0,0)) (zqe b0.out) hb);replace HK:=zqm (KeepBut.trans zq7 (KeepBut.of_below hb g none) (.inl rfl));replace HB:=zqm (below_step zq8 hb);clear a1;have a1:=c7;clear c7 hb g8;obtain⟨o7,g2,h5⟩:=Kd.R_slice c1.out;subst h5;obtain⟨ado17,fo17,_⟩:=Kd.at_int (Kd.R_reads' c1.out).2.2 0 (by decide) (by rw [e8.out];simp)
                cases fo17
                refine hK.out _ _ trivial (fun hHeld=>?_);clear hK K;refine norm_ (a':=?_) ?_ ?_;rotate_left
                ·show Act.put _ (some 7) _=_;exact zqs
                refine zqp 3 10 (zqb 13 2095) HT_ ?_;exact norm_ zq10 (hJ0_2_11 (.slice (some ado17) a4.length g2,ado17,a0) _ ⟨(zqfR c1.out),⟨_,rfl⟩,(zqe a3.out),(zqe a2.out),(zqe b0.out),b7.out,c0.out,a9.out,c2.out,b5.out,b8.out,b3.out,b9.out,zq6,zq7,zq8⟩)
               ·skip
                refine goes_ Tryd.func45 zqk rfl #[.pointer (some ⟨g,0,none⟩),.int .i64 60] (by rfl) rfl rfl zq2 ?_;(with_reducible refine(spec_l20Rd_pick.calls k g s0_0 d6 60 b6 d3 w0 _ ?side1 ?side2 A6.out).mono ?_);(case side1=> exact zq6);(case side2=> exact zq8);rintro e g1 ⟨rfl,hi,hb,hk⟩;refine⟨_,rfl,?_⟩;replace a3:=zqm (KeepBut.blk hk (g':=a6) (o:= .cells #[.slice A1_0 l1_0.length c1_0,.slice A1_1 l1_1.length c1_1] 68 (0,0)) (zqe a3.out) d8.out (by simp));replace a2:=zqm (KeepBut.blk hk (g':=a5) (o:= .cells #[.int .i64 0,.int .i64 0,.int .i64 0] 25 (0,0)) (zqe a2.out) d7.out (by simp));replace b0:=zqm (KeepBut.blk hk (g':=a0) (o:= .cells #[.int .i64 0,.int .i64 0,.int .i64 0] 25 (0,0)) (zqe b0.out) c2.out (by simp));replace HK:=zqm (KeepBut.trans zq7 hk (.inl rfl));replace HB:=zqm (hb);replace a1:=zqm (hi);clear hb hk hi;refine hK.out _ _ trivial (fun hHeld=>?_);clear hK K;refine norm_ (a':=?_) ?_ ?_;rotate_left
                ·show Act.put _ (some 13) _=_;exact zqs
                refine zqp 7 14 (zqb 13 2278) HT_ ?_;refine zqp 8 15 (zqb 13 2534) HT_ ?_;exact norm_ zq10 (hJ2_6_11 (a0) _ ⟨(zqe a3.out),(zqe a2.out),(zqe b0.out),b7.out,c0.out,a9.out,c2.out,b5.out,b8.out,b3.out,b9.out,zq6,zq7,zq8⟩)
             ·skip
              rintro _ g0 ⟨h0_,h1_,h2_,h3_,h4_⟩;have d1:Aside0 (g0.heap[a6]? =some (.cells #[.slice A1_0 l1_0.length c1_0,.slice A1_1 l1_1.length c1_1] 68 (0,0))):=⟨h0_⟩;have c7:Aside0 (g0.heap[a5]? =some (.cells #[.int .i64 0,.int .i64 0,.int .i64 0] 25 (0,0))):=⟨h1_⟩;have c8:Aside0 (IsS78 w0 g0 g s0_0 d3):=⟨h2_⟩;have c9:Aside0 (KeepBut w g0 g none):=⟨h3_⟩;have d0:Aside0 (Below w0.heap.size w0 g0):=⟨h4_⟩;clear a3 a2 a1 HK HB h0_ h1_ h2_ h3_ h4_;have a3:=d1;have a2:=c7;have a1:=c8;have HK:=c9;have HB:=d0;clear d1 c7 c8 c9 d0;have hHeld:=trivial;refine norm_ (a':=?_) ?_ ?_;rotate_left
              ·simp only [putAll,Act.put,List.setIfInBounds_toArray,List.set_cons_zero,List.set_cons_succ];rfl
              refine two_ (i:=0) (j:=11) (Ni:=some 7) (Nj:=some 5) (zqb 13 487) (zqb 13 2534) rfl rfl rfl rfl (two_of HT_.out zqk) (by decide) (by decide) (fun K hK=>?_) (fun K hK=>?_)
              ·skip
               refine Kd.R_lit_step (Kd.int .i64) _ 3 ?hg (N:=7) ?hd (xs:=([0,0,1,2,3,3,4]:List Int)) (inner:= [.int .i64 0,.int .i64 0,.int .i64 1,.int .i64 2,.int .i64 3,.int .i64 3,.int .i64 4]) (ok:=fun _=>True) (okp:=fun _=>True) ?hr ?hp (fun _ hk=>hk) trivial (Below.refl _ _) (Nat.le_refl _) (by simp) ?_;(case hd=>rfl);(case hg=>rfl);(case hr=> exact zq18);(case hp=> exact zq24);intro d5 g1 g8 hb hg_ hnew_;clear hg_ hnew_;(first|rw [← e8.out] at g8|(simp only [Int.reduceToNat] at g8;rw [← e8.out] at g8));have c1:=zqm (Kd.R_lower g8 (keep_size (w:=w) (g:=g) (row:=none) zq11));have c7:=zqm (IsS78.below zq9 hb);replace a3:=zqm (blk_below (g:=a6) (o:= .cells #[.slice A1_0 l1_0.length c1_0,.slice A1_1 l1_1.length c1_1] 68 (0,0)) (zqe a3.out) hb);replace a2:=zqm (blk_below (g:=a5) (o:= .cells #[.int .i64 0,.int .i64 0,.int .i64 0] 25 (0,0)) (zqe a2.out) hb);replace HK:=zqm (KeepBut.trans zq11 (KeepBut.of_below hb g none) (.inl rfl));replace HB:=zqm (below_step zq13 hb);clear a1;have a1:=c7;clear c7 hb g8;obtain⟨o7,g2,h5⟩:=Kd.R_slice c1.out;subst h5;obtain⟨ado17,fo17,_⟩:=Kd.at_int (Kd.R_reads' c1.out).2.2 0 (by decide) (by rw [e8.out];simp)
               cases fo17
               refine hK.out _ _ trivial (fun hHeld=>?_);clear hK K;refine norm_ (a':=?_) ?_ ?_;rotate_left
               ·show Act.put _ (some 7) _=_;exact zqs
               refine zqp 3 10 (zqb 13 495) HT_ ?_;exact norm_ zq10 (hJ0_2_6 (.slice (some ado17) a4.length g2,ado17) _ ⟨(zqfR c1.out),⟨_,rfl⟩,(zqe a3.out),(zqe a2.out),zq9,zq11,zq13⟩)
              ·skip
               refine box_step ?hg (N:=5) ?hd (cs:= #[.int .i64 0,.int .i64 0,.int .i64 0]) (t:=25) ?hr ?_;(case hd=>rfl);(case hg=>rfl);(case hr=> exact zq18);intro a0 hg g1 hbox hb;have d1:=zqm (IsS78.below zq9 hb);have c7:=zqm (blk_below (g:=a6) (o:= .cells #[.slice A1_0 l1_0.length c1_0,.slice A1_1 l1_1.length c1_1] 68 (0,0)) (zqe a3.out) hb);have c8:=zqm (blk_below (g:=a5) (o:= .cells #[.int .i64 0,.int .i64 0,.int .i64 0] 25 (0,0)) (zqe a2.out) hb);have c9:=zqm (KeepBut.trans zq11 (KeepBut.of_below hb g none) (.inl rfl));replace HB:=zqm (below_step zq13 hb);have b0:=zqm (hbox);have b7:=zqm ((by rw [hg];exact(keep_size (w:=w) (g:=g) (row:=none) zq11):w.heap.size≤a0));have c0:=zqm ((Nat.le_trans i1.out (by rw [hg];exact(keep_size (w:=w) (g:=g) (row:=none) zq11):w.heap.size≤a0):w0.heap.size≤a0));have b5:=zqm ((by rw [hg];exact Nat.ne_of_lt (blk_lt (g:=a6) (o:= .cells #[.slice A1_0 l1_0.length c1_0,.slice A1_1 l1_1.length c1_1] 68 (0,0)) (zqe a3.out)):a6≠a0));have b8:=zqm ((by rw [hg];exact Nat.ne_of_gt (blk_lt (g:=a6) (o:= .cells #[.slice A1_0 l1_0.length c1_0,.slice A1_1 l1_1.length c1_1] 68 (0,0)) (zqe a3.out)):a0≠a6));have b3:=zqm ((by rw [hg];exact Nat.ne_of_lt (blk_lt (g:=a5) (o:= .cells #[.int .i64 0,.int .i64 0,.int .i64 0] 25 (0,0)) (zqe a2.out)):a5≠a0));have b9:=zqm ((by rw [hg];exact Nat.ne_of_gt (blk_lt (g:=a5) (o:= .cells #[.int .i64 0,.int .i64 0,.int .i64 0] 25 (0,0)) (zqe a2.out)):a0≠a5));have a9:=zqm ((by rw [hg];exact Nat.ne_of_lt (IsS78.lt (show IsS78 w0 _ g s0_0 d3 from zq9)):g≠a0));have c2:=zqm ((by rw [hg];exact Nat.ne_of_gt (IsS78.lt (show IsS78 w0 _ g s0_0 d3 from zq9)):a0≠g));clear a1 a3 a2 HK;have a1:=d1;have a3:=c7;have a2:=c8;have HK:=c9;clear d1 c7 c8 c9 hb hbox hg;refine hK.out _ _ trivial (fun hHeld=>?_);clear hK K;refine norm_ (a':=?_) ?_ ?_;rotate_left
               ·show Act.put _ (some 5) _=_;exact zqs
               exact norm_ zq10 (hJ2_6_11 (a0) _ ⟨(zqe a3.out),(zqe a2.out),(zqe b0.out),b7.out,c0.out,a9.out,c2.out,b5.out,b8.out,b3.out,b9.out,zq6,zq7,zq8⟩)
            ·skip
             rintro ⟨d5,adz_v273,a0⟩ f4 ⟨h0_,h1_,h2_,h3_,h4_,h5_,h6_,h7_,h8_,h9_,h10_,h11_,h12_,h13_,h14_,h15_⟩;have d1:Aside0 (Kd.R (Kd.int .i64) 3 f4 w.heap.size (fun _=>True) d5 a4):=⟨h0_⟩;have c7:Aside0 (∃c_,(d5:Value)= .slice (some adz_v273) a4.length c_):=⟨h1_⟩;have c8:Aside0 (f4.heap[a6]? =some (.cells #[.slice A1_0 l1_0.length c1_0,.slice A1_1 l1_1.length c1_1] 68 (0,0))):=⟨h2_⟩;have c9:Aside0 (f4.heap[a5]? =some (.cells #[.int .i64 0,.int .i64 0,.int .i64 0] 25 (0,0))):=⟨h3_⟩;have d0:Aside0 (f4.heap[a0]? =some (.cells #[.int .i64 0,.int .i64 0,.int .i64 0] 25 (0,0))):=⟨h4_⟩;have d9:Aside0 (w.heap.size≤a0):=⟨h5_⟩;have e0:Aside0 (w0.heap.size≤a0):=⟨h6_⟩;have f1:Aside0 (g≠a0):=⟨h7_⟩;have f2:Aside0 (a0≠g):=⟨h8_⟩;have f3:Aside0 (a6≠a0):=⟨h9_⟩;have e3:Aside0 (a0≠a6):=⟨h10_⟩;have e4:Aside0 (a5≠a0):=⟨h11_⟩;have e5:Aside0 (a0≠a5):=⟨h12_⟩;have e6:Aside0 (IsS78 w0 f4 g s0_0 s0_1):=⟨h13_⟩;have f6:Aside0 (KeepBut w f4 g none):=⟨h14_⟩;have f7:Aside0 (Below w0.heap.size w0 f4):=⟨h15_⟩;clear a3 a2 a1 HK HB h0_ h1_ h2_ h3_ h4_ h5_ h6_ h7_ h8_ h9_ h10_ h11_ h12_ h13_ h14_ h15_;have c1:=d1;have HA_HO274:=c7;have a3:=c8;have a2:=c9;have b0:=d0;have b7:=d9;have c0:=e0;have a9:=f1;have c2:=f2;have b5:=f3;have b8:=e3;have b3:=e4;have b9:=e5;have a1:=e6;have HK:=f6;have HB:=f7;clear d1 c7 c8 c9 d0 d9 e0 f1 f2 f3 e3 e4 e5 e6 f6 f7;have hHeld:=trivial;obtain⟨g2,h5⟩:=HA_HO274.out;clear HA_HO274;subst h5;refine norm_ (a':=?_) ?_ ?_;rotate_left
             ·simp only [putAll,Act.put,List.setIfInBounds_toArray,List.set_cons_zero,List.set_cons_succ];rfl
             refine one_ (i:=2) (N:=some 9) (zqb 13 2087) rfl rfl (one_of HT_.out zqk) (by decide) (fun K hK=>?_);refine goes_ Tryd.func45 zqk rfl #[.pointer (some ⟨g,0,none⟩),.int .i64 7] (by rfl) rfl rfl zq2 ?_;(with_reducible refine(spec_l20Rd_pick.calls k g s0_0 s0_1 7 b1 d6 w0 _ ?side1 ?side2 A3.out).mono ?_);(case side1=> exact zq6);(case side2=> exact zq8);rintro e e9 ⟨rfl,hi,hb,hk⟩;refine⟨_,rfl,?_⟩;replace a3:=zqm (KeepBut.blk hk (g':=a6) (o:= .cells #[.slice A1_0 l1_0.length c1_0,.slice A1_1 l1_1.length c1_1] 68 (0,0)) (zqe a3.out) d8.out (by simp));replace a2:=zqm (KeepBut.blk hk (g':=a5) (o:= .cells #[.int .i64 0,.int .i64 0,.int .i64 0] 25 (0,0)) (zqe a2.out) d7.out (by simp));replace c1:=zqm (Kd.R_mono (Kd.R_keep (IsS78.apart (show IsS78 w0 _ g s0_0 s0_1 from zq6) (zqfR c1.out) (by decide)) hk (fun _ h=>h.2)) (fun _ h=>h.1));replace b0:=zqm (KeepBut.blk hk (g':=a0) (o:= .cells #[.int .i64 0,.int .i64 0,.int .i64 0] 25 (0,0)) (zqe b0.out) c2.out (by simp));replace HK:=zqm (KeepBut.trans zq7 hk (.inl rfl));replace HB:=zqm (hb);replace a1:=zqm (hi);clear hb hk hi;refine hK.out _ _ trivial (fun hHeld=>?_);clear hK K;refine norm_ (a':=?_) ?_ ?_;rotate_left
             ·show Act.put _ (some 9) _=_;exact zqs
             refine zqp 3 10 (zqb 13 2095) HT_ ?_;exact norm_ zq10 (hJ0_2_11 (.slice (some adz_v273) a4.length g2,adz_v273,a0) _ ⟨(zqfR c1.out),⟨_,rfl⟩,(zqe a3.out),(zqe a2.out),(zqe b0.out),b7.out,c0.out,a9.out,c2.out,b5.out,b8.out,b3.out,b9.out,zq6,zq7,zq8⟩)
           ·skip
            rintro ⟨d5,adz_v273⟩ f4 ⟨h0_,h1_,h2_,h3_,h4_,h5_,h6_⟩;have d1:Aside0 (Kd.R (Kd.int .i64) 3 f4 w.heap.size (fun _=>True) d5 a4):=⟨h0_⟩;have c7:Aside0 (∃c_,(d5:Value)= .slice (some adz_v273) a4.length c_):=⟨h1_⟩;have c8:Aside0 (f4.heap[a6]? =some (.cells #[.slice A1_0 l1_0.length c1_0,.slice A1_1 l1_1.length c1_1] 68 (0,0))):=⟨h2_⟩;have c9:Aside0 (f4.heap[a5]? =some (.cells #[.int .i64 0,.int .i64 0,.int .i64 0] 25 (0,0))):=⟨h3_⟩;have d0:Aside0 (IsS78 w0 f4 g s0_0 d6):=⟨h4_⟩;have d9:Aside0 (KeepBut w f4 g none):=⟨h5_⟩;have e0:Aside0 (Below w0.heap.size w0 f4):=⟨h6_⟩;clear a3 a2 a1 HK HB h0_ h1_ h2_ h3_ h4_ h5_ h6_;have c1:=d1;have HA_HO274:=c7;have a3:=c8;have a2:=c9;have a1:=d0;have HK:=d9;have HB:=e0;clear d1 c7 c8 c9 d0 d9 e0;have hHeld:=trivial;obtain⟨g2,h5⟩:=HA_HO274.out;clear HA_HO274;subst h5;refine norm_ (a':=?_) ?_ ?_;rotate_left
            ·simp only [putAll,Act.put,List.setIfInBounds_toArray,List.set_cons_zero,List.set_cons_succ];rfl
            refine three_ (i:=4) (j:=6) (k:=11) (Ni:=some 11) (Nj:=some 13) (Nk:=some 5) (zqb 13 63) (zqb 13 111) (zqb 13 2095) rfl rfl rfl rfl rfl rfl (three_of HT_.out zqk) (by decide) (by decide) (by decide) (fun K hK=>?_) (fun K hK=>?_) (fun K hK=>?_)
            ·skip
             (have i3:0≤(b1:Int):=zqo;have i4:b1<(a4.length:Int):=zqo;obtain⟨h3,i2,f9⟩:=Kd.at_int (Kd.R_reads' c1.out).2.2 b1 i3 i4;obtain rfl:adz_v273=h3:=(by injection i2));refine value_ (w1:=?_) (v:=?_) (by rfl) rfl ?_ ?_;rotate_left 2
             ·go_simp
              constructor
              ·rfl
              ·rfl
             clear f9;refine hK.out _ _ trivial (fun hHeld=>?_);clear hK K;refine norm_ (a':=?_) ?_ ?_;rotate_left
             ·show Act.put _ (some 11) _=_;exact zqs
             exact norm_ zq10 (hJ0_2_4 (.slice (some adz_v273) a4.length g2,adz_v273) _ ⟨(zqfR c1.out),⟨_,rfl⟩,(zqe a3.out),(zqe a2.out),zq9,zq11,zq13⟩)
            ·skip
             refine goes_ Tryd.func45 zqk rfl #[.pointer (some ⟨g,0,none⟩),.int .i64 60] (by rfl) rfl rfl zq2 ?_;(with_reducible refine(spec_l20Rd_pick.calls k g s0_0 d6 60 b6 d3 w0 _ ?side1 ?side2 A6.out).mono ?_);(case side1=> exact zq9);(case side2=> exact zq13);rintro e e9 ⟨rfl,hi,hb,hk⟩;refine⟨_,rfl,?_⟩;replace a3:=zqm (KeepBut.blk hk (g':=a6) (o:= .cells #[.slice A1_0 l1_0.length c1_0,.slice A1_1 l1_1.length c1_1] 68 (0,0)) (zqe a3.out) d8.out (by simp));replace a2:=zqm (KeepBut.blk hk (g':=a5) (o:= .cells #[.int .i64 0,.int .i64 0,.int .i64 0] 25 (0,0)) (zqe a2.out) d7.out (by simp));replace c1:=zqm (Kd.R_mono (Kd.R_keep (IsS78.apart (show IsS78 w0 _ g s0_0 d6 from zq9) (zqfR c1.out) (by decide)) hk (fun _ h=>h.2)) (fun _ h=>h.1));replace HK:=zqm (KeepBut.trans zq11 hk (.inl rfl));replace HB:=zqm (hb);replace a1:=zqm (hi);clear hb hk hi;refine hK.out _ _ trivial (fun hHeld=>?_);clear hK K;refine norm_ (a':=?_) ?_ ?_;rotate_left
             ·show Act.put _ (some 13) _=_;exact zqs
             refine zqp 7 14 (zqb 13 239) HT_ ?_;refine zqp 8 15 (zqb 13 495) HT_ ?_;exact norm_ zq10 (hJ0_2_6 (.slice (some adz_v273) a4.length g2,adz_v273) _ ⟨(zqfR c1.out),⟨_,rfl⟩,(zqe a3.out),(zqe a2.out),zq9,zq11,zq13⟩)
            ·skip
             refine box_step ?hg (N:=5) ?hd (cs:= #[.int .i64 0,.int .i64 0,.int .i64 0]) (t:=25) ?hr ?_;(case hd=>rfl);(case hg=>rfl);(case hr=> exact zq18);intro a0 hg e9 hbox hb;replace c1:=zqm (Kd.R_below (zqfR c1.out) hb);have c7:=zqm (IsS78.below zq9 hb);have c8:=zqm (blk_below (g:=a6) (o:= .cells #[.slice A1_0 l1_0.length c1_0,.slice A1_1 l1_1.length c1_1] 68 (0,0)) (zqe a3.out) hb);have c9:=zqm (blk_below (g:=a5) (o:= .cells #[.int .i64 0,.int .i64 0,.int .i64 0] 25 (0,0)) (zqe a2.out) hb);have d0:=zqm (KeepBut.trans zq11 (KeepBut.of_below hb g none) (.inl rfl));replace HB:=zqm (below_step zq13 hb);have b0:=zqm (hbox);have b7:=zqm ((by rw [hg];exact(keep_size (w:=w) (g:=g) (row:=none) zq11):w.heap.size≤a0));have c0:=zqm ((Nat.le_trans i1.out (by rw [hg];exact(keep_size (w:=w) (g:=g) (row:=none) zq11):w.heap.size≤a0):w0.heap.size≤a0));have b5:=zqm ((by rw [hg];exact Nat.ne_of_lt (blk_lt (g:=a6) (o:= .cells #[.slice A1_0 l1_0.length c1_0,.slice A1_1 l1_1.length c1_1] 68 (0,0)) (zqe a3.out)):a6≠a0));have b8:=zqm ((by rw [hg];exact Nat.ne_of_gt (blk_lt (g:=a6) (o:= .cells #[.slice A1_0 l1_0.length c1_0,.slice A1_1 l1_1.length c1_1] 68 (0,0)) (zqe a3.out)):a0≠a6));have b3:=zqm ((by rw [hg];exact Nat.ne_of_lt (blk_lt (g:=a5) (o:= .cells #[.int .i64 0,.int .i64 0,.int .i64 0] 25 (0,0)) (zqe a2.out)):a5≠a0));have b9:=zqm ((by rw [hg];exact Nat.ne_of_gt (blk_lt (g:=a5) (o:= .cells #[.int .i64 0,.int .i64 0,.int .i64 0] 25 (0,0)) (zqe a2.out)):a0≠a5));have a9:=zqm ((by rw [hg];exact Nat.ne_of_lt (IsS78.lt (show IsS78 w0 _ g s0_0 d6 from zq9)):g≠a0));have c2:=zqm ((by rw [hg];exact Nat.ne_of_gt (IsS78.lt (show IsS78 w0 _ g s0_0 d6 from zq9)):a0≠g));clear a1 a3 a2 HK;have a1:=c7;have a3:=c8;have a2:=c9;have HK:=d0;clear c7 c8 c9 d0 hb hbox hg;refine hK.out _ _ trivial (fun hHeld=>?_);clear hK K;refine norm_ (a':=?_) ?_ ?_;rotate_left
             ·show Act.put _ (some 5) _=_;exact zqs
             exact norm_ zq10 (hJ0_2_11 (.slice (some adz_v273) a4.length g2,adz_v273,a0) _ ⟨(zqfR c1.out),⟨_,rfl⟩,(zqe a3.out),(zqe a2.out),(zqe b0.out),b7.out,c0.out,a9.out,c2.out,b5.out,b8.out,b3.out,b9.out,zq6,zq7,zq8⟩)
          ·skip
           rintro a0 g1 ⟨h0_,h1_,h2_,h3_,h4_,h5_,h6_,h7_,h8_,h9_,h10_,h11_,h12_,h13_⟩;have d1:Aside0 (g1.heap[a6]? =some (.cells #[.slice A1_0 l1_0.length c1_0,.slice A1_1 l1_1.length c1_1] 68 (0,0))):=⟨h0_⟩;have c7:Aside0 (g1.heap[a5]? =some (.cells #[.int .i64 0,.int .i64 0,.int .i64 0] 25 (0,0))):=⟨h1_⟩;have c8:Aside0 (g1.heap[a0]? =some (.cells #[.int .i64 0,.int .i64 0,.int .i64 0] 25 (0,0))):=⟨h2_⟩;have c9:Aside0 (w.heap.size≤a0):=⟨h3_⟩;have d0:Aside0 (w0.heap.size≤a0):=⟨h4_⟩;have d9:Aside0 (g≠a0):=⟨h5_⟩;have e0:Aside0 (a0≠g):=⟨h6_⟩;have f1:Aside0 (a6≠a0):=⟨h7_⟩;have f2:Aside0 (a0≠a6):=⟨h8_⟩;have f3:Aside0 (a5≠a0):=⟨h9_⟩;have e3:Aside0 (a0≠a5):=⟨h10_⟩;have e4:Aside0 (IsS78 w0 g1 g s0_0 d3):=⟨h11_⟩;have e5:Aside0 (KeepBut w g1 g none):=⟨h12_⟩;have e6:Aside0 (Below w0.heap.size w0 g1):=⟨h13_⟩;clear a3 a2 a1 HK HB h0_ h1_ h2_ h3_ h4_ h5_ h6_ h7_ h8_ h9_ h10_ h11_ h12_ h13_;have a3:=d1;have a2:=c7;have b0:=c8;have b7:=c9;have c0:=d0;have a9:=d9;have c2:=e0;have b5:=f1;have b8:=f2;have b3:=f3;have b9:=e3;have a1:=e4;have HK:=e5;have HB:=e6;clear d1 c7 c8 c9 d0 d9 e0 f1 f2 f3 e3 e4 e5 e6;have hHeld:=trivial;refine norm_ (a':=?_) ?_ ?_;rotate_left
           ·simp only [putAll,Act.put,List.setIfInBounds_toArray,List.set_cons_zero,List.set_cons_succ];rfl
           refine one_ (i:=0) (N:=some 7) (zqb 13 2535) rfl rfl (one_of HT_.out zqk) (by decide) (fun K hK=>?_);refine Kd.R_lit_step (Kd.int .i64) _ 3 ?hg (N:=7) ?hd (xs:=([0,0,1,2,3,3,4]:List Int)) (inner:= [.int .i64 0,.int .i64 0,.int .i64 1,.int .i64 2,.int .i64 3,.int .i64 3,.int .i64 4]) (ok:=fun _=>True) (okp:=fun _=>True) ?hr ?hp (fun _ hk=>hk) trivial (Below.refl _ _) (Nat.le_refl _) (by simp) ?_;(case hd=>rfl);(case hg=>rfl);(case hr=> exact zq18);(case hp=> exact zq24);intro d5 f4 j7 hb hg_ hnew_;clear hg_ hnew_;(first|rw [← e8.out] at j7|(simp only [Int.reduceToNat] at j7;rw [← e8.out] at j7));have c1:=zqm (Kd.R_lower j7 (keep_size (w:=w) (g:=g) (row:=none) zq7));have c7:=zqm (IsS78.below zq6 hb);replace a3:=zqm (blk_below (g:=a6) (o:= .cells #[.slice A1_0 l1_0.length c1_0,.slice A1_1 l1_1.length c1_1] 68 (0,0)) (zqe a3.out) hb);replace a2:=zqm (blk_below (g:=a5) (o:= .cells #[.int .i64 0,.int .i64 0,.int .i64 0] 25 (0,0)) (zqe a2.out) hb);replace b0:=zqm (blk_below (g:=a0) (o:= .cells #[.int .i64 0,.int .i64 0,.int .i64 0] 25 (0,0)) (zqe b0.out) hb);replace HK:=zqm (KeepBut.trans zq7 (KeepBut.of_below hb g none) (.inl rfl));replace HB:=zqm (below_step zq8 hb);clear a1;have a1:=c7;clear c7 hb j7;obtain⟨a0q,g6,h6⟩:=Kd.R_slice c1.out;subst h6;obtain⟨ado18,fo18,_⟩:=Kd.at_int (Kd.R_reads' c1.out).2.2 0 (by decide) (by rw [e8.out];simp)
           cases fo18
           refine hK.out _ _ trivial (fun hHeld=>?_);clear hK K;refine norm_ (a':=?_) ?_ ?_;rotate_left
           ·show Act.put _ (some 7) _=_;exact zqs
           refine zqp 3 10 (zqb 13 2543) HT_ ?_;exact norm_ zq10 (hJ0_2_6_11 (.slice (some ado18) a4.length g6,ado18,a0) _ ⟨(zqfR c1.out),⟨_,rfl⟩,(zqe a3.out),(zqe a2.out),(zqe b0.out),b7.out,c0.out,a9.out,c2.out,b5.out,b8.out,b3.out,b9.out,zq6,zq7,zq8⟩)
         ·skip
          rintro ⟨d5,adz_v273,a0⟩ e7 ⟨h0_,h1_,h2_,h3_,h4_,h5_,h6_,h7_,h8_,h9_,h10_,h11_,h12_,h13_,h14_,h15_⟩;have d1:Aside0 (Kd.R (Kd.int .i64) 3 e7 w.heap.size (fun _=>True) d5 a4):=⟨h0_⟩;have c7:Aside0 (∃c_,(d5:Value)= .slice (some adz_v273) a4.length c_):=⟨h1_⟩;have c8:Aside0 (e7.heap[a6]? =some (.cells #[.slice A1_0 l1_0.length c1_0,.slice A1_1 l1_1.length c1_1] 68 (0,0))):=⟨h2_⟩;have c9:Aside0 (e7.heap[a5]? =some (.cells #[.int .i64 0,.int .i64 0,.int .i64 0] 25 (0,0))):=⟨h3_⟩;have d0:Aside0 (e7.heap[a0]? =some (.cells #[.int .i64 0,.int .i64 0,.int .i64 0] 25 (0,0))):=⟨h4_⟩;have d9:Aside0 (w.heap.size≤a0):=⟨h5_⟩;have e0:Aside0 (w0.heap.size≤a0):=⟨h6_⟩;have f1:Aside0 (g≠a0):=⟨h7_⟩;have f2:Aside0 (a0≠g):=⟨h8_⟩;have f3:Aside0 (a6≠a0):=⟨h9_⟩;have e3:Aside0 (a0≠a6):=⟨h10_⟩;have e4:Aside0 (a5≠a0):=⟨h11_⟩;have e5:Aside0 (a0≠a5):=⟨h12_⟩;have e6:Aside0 (IsS78 w0 e7 g s0_0 d6):=⟨h13_⟩;have f6:Aside0 (KeepBut w e7 g none):=⟨h14_⟩;have f7:Aside0 (Below w0.heap.size w0 e7):=⟨h15_⟩;clear a3 a2 a1 HK HB h0_ h1_ h2_ h3_ h4_ h5_ h6_ h7_ h8_ h9_ h10_ h11_ h12_ h13_ h14_ h15_;have c1:=d1;have HA_HO274:=c7;have a3:=c8;have a2:=c9;have b0:=d0;have b7:=d9;have c0:=e0;have a9:=f1;have c2:=f2;have b5:=f3;have b8:=e3;have b3:=e4;have b9:=e5;have a1:=e6;have HK:=f6;have HB:=f7;clear d1 c7 c8 c9 d0 d9 e0 f1 f2 f3 e3 e4 e5 e6 f6 f7;have hHeld:=trivial;obtain⟨g6,h6⟩:=HA_HO274.out;clear HA_HO274;subst h6;refine norm_ (a':=?_) ?_ ?_;rotate_left
          ·simp only [putAll,Act.put,List.setIfInBounds_toArray,List.set_cons_zero,List.set_cons_succ];rfl
          refine two_ (i:=4) (j:=6) (Ni:=some 11) (Nj:=some 13) (zqb 13 2111) (zqb 13 2159) rfl rfl rfl rfl (two_of HT_.out zqk) (by decide) (by decide) (fun K hK=>?_) (fun K hK=>?_)
          ·skip
           (have i3:0≤(b1:Int):=zqo;have i4:b1<(a4.length:Int):=zqo;obtain⟨h3,i2,f9⟩:=Kd.at_int (Kd.R_reads' c1.out).2.2 b1 i3 i4;obtain rfl:adz_v273=h3:=(by injection i2));refine value_ (w1:=?_) (v:=?_) (by rfl) rfl ?_ ?_;rotate_left 2
           ·go_simp
            constructor
            ·rfl
            ·rfl
           clear f9;refine hK.out _ _ trivial (fun hHeld=>?_);clear hK K;refine norm_ (a':=?_) ?_ ?_;rotate_left
           ·show Act.put _ (some 11) _=_;exact zqs
           exact norm_ zq10 (hJ0_2_4_11 (.slice (some adz_v273) a4.length g6,adz_v273,a0) _ ⟨(zqfR c1.out),⟨_,rfl⟩,(zqe a3.out),(zqe a2.out),(zqe b0.out),b7.out,c0.out,a9.out,c2.out,b5.out,b8.out,b3.out,b9.out,zq6,zq7,zq8⟩)
          ·skip
           refine goes_ Tryd.func45 zqk rfl #[.pointer (some ⟨g,0,none⟩),.int .i64 60] (by rfl) rfl rfl zq2 ?_;(with_reducible refine(spec_l20Rd_pick.calls k g s0_0 d6 60 b6 d3 w0 _ ?side1 ?side2 A6.out).mono ?_);(case side1=> exact zq6);(case side2=> exact zq8);rintro e n8 ⟨rfl,hi,hb,hk⟩;refine⟨_,rfl,?_⟩;replace a3:=zqm (KeepBut.blk hk (g':=a6) (o:= .cells #[.slice A1_0 l1_0.length c1_0,.slice A1_1 l1_1.length c1_1] 68 (0,0)) (zqe a3.out) d8.out (by simp));replace a2:=zqm (KeepBut.blk hk (g':=a5) (o:= .cells #[.int .i64 0,.int .i64 0,.int .i64 0] 25 (0,0)) (zqe a2.out) d7.out (by simp));replace c1:=zqm (Kd.R_mono (Kd.R_keep (IsS78.apart (show IsS78 w0 _ g s0_0 d6 from zq6) (zqfR c1.out) (by decide)) hk (fun _ h=>h.2)) (fun _ h=>h.1));replace b0:=zqm (KeepBut.blk hk (g':=a0) (o:= .cells #[.int .i64 0,.int .i64 0,.int .i64 0] 25 (0,0)) (zqe b0.out) c2.out (by simp));replace HK:=zqm (KeepBut.trans zq7 hk (.inl rfl));replace HB:=zqm (hb);replace a1:=zqm (hi);clear hb hk hi;refine hK.out _ _ trivial (fun hHeld=>?_);clear hK K;refine norm_ (a':=?_) ?_ ?_;rotate_left
           ·show Act.put _ (some 13) _=_;exact zqs
           refine zqp 7 14 (zqb 13 2287) HT_ ?_;refine zqp 8 15 (zqb 13 2543) HT_ ?_;exact norm_ zq10 (hJ0_2_6_11 (.slice (some adz_v273) a4.length g6,adz_v273,a0) _ ⟨(zqfR c1.out),⟨_,rfl⟩,(zqe a3.out),(zqe a2.out),(zqe b0.out),b7.out,c0.out,a9.out,c2.out,b5.out,b8.out,b3.out,b9.out,zq6,zq7,zq8⟩)
        ·skip
         rintro ⟨d5,adz_v273⟩ e7 ⟨h0_,h1_,h2_,h3_,h4_,h5_,h6_⟩;have d1:Aside0 (Kd.R (Kd.int .i64) 3 e7 w.heap.size (fun _=>True) d5 a4):=⟨h0_⟩;have c7:Aside0 (∃c_,(d5:Value)= .slice (some adz_v273) a4.length c_):=⟨h1_⟩;have c8:Aside0 (e7.heap[a6]? =some (.cells #[.slice A1_0 l1_0.length c1_0,.slice A1_1 l1_1.length c1_1] 68 (0,0))):=⟨h2_⟩;have c9:Aside0 (e7.heap[a5]? =some (.cells #[.int .i64 0,.int .i64 0,.int .i64 0] 25 (0,0))):=⟨h3_⟩;have d0:Aside0 (IsS78 w0 e7 g s0_0 d3):=⟨h4_⟩;have d9:Aside0 (KeepBut w e7 g none):=⟨h5_⟩;have e0:Aside0 (Below w0.heap.size w0 e7):=⟨h6_⟩;clear a3 a2 a1 HK HB h0_ h1_ h2_ h3_ h4_ h5_ h6_;have c1:=d1;have HA_HO274:=c7;have a3:=c8;have a2:=c9;have a1:=d0;have HK:=d9;have HB:=e0;clear d1 c7 c8 c9 d0 d9 e0;have hHeld:=trivial;obtain⟨g6,h6⟩:=HA_HO274.out;clear HA_HO274;subst h6;refine norm_ (a':=?_) ?_ ?_;rotate_left
         ·simp only [putAll,Act.put,List.setIfInBounds_toArray,List.set_cons_zero,List.set_cons_succ];rfl
         refine two_ (i:=4) (j:=11) (Ni:=some 11) (Nj:=some 5) (zqb 13 511) (zqb 13 2543) rfl rfl rfl rfl (two_of HT_.out zqk) (by decide) (by decide) (fun K hK=>?_) (fun K hK=>?_)
         ·skip
          (have i3:0≤(b1:Int):=zqo;have i4:b1<(a4.length:Int):=zqo;obtain⟨h3,i2,f9⟩:=Kd.at_int (Kd.R_reads' c1.out).2.2 b1 i3 i4;obtain rfl:adz_v273=h3:=(by injection i2));refine value_ (w1:=?_) (v:=?_) (by rfl) rfl ?_ ?_;rotate_left 2
          ·go_simp
           constructor
           ·rfl
           ·rfl
          clear f9;refine hK.out _ _ trivial (fun hHeld=>?_);clear hK K;refine norm_ (a':=?_) ?_ ?_;rotate_left
          ·show Act.put _ (some 11) _=_;exact zqs
          refine zqp 9 16 (zqb 13 1023) HT_ ?_;refine zqp 10 17 (zqb 13 2047) HT_ ?_;exact norm_ zq10 (hJ0_2_4_6 (.slice (some adz_v273) a4.length g6,adz_v273) _ ⟨(zqfR c1.out),⟨_,rfl⟩,(zqe a3.out),(zqe a2.out),zq9,zq11,zq13⟩)
         ·skip
          refine box_step ?hg (N:=5) ?hd (cs:= #[.int .i64 0,.int .i64 0,.int .i64 0]) (t:=25) ?hr ?_;(case hd=>rfl);(case hg=>rfl);(case hr=> exact zq18);intro a0 hg n8 hbox hb;replace c1:=zqm (Kd.R_below (zqfR c1.out) hb);have c7:=zqm (IsS78.below zq9 hb);have c8:=zqm (blk_below (g:=a6) (o:= .cells #[.slice A1_0 l1_0.length c1_0,.slice A1_1 l1_1.length c1_1] 68 (0,0)) (zqe a3.out) hb);have c9:=zqm (blk_below (g:=a5) (o:= .cells #[.int .i64 0,.int .i64 0,.int .i64 0] 25 (0,0)) (zqe a2.out) hb);have d0:=zqm (KeepBut.trans zq11 (KeepBut.of_below hb g none) (.inl rfl));replace HB:=zqm (below_step zq13 hb);have b0:=zqm (hbox);have b7:=zqm ((by rw [hg];exact(keep_size (w:=w) (g:=g) (row:=none) zq11):w.heap.size≤a0));have c0:=zqm ((Nat.le_trans i1.out (by rw [hg];exact(keep_size (w:=w) (g:=g) (row:=none) zq11):w.heap.size≤a0):w0.heap.size≤a0));have b5:=zqm ((by rw [hg];exact Nat.ne_of_lt (blk_lt (g:=a6) (o:= .cells #[.slice A1_0 l1_0.length c1_0,.slice A1_1 l1_1.length c1_1] 68 (0,0)) (zqe a3.out)):a6≠a0));have b8:=zqm ((by rw [hg];exact Nat.ne_of_gt (blk_lt (g:=a6) (o:= .cells #[.slice A1_0 l1_0.length c1_0,.slice A1_1 l1_1.length c1_1] 68 (0,0)) (zqe a3.out)):a0≠a6));have b3:=zqm ((by rw [hg];exact Nat.ne_of_lt (blk_lt (g:=a5) (o:= .cells #[.int .i64 0,.int .i64 0,.int .i64 0] 25 (0,0)) (zqe a2.out)):a5≠a0));have b9:=zqm ((by rw [hg];exact Nat.ne_of_gt (blk_lt (g:=a5) (o:= .cells #[.int .i64 0,.int .i64 0,.int .i64 0] 25 (0,0)) (zqe a2.out)):a0≠a5));have a9:=zqm ((by rw [hg];exact Nat.ne_of_lt (IsS78.lt (show IsS78 w0 _ g s0_0 d3 from zq9)):g≠a0));have c2:=zqm ((by rw [hg];exact Nat.ne_of_gt (IsS78.lt (show IsS78 w0 _ g s0_0 d3 from zq9)):a0≠g));clear a1 a3 a2 HK;have a1:=c7;have a3:=c8;have a2:=c9;have HK:=d0;clear c7 c8 c9 d0 hb hbox hg;refine hK.out _ _ trivial (fun hHeld=>?_);clear hK K;refine norm_ (a':=?_) ?_ ?_;rotate_left
          ·show Act.put _ (some 5) _=_;exact zqs
          exact norm_ zq10 (hJ0_2_6_11 (.slice (some adz_v273) a4.length g6,adz_v273,a0) _ ⟨(zqfR c1.out),⟨_,rfl⟩,(zqe a3.out),(zqe a2.out),(zqe b0.out),b7.out,c0.out,a9.out,c2.out,b5.out,b8.out,b3.out,b9.out,zq6,zq7,zq8⟩)
       ·skip
        rintro ⟨d5,adz_v273⟩ f4 ⟨h0_,h1_,h2_,h3_,h4_,h5_,h6_⟩;have d1:Aside0 (Kd.R (Kd.int .i64) 3 f4 w.heap.size (fun _=>True) d5 a4):=⟨h0_⟩;have c7:Aside0 (∃c_,(d5:Value)= .slice (some adz_v273) a4.length c_):=⟨h1_⟩;have c8:Aside0 (f4.heap[a6]? =some (.cells #[.slice A1_0 l1_0.length c1_0,.slice A1_1 l1_1.length c1_1] 68 (0,0))):=⟨h2_⟩;have c9:Aside0 (f4.heap[a5]? =some (.cells #[.int .i64 0,.int .i64 0,.int .i64 0] 25 (0,0))):=⟨h3_⟩;have d0:Aside0 (IsS78 w0 f4 g s0_0 d6):=⟨h4_⟩;have d9:Aside0 (KeepBut w f4 g none):=⟨h5_⟩;have e0:Aside0 (Below w0.heap.size w0 f4):=⟨h6_⟩;clear a3 a2 a1 HK HB h0_ h1_ h2_ h3_ h4_ h5_ h6_;have c1:=d1;have HA_HO274:=c7;have a3:=c8;have a2:=c9;have a1:=d0;have HK:=d9;have HB:=e0;clear d1 c7 c8 c9 d0 d9 e0;have hHeld:=trivial;obtain⟨g2,h5⟩:=HA_HO274.out;clear HA_HO274;subst h5;refine norm_ (a':=?_) ?_ ?_;rotate_left
        ·simp only [putAll,Act.put,List.setIfInBounds_toArray,List.set_cons_zero,List.set_cons_succ];rfl
        refine two_ (i:=6) (j:=11) (Ni:=some 13) (Nj:=some 5) (zqb 13 127) (zqb 13 2111) rfl rfl rfl rfl (two_of HT_.out zqk) (by decide) (by decide) (fun K hK=>?_) (fun K hK=>?_)
        ·skip
         refine goes_ Tryd.func45 zqk rfl #[.pointer (some ⟨g,0,none⟩),.int .i64 60] (by rfl) rfl rfl zq2 ?_;(with_reducible refine(spec_l20Rd_pick.calls k g s0_0 d6 60 b6 d3 w0 _ ?side1 ?side2 A6.out).mono ?_);(case side1=> exact zq9);(case side2=> exact zq13);rintro e e9 ⟨rfl,hi,hb,hk⟩;refine⟨_,rfl,?_⟩;replace a3:=zqm (KeepBut.blk hk (g':=a6) (o:= .cells #[.slice A1_0 l1_0.length c1_0,.slice A1_1 l1_1.length c1_1] 68 (0,0)) (zqe a3.out) d8.out (by simp));replace a2:=zqm (KeepBut.blk hk (g':=a5) (o:= .cells #[.int .i64 0,.int .i64 0,.int .i64 0] 25 (0,0)) (zqe a2.out) d7.out (by simp));replace c1:=zqm (Kd.R_mono (Kd.R_keep (IsS78.apart (show IsS78 w0 _ g s0_0 d6 from zq9) (zqfR c1.out) (by decide)) hk (fun _ h=>h.2)) (fun _ h=>h.1));replace HK:=zqm (KeepBut.trans zq11 hk (.inl rfl));replace HB:=zqm (hb);replace a1:=zqm (hi);clear hb hk hi;refine hK.out _ _ trivial (fun hHeld=>?_);clear hK K;refine norm_ (a':=?_) ?_ ?_;rotate_left
         ·show Act.put _ (some 13) _=_;exact zqs
         refine zqp 7 14 (zqb 13 255) HT_ ?_;refine zqp 8 15 (zqb 13 511) HT_ ?_;refine zqp 9 16 (zqb 13 1023) HT_ ?_;refine zqp 10 17 (zqb 13 2047) HT_ ?_;exact norm_ zq10 (hJ0_2_4_6 (.slice (some adz_v273) a4.length g2,adz_v273) _ ⟨(zqfR c1.out),⟨_,rfl⟩,(zqe a3.out),(zqe a2.out),zq9,zq11,zq13⟩)
        ·skip
         refine box_step ?hg (N:=5) ?hd (cs:= #[.int .i64 0,.int .i64 0,.int .i64 0]) (t:=25) ?hr ?_;(case hd=>rfl);(case hg=>rfl);(case hr=> exact zq18);intro a0 hg e9 hbox hb;replace c1:=zqm (Kd.R_below (zqfR c1.out) hb);have c7:=zqm (IsS78.below zq9 hb);have c8:=zqm (blk_below (g:=a6) (o:= .cells #[.slice A1_0 l1_0.length c1_0,.slice A1_1 l1_1.length c1_1] 68 (0,0)) (zqe a3.out) hb);have c9:=zqm (blk_below (g:=a5) (o:= .cells #[.int .i64 0,.int .i64 0,.int .i64 0] 25 (0,0)) (zqe a2.out) hb);have d0:=zqm (KeepBut.trans zq11 (KeepBut.of_below hb g none) (.inl rfl));replace HB:=zqm (below_step zq13 hb);have b0:=zqm (hbox);have b7:=zqm ((by rw [hg];exact(keep_size (w:=w) (g:=g) (row:=none) zq11):w.heap.size≤a0));have c0:=zqm ((Nat.le_trans i1.out (by rw [hg];exact(keep_size (w:=w) (g:=g) (row:=none) zq11):w.heap.size≤a0):w0.heap.size≤a0));have b5:=zqm ((by rw [hg];exact Nat.ne_of_lt (blk_lt (g:=a6) (o:= .cells #[.slice A1_0 l1_0.length c1_0,.slice A1_1 l1_1.length c1_1] 68 (0,0)) (zqe a3.out)):a6≠a0));have b8:=zqm ((by rw [hg];exact Nat.ne_of_gt (blk_lt (g:=a6) (o:= .cells #[.slice A1_0 l1_0.length c1_0,.slice A1_1 l1_1.length c1_1] 68 (0,0)) (zqe a3.out)):a0≠a6));have b3:=zqm ((by rw [hg];exact Nat.ne_of_lt (blk_lt (g:=a5) (o:= .cells #[.int .i64 0,.int .i64 0,.int .i64 0] 25 (0,0)) (zqe a2.out)):a5≠a0));have b9:=zqm ((by rw [hg];exact Nat.ne_of_gt (blk_lt (g:=a5) (o:= .cells #[.int .i64 0,.int .i64 0,.int .i64 0] 25 (0,0)) (zqe a2.out)):a0≠a5));have a9:=zqm ((by rw [hg];exact Nat.ne_of_lt (IsS78.lt (show IsS78 w0 _ g s0_0 d6 from zq9)):g≠a0));have c2:=zqm ((by rw [hg];exact Nat.ne_of_gt (IsS78.lt (show IsS78 w0 _ g s0_0 d6 from zq9)):a0≠g));clear a1 a3 a2 HK;have a1:=c7;have a3:=c8;have a2:=c9;have HK:=d0;clear c7 c8 c9 d0 hb hbox hg;refine hK.out _ _ trivial (fun hHeld=>?_);clear hK K;refine norm_ (a':=?_) ?_ ?_;rotate_left
         ·show Act.put _ (some 5) _=_;exact zqs
         exact norm_ zq10 (hJ0_2_4_11 (.slice (some adz_v273) a4.length g2,adz_v273,a0) _ ⟨(zqfR c1.out),⟨_,rfl⟩,(zqe a3.out),(zqe a2.out),(zqe b0.out),b7.out,c0.out,a9.out,c2.out,b5.out,b8.out,b3.out,b9.out,zq6,zq7,zq8⟩)
      ·skip
       rintro ⟨d5,adz_v273,a0⟩ e9 ⟨h0_,h1_,h2_,h3_,h4_,h5_,h6_,h7_,h8_,h9_,h10_,h11_,h12_,h13_,h14_,h15_⟩;have d1:Aside0 (Kd.R (Kd.int .i64) 3 e9 w.heap.size (fun _=>True) d5 a4):=⟨h0_⟩;have c7:Aside0 (∃c_,(d5:Value)= .slice (some adz_v273) a4.length c_):=⟨h1_⟩;have c8:Aside0 (e9.heap[a6]? =some (.cells #[.slice A1_0 l1_0.length c1_0,.slice A1_1 l1_1.length c1_1] 68 (0,0))):=⟨h2_⟩;have c9:Aside0 (e9.heap[a5]? =some (.cells #[.int .i64 0,.int .i64 0,.int .i64 0] 25 (0,0))):=⟨h3_⟩;have d0:Aside0 (e9.heap[a0]? =some (.cells #[.int .i64 0,.int .i64 0,.int .i64 0] 25 (0,0))):=⟨h4_⟩;have d9:Aside0 (w.heap.size≤a0):=⟨h5_⟩;have e0:Aside0 (w0.heap.size≤a0):=⟨h6_⟩;have f1:Aside0 (g≠a0):=⟨h7_⟩;have f2:Aside0 (a0≠g):=⟨h8_⟩;have f3:Aside0 (a6≠a0):=⟨h9_⟩;have e3:Aside0 (a0≠a6):=⟨h10_⟩;have e4:Aside0 (a5≠a0):=⟨h11_⟩;have e5:Aside0 (a0≠a5):=⟨h12_⟩;have e6:Aside0 (IsS78 w0 e9 g s0_0 d3):=⟨h13_⟩;have f6:Aside0 (KeepBut w e9 g none):=⟨h14_⟩;have f7:Aside0 (Below w0.heap.size w0 e9):=⟨h15_⟩;clear a3 a2 a1 HK HB h0_ h1_ h2_ h3_ h4_ h5_ h6_ h7_ h8_ h9_ h10_ h11_ h12_ h13_ h14_ h15_;have c1:=d1;have HA_HO274:=c7;have a3:=c8;have a2:=c9;have b0:=d0;have b7:=d9;have c0:=e0;have a9:=f1;have c2:=f2;have b5:=f3;have b8:=e3;have b3:=e4;have b9:=e5;have a1:=e6;have HK:=f6;have HB:=f7;clear d1 c7 c8 c9 d0 d9 e0 f1 f2 f3 e3 e4 e5 e6 f6 f7;have hHeld:=trivial;obtain⟨n5,l1⟩:=HA_HO274.out;clear HA_HO274;subst l1;refine norm_ (a':=?_) ?_ ?_;rotate_left
       ·simp only [putAll,Act.put,List.setIfInBounds_toArray,List.set_cons_zero,List.set_cons_succ];rfl
       refine one_ (i:=4) (N:=some 11) (zqb 13 2559) rfl rfl (one_of HT_.out zqk) (by decide) (fun K hK=>?_);(have i3:0≤(b1:Int):=zqo;have i4:b1<(a4.length:Int):=zqo;obtain⟨h3,i2,f9⟩:=Kd.at_int (Kd.R_reads' c1.out).2.2 b1 i3 i4;obtain rfl:adz_v273=h3:=(by injection i2));refine value_ (w1:=?_) (v:=?_) (by rfl) rfl ?_ ?_;rotate_left 2
       ·go_simp
        constructor
        ·rfl
        ·rfl
       clear f9;refine hK.out _ _ trivial (fun hHeld=>?_);clear hK K;refine norm_ (a':=?_) ?_ ?_;rotate_left
       ·show Act.put _ (some 11) _=_;exact zqs
       refine zqp 9 16 (zqb 13 3071) HT_ ?_;refine zqp 10 17 (zqb 13 4095) HT_ ?_;exact norm_ zq10 (hJ0_2_4_6_11 (.slice (some adz_v273) a4.length n5,adz_v273,a0) _ ⟨(zqfR c1.out),⟨_,rfl⟩,(zqe a3.out),(zqe a2.out),(zqe b0.out),b7.out,c0.out,a9.out,c2.out,b5.out,b8.out,b3.out,b9.out,zq6,zq7,zq8⟩)
     ·skip
      rintro ⟨d5,adz_v273,a0⟩ e7 ⟨h0_,h1_,h2_,h3_,h4_,h5_,h6_,h7_,h8_,h9_,h10_,h11_,h12_,h13_,h14_,h15_⟩;have d1:Aside0 (Kd.R (Kd.int .i64) 3 e7 w.heap.size (fun _=>True) d5 a4):=⟨h0_⟩;have c7:Aside0 (∃c_,(d5:Value)= .slice (some adz_v273) a4.length c_):=⟨h1_⟩;have c8:Aside0 (e7.heap[a6]? =some (.cells #[.slice A1_0 l1_0.length c1_0,.slice A1_1 l1_1.length c1_1] 68 (0,0))):=⟨h2_⟩;have c9:Aside0 (e7.heap[a5]? =some (.cells #[.int .i64 0,.int .i64 0,.int .i64 0] 25 (0,0))):=⟨h3_⟩;have d0:Aside0 (e7.heap[a0]? =some (.cells #[.int .i64 0,.int .i64 0,.int .i64 0] 25 (0,0))):=⟨h4_⟩;have d9:Aside0 (w.heap.size≤a0):=⟨h5_⟩;have e0:Aside0 (w0.heap.size≤a0):=⟨h6_⟩;have f1:Aside0 (g≠a0):=⟨h7_⟩;have f2:Aside0 (a0≠g):=⟨h8_⟩;have f3:Aside0 (a6≠a0):=⟨h9_⟩;have e3:Aside0 (a0≠a6):=⟨h10_⟩;have e4:Aside0 (a5≠a0):=⟨h11_⟩;have e5:Aside0 (a0≠a5):=⟨h12_⟩;have e6:Aside0 (IsS78 w0 e7 g s0_0 d6):=⟨h13_⟩;have f6:Aside0 (KeepBut w e7 g none):=⟨h14_⟩;have f7:Aside0 (Below w0.heap.size w0 e7):=⟨h15_⟩;clear a3 a2 a1 HK HB h0_ h1_ h2_ h3_ h4_ h5_ h6_ h7_ h8_ h9_ h10_ h11_ h12_ h13_ h14_ h15_;have c1:=d1;have HA_HO274:=c7;have a3:=c8;have a2:=c9;have b0:=d0;have b7:=d9;have c0:=e0;have a9:=f1;have c2:=f2;have b5:=f3;have b8:=e3;have b3:=e4;have b9:=e5;have a1:=e6;have HK:=f6;have HB:=f7;clear d1 c7 c8 c9 d0 d9 e0 f1 f2 f3 e3 e4 e5 e6 f6 f7;have hHeld:=trivial;obtain⟨g6,h6⟩:=HA_HO274.out;clear HA_HO274;subst h6;refine norm_ (a':=?_) ?_ ?_;rotate_left
      ·simp only [putAll,Act.put,List.setIfInBounds_toArray,List.set_cons_zero,List.set_cons_succ];rfl
      refine one_ (i:=6) (N:=some 13) (zqb 13 2175) rfl rfl (one_of HT_.out zqk) (by decide) (fun K hK=>?_);refine goes_ Tryd.func45 zqk rfl #[.pointer (some ⟨g,0,none⟩),.int .i64 60] (by rfl) rfl rfl zq2 ?_;(with_reducible refine(spec_l20Rd_pick.calls k g s0_0 d6 60 b6 d3 w0 _ ?side1 ?side2 A6.out).mono ?_);(case side1=> exact zq6);(case side2=> exact zq8);rintro e n8 ⟨rfl,hi,hb,hk⟩;refine⟨_,rfl,?_⟩;replace a3:=zqm (KeepBut.blk hk (g':=a6) (o:= .cells #[.slice A1_0 l1_0.length c1_0,.slice A1_1 l1_1.length c1_1] 68 (0,0)) (zqe a3.out) d8.out (by simp));replace a2:=zqm (KeepBut.blk hk (g':=a5) (o:= .cells #[.int .i64 0,.int .i64 0,.int .i64 0] 25 (0,0)) (zqe a2.out) d7.out (by simp));replace c1:=zqm (Kd.R_mono (Kd.R_keep (IsS78.apart (show IsS78 w0 _ g s0_0 d6 from zq6) (zqfR c1.out) (by decide)) hk (fun _ h=>h.2)) (fun _ h=>h.1));replace b0:=zqm (KeepBut.blk hk (g':=a0) (o:= .cells #[.int .i64 0,.int .i64 0,.int .i64 0] 25 (0,0)) (zqe b0.out) c2.out (by simp));replace HK:=zqm (KeepBut.trans zq7 hk (.inl rfl));replace HB:=zqm (hb);replace a1:=zqm (hi);clear hb hk hi;refine hK.out _ _ trivial (fun hHeld=>?_);clear hK K;refine norm_ (a':=?_) ?_ ?_;rotate_left
      ·show Act.put _ (some 13) _=_;exact zqs
      refine zqp 7 14 (zqb 13 2303) HT_ ?_;refine zqp 8 15 (zqb 13 2559) HT_ ?_;refine zqp 9 16 (zqb 13 3071) HT_ ?_;refine zqp 10 17 (zqb 13 4095) HT_ ?_;exact norm_ zq10 (hJ0_2_4_6_11 (.slice (some adz_v273) a4.length g6,adz_v273,a0) _ ⟨(zqfR c1.out),⟨_,rfl⟩,(zqe a3.out),(zqe a2.out),(zqe b0.out),b7.out,c0.out,a9.out,c2.out,b5.out,b8.out,b3.out,b9.out,zq6,zq7,zq8⟩)
    ·skip
     rintro ⟨d5,adz_v273⟩ e7 ⟨h0_,h1_,h2_,h3_,h4_,h5_,h6_⟩;have d1:Aside0 (Kd.R (Kd.int .i64) 3 e7 w.heap.size (fun _=>True) d5 a4):=⟨h0_⟩;have c7:Aside0 (∃c_,(d5:Value)= .slice (some adz_v273) a4.length c_):=⟨h1_⟩;have c8:Aside0 (e7.heap[a6]? =some (.cells #[.slice A1_0 l1_0.length c1_0,.slice A1_1 l1_1.length c1_1] 68 (0,0))):=⟨h2_⟩;have c9:Aside0 (e7.heap[a5]? =some (.cells #[.int .i64 0,.int .i64 0,.int .i64 0] 25 (0,0))):=⟨h3_⟩;have d0:Aside0 (IsS78 w0 e7 g s0_0 d3):=⟨h4_⟩;have d9:Aside0 (KeepBut w e7 g none):=⟨h5_⟩;have e0:Aside0 (Below w0.heap.size w0 e7):=⟨h6_⟩;clear a3 a2 a1 HK HB h0_ h1_ h2_ h3_ h4_ h5_ h6_;have c1:=d1;have HA_HO274:=c7;have a3:=c8;have a2:=c9;have a1:=d0;have HK:=d9;have HB:=e0;clear d1 c7 c8 c9 d0 d9 e0;have hHeld:=trivial;obtain⟨g6,h6⟩:=HA_HO274.out;clear HA_HO274;subst h6;refine norm_ (a':=?_) ?_ ?_;rotate_left
     ·simp only [putAll,Act.put,List.setIfInBounds_toArray,List.set_cons_zero,List.set_cons_succ];rfl
     refine one_ (i:=11) (N:=some 5) (zqb 13 4095) rfl rfl (one_of HT_.out zqk) (by decide) (fun K hK=>?_);refine box_step ?hg (N:=5) ?hd (cs:= #[.int .i64 0,.int .i64 0,.int .i64 0]) (t:=25) ?hr ?_;(case hd=>rfl);(case hg=>rfl);(case hr=> exact zq18);intro a0 hg n8 hbox hb;replace c1:=zqm (Kd.R_below (zqfR c1.out) hb);have c7:=zqm (IsS78.below zq9 hb);have c8:=zqm (blk_below (g:=a6) (o:= .cells #[.slice A1_0 l1_0.length c1_0,.slice A1_1 l1_1.length c1_1] 68 (0,0)) (zqe a3.out) hb);have c9:=zqm (blk_below (g:=a5) (o:= .cells #[.int .i64 0,.int .i64 0,.int .i64 0] 25 (0,0)) (zqe a2.out) hb);have d0:=zqm (KeepBut.trans zq11 (KeepBut.of_below hb g none) (.inl rfl));replace HB:=zqm (below_step zq13 hb);have b0:=zqm (hbox);have b7:=zqm ((by rw [hg];exact(keep_size (w:=w) (g:=g) (row:=none) zq11):w.heap.size≤a0));have c0:=zqm ((Nat.le_trans i1.out (by rw [hg];exact(keep_size (w:=w) (g:=g) (row:=none) zq11):w.heap.size≤a0):w0.heap.size≤a0));have b5:=zqm ((by rw [hg];exact Nat.ne_of_lt (blk_lt (g:=a6) (o:= .cells #[.slice A1_0 l1_0.length c1_0,.slice A1_1 l1_1.length c1_1] 68 (0,0)) (zqe a3.out)):a6≠a0));have b8:=zqm ((by rw [hg];exact Nat.ne_of_gt (blk_lt (g:=a6) (o:= .cells #[.slice A1_0 l1_0.length c1_0,.slice A1_1 l1_1.length c1_1] 68 (0,0)) (zqe a3.out)):a0≠a6));have b3:=zqm ((by rw [hg];exact Nat.ne_of_lt (blk_lt (g:=a5) (o:= .cells #[.int .i64 0,.int .i64 0,.int .i64 0] 25 (0,0)) (zqe a2.out)):a5≠a0));have b9:=zqm ((by rw [hg];exact Nat.ne_of_gt (blk_lt (g:=a5) (o:= .cells #[.int .i64 0,.int .i64 0,.int .i64 0] 25 (0,0)) (zqe a2.out)):a0≠a5));have a9:=zqm ((by rw [hg];exact Nat.ne_of_lt (IsS78.lt (show IsS78 w0 _ g s0_0 d3 from zq9)):g≠a0));have c2:=zqm ((by rw [hg];exact Nat.ne_of_gt (IsS78.lt (show IsS78 w0 _ g s0_0 d3 from zq9)):a0≠g));clear a1 a3 a2 HK;have a1:=c7;have a3:=c8;have a2:=c9;have HK:=d0;clear c7 c8 c9 d0 hb hbox hg;refine hK.out _ _ trivial (fun hHeld=>?_);clear hK K;refine norm_ (a':=?_) ?_ ?_;rotate_left
     ·show Act.put _ (some 5) _=_;exact zqs
     exact norm_ zq10 (hJ0_2_4_6_11 (.slice (some adz_v273) a4.length g6,adz_v273,a0) _ ⟨(zqfR c1.out),⟨_,rfl⟩,(zqe a3.out),(zqe a2.out),(zqe b0.out),b7.out,c0.out,a9.out,c2.out,b5.out,b8.out,b3.out,b9.out,zq6,zq7,zq8⟩)
   rintro ⟨d5,adz_v273,a0⟩ e9 ⟨h0_,h1_,h2_,h3_,h4_,h5_,h6_,h7_,h8_,h9_,h10_,h11_,h12_,h13_,h14_,h15_⟩;have d1:Aside0 (Kd.R (Kd.int .i64) 3 e9 w.heap.size (fun _=>True) d5 a4):=⟨h0_⟩;have c7:Aside0 (∃c_,(d5:Value)= .slice (some adz_v273) a4.length c_):=⟨h1_⟩;have c8:Aside0 (e9.heap[a6]? =some (.cells #[.slice A1_0 l1_0.length c1_0,.slice A1_1 l1_1.length c1_1] 68 (0,0))):=⟨h2_⟩;have c9:Aside0 (e9.heap[a5]? =some (.cells #[.int .i64 0,.int .i64 0,.int .i64 0] 25 (0,0))):=⟨h3_⟩;have d0:Aside0 (e9.heap[a0]? =some (.cells #[.int .i64 0,.int .i64 0,.int .i64 0] 25 (0,0))):=⟨h4_⟩;have d9:Aside0 (w.heap.size≤a0):=⟨h5_⟩;have e0:Aside0 (w0.heap.size≤a0):=⟨h6_⟩;have f1:Aside0 (g≠a0):=⟨h7_⟩;have f2:Aside0 (a0≠g):=⟨h8_⟩;have f3:Aside0 (a6≠a0):=⟨h9_⟩;have e3:Aside0 (a0≠a6):=⟨h10_⟩;have e4:Aside0 (a5≠a0):=⟨h11_⟩;have e5:Aside0 (a0≠a5):=⟨h12_⟩;have e6:Aside0 (IsS78 w0 e9 g s0_0 d3):=⟨h13_⟩;have f6:Aside0 (KeepBut w e9 g none):=⟨h14_⟩;have f7:Aside0 (Below w0.heap.size w0 e9):=⟨h15_⟩;clear a3 a2 a1 HK HB h0_ h1_ h2_ h3_ h4_ h5_ h6_ h7_ h8_ h9_ h10_ h11_ h12_ h13_ h14_ h15_;have c1:=d1;have HA_HO274:=c7;have a3:=c8;have a2:=c9;have b0:=d0;have b7:=d9;have c0:=e0;have a9:=f1;have c2:=f2;have b5:=f3;have b8:=e3;have b3:=e4;have b9:=e5;have a1:=e6;have HK:=f6;have HB:=f7;clear d1 c7 c8 c9 d0 d9 e0 f1 f2 f3 e3 e4 e5 e6 f6 f7;have hHeld:=trivial;obtain⟨n5,l1⟩:=HA_HO274.out;clear HA_HO274;subst l1;refine norm_ (a':=?_) ?_ ?_;rotate_left
   ·simp only [putAll,Act.put,List.setIfInBounds_toArray,List.set_cons_zero,List.set_cons_succ];rfl
   refine one_ (i:=12) (N:=none) (zqb 13 8191) rfl rfl (one_of HT_.out zqk) (by decide) (fun K hK=>?_);have hs20:e9.cell? ⟨a0,0,none⟩=some (.int .i64 0):=(blk_cell b0.out 0).trans rfl;have hfs20:=blk_frozen b0.out 0;have hns20_0:=b5.out;have hns20_1:=b3.out;have hms20_0:=b8.out;have hms20_1:=b9.out;have hs21:e9.cell? ⟨a0,1,none⟩=some (.int .i64 0):=(blk_cell b0.out 1).trans rfl;have hfs21:=blk_frozen b0.out 1;have hns21_0:=b5.out;have hns21_1:=b3.out;have hms21_0:=b8.out;have hms21_1:=b9.out;have hs22:e9.cell? ⟨a0,2,none⟩=some (.int .i64 0):=(blk_cell b0.out 2).trans rfl;have hfs22:=blk_frozen b0.out 2;have hns22_0:=b5.out;have hns22_1:=b3.out;have hms22_0:=b8.out;have hms22_1:=b9.out;refine skip_ (w1:=?_) (by rfl) rfl ?_ ?_;rotate_left
   ·go_simp;rfl
   refine hK.out _ _ trivial (fun hHeld=>?_);clear hK K;refine done_ (done_of HT_.out zqk) ?_;have x2:=h9.out;have z3:=i0.out;have x3:=b5.out;have z4:=b8.out;have x4:=d8.out;have z5:=a7.out;have p4:e9.cell? ⟨a6,0,none⟩=some (.slice A1_0 l1_0.length c1_0):=(blk_cell a3.out 0).trans rfl;have p5:e9.cell? ⟨a6,1,none⟩=some (.slice A1_1 l1_1.length c1_1):=(blk_cell a3.out 1).trans rfl;have s4:=blk_frozen a3.out 0;have s5:=blk_frozen a3.out 1;have x5:=b9.out;have z6:=b3.out;have x6:=c2.out;have z7:=a9.out;have p6:e9.cell? ⟨a0,0,none⟩=some (.int .i64 0):=(blk_cell b0.out 0).trans rfl;have p7:e9.cell? ⟨a0,1,none⟩=some (.int .i64 0):=(blk_cell b0.out 1).trans rfl;have p8:e9.cell? ⟨a0,2,none⟩=some (.int .i64 0):=(blk_cell b0.out 2).trans rfl;have s6:=blk_frozen b0.out 0;have s7:=blk_frozen b0.out 1;have s8:=blk_frozen b0.out 2
   go_upto_block 0 with (fail)
   go_cut [] (fun wc=> ∃(kq:Nat) (h2:Int) (d2:Int) (e1:Int),Aside0 (spec_l20Deed.j1 kq s0_0 h2 (wrap64 ((rd a4 b1)+(wrap64 ((wrap64 (Int.tdiv b6 59))*5)))) d2 e1=some (r1,r2,r3,r4))∧Aside0 (kq≤k)∧Aside0 (wc.heap[a6]? =some (.cells #[(.slice A1_0 l1_0.length c1_0),(.slice A1_1 l1_1.length c1_1)] 68 (0,0)))∧Aside0 (wc.heap[a5]? =some (.cells #[.int .i64 0,.int .i64 0,.int .i64 0] 25 (0,0)))∧Aside0 (wc.heap[a0]? =some (.cells #[.int .i64 (wrap64 ((rd a4 b1)+(wrap64 ((wrap64 (Int.tdiv b6 59))*5)))),.int .i64 d2,.int .i64 e1] 25 (0,0)))∧Aside0 (IsS78 w0 wc g s0_0 h2)∧Aside0 (KeepBut w wc g none)∧Aside0 (Below w0.heap.size w0 wc))
   case first=>
    have H:=n4.out;clear n4;have k9:=zqm H;clear H
    go_upto_if 24 with (fail)
    go_cut [24] (fun v6 wc=> ∃(kq:Nat) (i7:Bool),v6= .bool i7∧Aside0 (spec_l20Deed.j0 kq h1 (wrap64 ((rd a4 b1)+(wrap64 ((wrap64 (Int.tdiv b6 59))*5)))) i7 s0_0 d3 (wrap64 ((rd a4 b1)+(wrap64 ((wrap64 (Int.tdiv b6 59))*5)))) 0 0=some (r1,r2,r3,r4))∧Aside0 (kq≤k)∧Aside0 (wc.heap[a6]? =some (.cells #[(.slice A1_0 l1_0.length c1_0),(.slice A1_1 l1_1.length c1_1)] 68 (0,0)))∧Aside0 (wc.heap[a5]? =some (.cells #[.int .i64 0,.int .i64 0,.int .i64 0] 25 (0,0)))∧Aside0 (wc.heap[a0]? =some (.cells #[.int .i64 (wrap64 ((rd a4 b1)+(wrap64 ((wrap64 (Int.tdiv b6 59))*5)))),.int .i64 0,.int .i64 0] 25 (0,0)))∧Aside0 (IsS78 w0 wc g s0_0 d3)∧Aside0 (KeepBut w wc g none)∧Aside0 (Below w0.heap.size w0 wc))
    case first=>
     have H:=k9.out;clear k9
     by_cases j3:(wrap64 ((rd a4 b1)+(wrap64 ((wrap64 (Int.tdiv b6 59))*5))))=0
     ·rw [if_pos j3] at H;have h4:((wrap64 ((rd a4 b1)+(wrap64 ((wrap64 (Int.tdiv b6 59))*5))))==0)=true:=beq_iff_eq.mpr j3;(have c31w0:((IntKind.i64.wrap ((rd a4 b1)+(wrap64 ((wrap64 (Int.tdiv b6 59))*5))))==0)=true:=by simp only [i64_w];exact h4);have k3:((wrap64 ((rd a4 b1)+(wrap64 ((wrap64 (Int.tdiv b6 59))*5)))) !=0)=false:=bne_eq_false_iff_eq.mpr j3;(have c31w1:((IntKind.i64.wrap ((rd a4 b1)+(wrap64 ((wrap64 (Int.tdiv b6 59))*5)))) !=0)=false:=by simp only [i64_w];exact k3);clear j3;(first|rw [h4]|(simp only [i64_w,i32_w];rw [h4])|skip);have H':=zqm H;clear H
      go_wp2
      go_meet
      case rel=>exact⟨_,(((wrap64 ((rd a4 b1)+(wrap64 ((wrap64 (Int.tdiv b6 59))*5))))==0)),zq15,H',⟨zq61⟩,⟨zq108⟩,⟨zq107⟩,⟨zq45⟩,⟨zq6⟩,⟨zq7⟩,⟨zq8⟩⟩
     ·rw [if_neg j3] at H;have h4:((wrap64 ((rd a4 b1)+(wrap64 ((wrap64 (Int.tdiv b6 59))*5))))==0)=false:=beq_eq_false_iff_ne.mpr j3;(have c31w0:((IntKind.i64.wrap ((rd a4 b1)+(wrap64 ((wrap64 (Int.tdiv b6 59))*5))))==0)=false:=by simp only [i64_w];exact h4);have k3:((wrap64 ((rd a4 b1)+(wrap64 ((wrap64 (Int.tdiv b6 59))*5)))) !=0)=true:=bne_iff_ne.mpr j3;(have c31w1:((IntKind.i64.wrap ((rd a4 b1)+(wrap64 ((wrap64 (Int.tdiv b6 59))*5)))) !=0)=true:=by simp only [i64_w];exact k3);(first|rw [h4]|(simp only [i64_w,i32_w];rw [h4])|skip);have H':=zqm H;clear H
      go_wp2
      go_meet
      case rel=>exact⟨_,(((wrap64 ((rd a4 b1)+(wrap64 ((wrap64 (Int.tdiv b6 59))*5))))==1)),zq15,H',⟨zq61⟩,⟨zq108⟩,⟨zq107⟩,⟨zq45⟩,⟨zq6⟩,⟨zq7⟩,⟨zq8⟩⟩
    case rest=>
     clear k9;obtain⟨kq,i7,rfl,HA,l0,a3,a2,b0,a1,HK,HB⟩:=hcut
     cases kq with
     |zero=>exact absurd HA.out (by simp [spec_l20Deed.j0])
     |succ f5=>
      have H:=HA.out;clear HA;simp only [spec_l20Deed.j0] at H
      by_cases m3:i7=true
      ·subst m3;(have H1:((some (([2,2,1,3,0,4]:List Int):List Int)).bind fun g9=>((spec_l20Rd_pick.f f5 s0_0 d3 6).bind fun g5=>(if 0≤g5.1 then(if g5.1<(g9.length:Int) then(spec_l20Deed.j1 f5 s0_0 g5.2 (wrap64 ((rd a4 b1)+(wrap64 ((wrap64 (Int.tdiv b6 59))*5)))) (rd g9 g5.1) 0) else(none)) else(none))))=some (r1,r2,r3,r4):=by rw [if_pos rfl] at H;exact H);clear H;have H:=H1;clear H1;obtain⟨g9,k7⟩: ∃y_:List Int,y_=(([2,2,1,3,0,4]:List Int)):=⟨_,rfl⟩;replace H:((spec_l20Rd_pick.f f5 s0_0 d3 6).bind fun g5=>(if 0≤g5.1 then(if g5.1<(g9.length:Int) then(spec_l20Deed.j1 f5 s0_0 g5.2 (wrap64 ((rd a4 b1)+(wrap64 ((wrap64 (Int.tdiv b6 59))*5)))) (rd g9 g5.1) 0) else(none)) else(none)))=some (r1,r2,r3,r4):=zqy k7 H;have m0:=zqm k7;clear k7;replace H:=Option.bind_eq_some_iff.mp H;obtain⟨⟨g3,l6⟩,m9,H⟩:=H;replace H:(if 0≤g3 then(if g3<(g9.length:Int) then(spec_l20Deed.j1 f5 s0_0 l6 (wrap64 ((rd a4 b1)+(wrap64 ((wrap64 (Int.tdiv b6 59))*5)))) (rd g9 g3) 0) else(none)) else(none))=some (r1,r2,r3,r4):=H;have v2:=zqm m9;clear m9
       by_cases m4:0≤g3
       ·rw [if_pos m4] at H;have w6:decide (0≤g3)=true:=decide_eq_true m4;clear m4
        by_cases m5:g3<(g9.length:Int)
        ·rw [if_pos m5] at H;have w7:decide (g3<(g9.length:Int))=true:=decide_eq_true m5;clear m5;have H':=zqm H;clear H
         go_wp2_with (first|((with_reducible refine gate_dst (N:=27) rfl ?_);refine Kd.R_lit (Kd.int .i64) _ 3 ?hg (N:=27) ?hd (xs:=([2,2,1,3,0,4]:List Int)) (inner:= [.int .i64 2,.int .i64 2,.int .i64 1,.int .i64 3,.int .i64 0,.int .i64 4]) (ok:=fun _=>True) (okp:=fun _=>True) ?hr ?hp (fun _ hk=>hk) trivial (Below.refl _ _) (Nat.le_refl _) (by simp) ?_;(case hd=>rfl);(case hg=>rfl);(case hr=> exact zq18);(case hp=>exact(Reps.one (show Kd.M (Kd.int .i64) _ _ _ 2 [.int .i64 2] from rfl) (Reps.one (show Kd.M (Kd.int .i64) _ _ _ 2 [.int .i64 2] from rfl) (Reps.one (show Kd.M (Kd.int .i64) _ _ _ 1 [.int .i64 1] from rfl) (Reps.one (show Kd.M (Kd.int .i64) _ _ _ 3 [.int .i64 3] from rfl) (Reps.one (show Kd.M (Kd.int .i64) _ _ _ 0 [.int .i64 0] from rfl) (Reps.one (show Kd.M (Kd.int .i64) _ _ _ 4 [.int .i64 4] from rfl) (Reps.none _ _))))))));intro a0x w36 j8 hb hg_ hnew_;clear hg_ hnew_;(first|rw [← m0.out] at j8|(simp only [Int.reduceToNat] at j8;rw [← m0.out] at j8));have i9:=zqm (Kd.R_lower j8 (keep_size (w:=w) (g:=g) (row:=none) zq7));replace a3:=zqm (blk_below (g:=a6) (o:= .cells #[.slice A1_0 l1_0.length c1_0,.slice A1_1 l1_1.length c1_1] 68 (0,0)) (zqe a3.out) hb);replace a2:=zqm (blk_below (g:=a5) (o:= .cells #[.int .i64 0,.int .i64 0,.int .i64 0] 25 (0,0)) (zqe a2.out) hb);replace b0:=zqm (blk_below (g:=a0) (o:= .cells #[.int .i64 (wrap64 ((rd a4 b1)+(wrap64 ((wrap64 (Int.tdiv b6 59))*5)))),.int .i64 0,.int .i64 0] 25 (0,0)) (zqe b0.out) hb);have d0:=zqm (IsS78.below zq6 hb);replace HK:=zqm (KeepBut.trans zq7 (KeepBut.of_below hb g none) (.inl rfl));replace HB:=zqm (below_step zq8 hb);clear a1;have a1:=d0;clear d0 hb j8)|((with_reducible refine gate_callee (f:=45) rfl ?_);refine goesL_ (some 29) rfl rfl Tryd.func45 zqk rfl #[.pointer (some ⟨g,0,none⟩),.int .i64 6] rfl zq2 ?_;(with_reducible refine(spec_l20Rd_pick.calls f5 g s0_0 d3 6 g3 l6 w0 _ ?side1 ?side2 v2.out).mono ?_);(case side1=> exact zq6);(case side2=> exact zq8);rintro e n9 ⟨rfl,hi,hb,hk⟩;refine⟨_,rfl,?_⟩;replace a3:=zqm (KeepBut.blk hk (g':=a6) (o:= .cells #[.slice A1_0 l1_0.length c1_0,.slice A1_1 l1_1.length c1_1] 68 (0,0)) (zqe a3.out) d8.out (by simp));replace a2:=zqm (KeepBut.blk hk (g':=a5) (o:= .cells #[.int .i64 0,.int .i64 0,.int .i64 0] 25 (0,0)) (zqe a2.out) d7.out (by simp));replace b0:=zqm (KeepBut.blk hk (g':=a0) (o:= .cells #[.int .i64 (wrap64 ((rd a4 b1)+(wrap64 ((wrap64 (Int.tdiv b6 59))*5)))),.int .i64 0,.int .i64 0] 25 (0,0)) (zqe b0.out) c2.out (by simp));replace i9:=zqm (Kd.R_mono (Kd.R_keep (IsS78.apart (show IsS78 w0 _ g s0_0 d3 from zq6) (zqfR i9.out) (by decide)) hk (fun _ h=>h.2)) (fun _ h=>h.1));replace HK:=zqm (KeepBut.trans zq7 hk (.inl rfl));replace HB:=zqm (hb);replace a1:=zqm (hi);clear hb hk hi;obtain⟨a0r,a0v,p2⟩:=Kd.R_slice i9.out;subst p2;have l2:0≤(g3:Int):=zqo;have l4:g3<(g9.length:Int):=zqo;obtain⟨w4,o9,v0⟩:=Kd.at_int (Kd.R_reads' i9.out).2.2 g3 l2 l4;cases o9;replace l2:=eq_true l2;replace l4:=eq_true l4;have x7:=b8.out;have z8:=b5.out;have x8:=b9.out;have z9:=b3.out;have x9:=c2.out;have a0a:=a9.out;have p9:n9.cell? ⟨a0,0,none⟩=some (.int .i64 (wrap64 ((rd a4 b1)+(wrap64 ((wrap64 (Int.tdiv b6 59))*5))))):=(blk_cell b0.out 0).trans rfl;have q0:n9.cell? ⟨a0,1,none⟩=some (.int .i64 0):=(blk_cell b0.out 1).trans rfl;have q1:n9.cell? ⟨a0,2,none⟩=some (.int .i64 0):=(blk_cell b0.out 2).trans rfl;have s9:=blk_frozen b0.out 0;have t0:=blk_frozen b0.out 1;have t1:=blk_frozen b0.out 2))
         go_meet
         case rel=>exact⟨_,(l6),(rd g9 g3),(0),H',⟨zq141⟩,⟨zq118⟩,⟨zq117⟩,⟨zq94⟩,⟨zq6⟩,⟨zq7⟩,⟨zq8⟩⟩
        ·rw [if_neg m5] at H;exact absurd H (by simp)
       ·rw [if_neg m4] at H;exact absurd H (by simp)
      ·replace m3:=Bool.eq_false_iff.mpr m3;subst m3;(have H1:(if(wrap64 ((rd a4 b1)+(wrap64 ((wrap64 (Int.tdiv b6 59))*5))))=3 then((spec_l20Rd_pick.f f5 s0_0 d3 h1).bind fun m2=>((spec_l20Rd_pick.f f5 s0_0 m2.2 h1).bind fun i6=>(spec_l20Deed.j1 f5 s0_0 i6.2 (wrap64 ((rd a4 b1)+(wrap64 ((wrap64 (Int.tdiv b6 59))*5)))) m2.1 i6.1))) else(spec_l20Deed.j1 f5 s0_0 d3 (wrap64 ((rd a4 b1)+(wrap64 ((wrap64 (Int.tdiv b6 59))*5)))) 0 0))=some (r1,r2,r3,r4):=by rw [if_neg (show¬(false=true) by decide)] at H;exact H);clear H;have H:=H1;clear H1
       by_cases j4:(wrap64 ((rd a4 b1)+(wrap64 ((wrap64 (Int.tdiv b6 59))*5))))=3
       ·rw [if_pos j4] at H;have k4:((wrap64 ((rd a4 b1)+(wrap64 ((wrap64 (Int.tdiv b6 59))*5))))==3)=true:=beq_iff_eq.mpr j4;(have c44w0:((IntKind.i64.wrap ((rd a4 b1)+(wrap64 ((wrap64 (Int.tdiv b6 59))*5))))==3)=true:=by simp only [i64_w];exact k4);have k5:((wrap64 ((rd a4 b1)+(wrap64 ((wrap64 (Int.tdiv b6 59))*5)))) !=3)=false:=bne_eq_false_iff_eq.mpr j4;(have c44w1:((IntKind.i64.wrap ((rd a4 b1)+(wrap64 ((wrap64 (Int.tdiv b6 59))*5)))) !=3)=false:=by simp only [i64_w];exact k5);clear j4;replace H:=Option.bind_eq_some_iff.mp H;obtain⟨⟨i5,l7⟩,n0,H⟩:=H;replace H:((spec_l20Rd_pick.f f5 s0_0 l7 h1).bind fun i6=>(spec_l20Deed.j1 f5 s0_0 i6.2 (wrap64 ((rd a4 b1)+(wrap64 ((wrap64 (Int.tdiv b6 59))*5)))) i5 i6.1))=some (r1,r2,r3,r4):=H;have v3:=zqm n0;clear n0;replace H:=Option.bind_eq_some_iff.mp H;obtain⟨⟨l8,l9⟩,n1,H⟩:=H;replace H:(spec_l20Deed.j1 f5 s0_0 l9 (wrap64 ((rd a4 b1)+(wrap64 ((wrap64 (Int.tdiv b6 59))*5)))) i5 l8)=some (r1,r2,r3,r4):=H;have v4:=zqm n1;clear n1;have H':=zqm H;clear H
        go_wp2_with (first|((with_reducible refine gate_callee (f:=45) rfl ?_);refine goesL_ (some 37) rfl rfl Tryd.func45 zqk rfl #[.pointer (some ⟨g,0,none⟩),.int .i64 h1] rfl zq106 ?_;(with_reducible refine(spec_l20Rd_pick.calls f5 g s0_0 d3 h1 i5 l7 w0 _ ?side1 ?side2 v3.out).mono ?_);(case side1=> exact zq6);(case side2=> exact zq8);rintro e o0 ⟨rfl,hi,hb,hk⟩;refine⟨_,rfl,?_⟩;replace a3:=zqm (KeepBut.blk hk (g':=a6) (o:= .cells #[.slice A1_0 l1_0.length c1_0,.slice A1_1 l1_1.length c1_1] 68 (0,0)) (zqe a3.out) d8.out (by simp));replace a2:=zqm (KeepBut.blk hk (g':=a5) (o:= .cells #[.int .i64 0,.int .i64 0,.int .i64 0] 25 (0,0)) (zqe a2.out) d7.out (by simp));replace b0:=zqm (KeepBut.blk hk (g':=a0) (o:= .cells #[.int .i64 (wrap64 ((rd a4 b1)+(wrap64 ((wrap64 (Int.tdiv b6 59))*5)))),.int .i64 0,.int .i64 0] 25 (0,0)) (zqe b0.out) c2.out (by simp));replace HK:=zqm (KeepBut.trans zq7 hk (.inl rfl));replace HB:=zqm (hb);replace a1:=zqm (hi);clear hb hk hi;have y0:=b8.out;have a0b:=b5.out;have y1:=b9.out;have a0c:=b3.out;have y2:=c2.out;have a0d:=a9.out;have q2:o0.cell? ⟨a0,0,none⟩=some (.int .i64 (wrap64 ((rd a4 b1)+(wrap64 ((wrap64 (Int.tdiv b6 59))*5))))):=(blk_cell b0.out 0).trans rfl;have q3:o0.cell? ⟨a0,1,none⟩=some (.int .i64 0):=(blk_cell b0.out 1).trans rfl;have q4:o0.cell? ⟨a0,2,none⟩=some (.int .i64 0):=(blk_cell b0.out 2).trans rfl;have t2:=blk_frozen b0.out 0;have t3:=blk_frozen b0.out 1;have t4:=blk_frozen b0.out 2)|((with_reducible refine gate_callee (f:=45) rfl ?_);refine goesL_ (some 41) rfl rfl Tryd.func45 zqk rfl #[.pointer (some ⟨g,0,none⟩),.int .i64 h1] rfl zq106 ?_;(with_reducible refine(spec_l20Rd_pick.calls f5 g s0_0 l7 h1 l8 l9 w0 _ ?side1 ?side2 v4.out).mono ?_);(case side1=> exact zq6);(case side2=> exact zq8);rintro e o1 ⟨rfl,hi,hb,hk⟩;refine⟨_,rfl,?_⟩;replace a3:=zqm (KeepBut.blk hk (g':=a6) (o:= .cells #[.slice A1_0 l1_0.length c1_0,.slice A1_1 l1_1.length c1_1] 68 (0,0)) zq118 d8.out (by simp));replace a2:=zqm (KeepBut.blk hk (g':=a5) (o:= .cells #[.int .i64 0,.int .i64 0,.int .i64 0] 25 (0,0)) zq117 d7.out (by simp));replace b0:=zqm (KeepBut.blk hk (g':=a0) (o:= .cells #[.int .i64 (wrap64 ((rd a4 b1)+(wrap64 ((wrap64 (Int.tdiv b6 59))*5)))),.int .i64 i5,.int .i64 0] 25 (0,0)) zq94 c2.out (by simp));replace HK:=zqm (KeepBut.trans zq7 hk (.inl rfl));replace HB:=zqm (hb);replace a1:=zqm (hi);clear hb hk hi;have q5:o1.cell? ⟨a0,0,none⟩=some (.int .i64 (wrap64 ((rd a4 b1)+(wrap64 ((wrap64 (Int.tdiv b6 59))*5))))):=(blk_cell b0.out 0).trans rfl;have q6:o1.cell? ⟨a0,1,none⟩=some (.int .i64 i5):=(blk_cell b0.out 1).trans rfl;have q7:o1.cell? ⟨a0,2,none⟩=some (.int .i64 0):=(blk_cell b0.out 2).trans rfl;have t5:=blk_frozen b0.out 0;have t6:=blk_frozen b0.out 1;have t7:=blk_frozen b0.out 2))
        go_meet
        case rel=>exact⟨_,(l9),(i5),(l8),H',⟨zq141⟩,⟨zq118⟩,⟨zq117⟩,⟨by refine zqe ?_;refine blk_put (cs:= #[.int .i64 (wrap64 ((rd a4 b1)+(wrap64 ((wrap64 (Int.tdiv b6 59))*5)))),.int .i64 i5,.int .i64 0]) ?_ 2 _ rfl;refine zqe ?_;exact b0.out⟩,⟨zq6⟩,⟨zq7⟩,⟨zq8⟩⟩
       ·rw [if_neg j4] at H;have k4:((wrap64 ((rd a4 b1)+(wrap64 ((wrap64 (Int.tdiv b6 59))*5))))==3)=false:=beq_eq_false_iff_ne.mpr j4;(have c44w0:((IntKind.i64.wrap ((rd a4 b1)+(wrap64 ((wrap64 (Int.tdiv b6 59))*5))))==3)=false:=by simp only [i64_w];exact k4);have k5:((wrap64 ((rd a4 b1)+(wrap64 ((wrap64 (Int.tdiv b6 59))*5)))) !=3)=true:=bne_iff_ne.mpr j4;(have c44w1:((IntKind.i64.wrap ((rd a4 b1)+(wrap64 ((wrap64 (Int.tdiv b6 59))*5)))) !=3)=true:=by simp only [i64_w];exact k5);have H':=zqm H;clear H
        go_wp2
        go_meet
        case rel=>exact⟨_,(d3),(0),(0),H',⟨zq141⟩,⟨zqe a3.out⟩,⟨zqe a2.out⟩,⟨zqe b0.out⟩,⟨zq6⟩,⟨zq7⟩,⟨zq8⟩⟩
   case rest=>
    clear n4;obtain⟨kq,h2,d2,e1,HA,HJ7,a3,a2,b0,a1,HK,HB⟩:=hcut
    cases kq with
    |zero=>exact absurd HA.out (by simp [spec_l20Deed.j1])
    |succ k0=>
     have H:=HA.out;clear HA;simp only [spec_l20Deed.j1] at H;replace H:=Option.bind_eq_some_iff.mp H;obtain⟨⟨n6,h7⟩,n2,H⟩:=H;replace H:(if n6=true then((some (([(-1),12,100]:List Int):List Int)).bind fun f8=>((spec_l20Rd_pick.f k0 s0_0 h7 3).bind fun f0=>(if 0≤f0.1 then(if f0.1<(f8.length:Int) then(some ((wrap64 ((rd a4 b1)+(wrap64 ((wrap64 (Int.tdiv b6 59))*5)))),d2,rd f8 f0.1,f0.2)) else(none)) else(none)))) else(some ((wrap64 ((rd a4 b1)+(wrap64 ((wrap64 (Int.tdiv b6 59))*5)))),d2,e1,h7)))=some (r1,r2,r3,r4):=H;have o3:=zqm n2;clear n2
     by_cases m6:n6=true
     ·subst m6;(have H1:((some (([(-1),12,100]:List Int):List Int)).bind fun f8=>((spec_l20Rd_pick.f k0 s0_0 h7 3).bind fun f0=>(if 0≤f0.1 then(if f0.1<(f8.length:Int) then(some ((wrap64 ((rd a4 b1)+(wrap64 ((wrap64 (Int.tdiv b6 59))*5)))),d2,rd f8 f0.1,f0.2)) else(none)) else(none))))=some (r1,r2,r3,r4):=by rw [if_pos rfl] at H;exact H);clear H;have H:=H1;clear H1;obtain⟨f8,k8⟩: ∃y_:List Int,y_=(([(-1),12,100]:List Int)):=⟨_,rfl⟩;replace H:((spec_l20Rd_pick.f k0 s0_0 h7 3).bind fun f0=>(if 0≤f0.1 then(if f0.1<(f8.length:Int) then(some ((wrap64 ((rd a4 b1)+(wrap64 ((wrap64 (Int.tdiv b6 59))*5)))),d2,rd f8 f0.1,f0.2)) else(none)) else(none)))=some (r1,r2,r3,r4):=zqy k8 H;have m1:=zqm k8;clear k8;replace H:=Option.bind_eq_some_iff.mp H;obtain⟨⟨g4,n7⟩,n3,H⟩:=H;replace H:(if 0≤g4 then(if g4<(f8.length:Int) then(some ((wrap64 ((rd a4 b1)+(wrap64 ((wrap64 (Int.tdiv b6 59))*5)))),d2,rd f8 g4,n7)) else(none)) else(none))=some (r1,r2,r3,r4):=H;have v5:=zqm n3;clear n3
      by_cases m7:0≤g4
      ·rw [if_pos m7] at H;have w8:decide (0≤g4)=true:=decide_eq_true m7;clear m7
       by_cases m8:g4<(f8.length:Int)
       ·rw [if_pos m8] at H;have x0:decide (g4<(f8.length:Int))=true:=decide_eq_true m8;clear m8;simp only [Option.some.injEq,Prod.mk.injEq] at H;obtain⟨rfl,rfl,rfl,rfl⟩:=H
        go_wp2_with (first|((with_reducible refine gate_callee (f:=48) rfl ?_);refine goesL_ (some 44) rfl rfl Tryd.func48 zqk rfl #[.pointer (some ⟨g,0,none⟩),.int .i64 40] rfl zq2 ?_;(with_reducible refine(spec_l20Rd_odd.calls k0 g s0_0 h2 40 true h7 w0 _ ?side1 ?side2 o3.out).mono ?_);(case side1=> exact zq6);(case side2=> exact zq8);rintro e w59 ⟨rfl,hi,hb,hk⟩;refine⟨_,rfl,?_⟩;replace a3:=zqm (KeepBut.blk hk (g':=a6) (o:= .cells #[.slice A1_0 l1_0.length c1_0,.slice A1_1 l1_1.length c1_1] 68 (0,0)) (zqe a3.out) d8.out (by simp));replace a2:=zqm (KeepBut.blk hk (g':=a5) (o:= .cells #[.int .i64 0,.int .i64 0,.int .i64 0] 25 (0,0)) (zqe a2.out) d7.out (by simp));replace b0:=zqm (KeepBut.blk hk (g':=a0) (o:= .cells #[.int .i64 (wrap64 ((rd a4 b1)+(wrap64 ((wrap64 (Int.tdiv b6 59))*5)))),.int .i64 d2,.int .i64 e1] 25 (0,0)) (zqe b0.out) c2.out (by simp));replace HK:=zqm (KeepBut.trans zq7 hk (.inl rfl));replace HB:=zqm (hb);replace a1:=zqm (hi);clear hb hk hi)|((with_reducible refine gate_dst (N:=45) rfl ?_);refine Kd.R_lit (Kd.int .i64) _ 3 ?hg (N:=45) ?hd (xs:=([(-1),12,100]:List Int)) (inner:= [.int .i64 (-1),.int .i64 12,.int .i64 100]) (ok:=fun _=>True) (okp:=fun _=>True) ?hr ?hp (fun _ hk=>hk) trivial (Below.refl _ _) (Nat.le_refl _) (by simp) ?_;(case hd=>rfl);(case hg=>rfl);(case hr=> exact zq18);(case hp=>exact(Reps.one (show Kd.M (Kd.int .i64) _ _ _ (-1) [.int .i64 (-1)] from rfl) (Reps.one (show Kd.M (Kd.int .i64) _ _ _ 12 [.int .i64 12] from rfl) (Reps.one (show Kd.M (Kd.int .i64) _ _ _ 100 [.int .i64 100] from rfl) (Reps.none _ _)))));intro a0y w60 j9 hb hg_ hnew_;clear hg_ hnew_;(first|rw [← m1.out] at j9|(simp only [Int.reduceToNat] at j9;rw [← m1.out] at j9));have j2:=zqm (Kd.R_lower j9 (keep_size (w:=w) (g:=g) (row:=none) zq7));replace a3:=zqm (blk_below (g:=a6) (o:= .cells #[.slice A1_0 l1_0.length c1_0,.slice A1_1 l1_1.length c1_1] 68 (0,0)) (zqe a3.out) hb);replace a2:=zqm (blk_below (g:=a5) (o:= .cells #[.int .i64 0,.int .i64 0,.int .i64 0] 25 (0,0)) (zqe a2.out) hb);replace b0:=zqm (blk_below (g:=a0) (o:= .cells #[.int .i64 (wrap64 ((rd a4 b1)+(wrap64 ((wrap64 (Int.tdiv b6 59))*5)))),.int .i64 d2,.int .i64 e1] 25 (0,0)) (zqe b0.out) hb);have d0:=zqm (IsS78.below zq6 hb);replace HK:=zqm (KeepBut.trans zq7 (KeepBut.of_below hb g none) (.inl rfl));replace HB:=zqm (below_step zq8 hb);clear a1;have a1:=d0;clear d0 hb j9)|((with_reducible refine gate_callee (f:=45) rfl ?_);refine goesL_ (some 47) rfl rfl Tryd.func45 zqk rfl #[.pointer (some ⟨g,0,none⟩),.int .i64 3] rfl zq2 ?_;(with_reducible refine(spec_l20Rd_pick.calls k0 g s0_0 h7 3 g4 n7 w0 _ ?side1 ?side2 v5.out).mono ?_);(case side1=> exact zq6);(case side2=> exact zq8);rintro e k1 ⟨rfl,hi,hb,hk⟩;refine⟨_,rfl,?_⟩;replace a3:=zqm (KeepBut.blk hk (g':=a6) (o:= .cells #[.slice A1_0 l1_0.length c1_0,.slice A1_1 l1_1.length c1_1] 68 (0,0)) (zqe a3.out) d8.out (by simp));replace a2:=zqm (KeepBut.blk hk (g':=a5) (o:= .cells #[.int .i64 0,.int .i64 0,.int .i64 0] 25 (0,0)) (zqe a2.out) d7.out (by simp));replace b0:=zqm (KeepBut.blk hk (g':=a0) (o:= .cells #[.int .i64 (wrap64 ((rd a4 b1)+(wrap64 ((wrap64 (Int.tdiv b6 59))*5)))),.int .i64 d2,.int .i64 e1] 25 (0,0)) (zqe b0.out) c2.out (by simp));replace j2:=zqm (Kd.R_mono (Kd.R_keep (IsS78.apart (show IsS78 w0 _ g s0_0 h7 from zq6) (zqfR j2.out) (by decide)) hk (fun _ h=>h.2)) (fun _ h=>h.1));replace HK:=zqm (KeepBut.trans zq7 hk (.inl rfl));replace HB:=zqm (hb);replace a1:=zqm (hi);clear hb hk hi;obtain⟨a0s,a0w,p3⟩:=Kd.R_slice j2.out;subst p3;have l3:0≤(g4:Int):=zqo;have l5:g4<(f8.length:Int):=zqo;obtain⟨w5,p0,v1⟩:=Kd.at_int (Kd.R_reads' j2.out).2.2 g4 l3 l5;cases p0;replace l3:=eq_true l3;replace l5:=eq_true l5;have y3:=b8.out;have a0e:=b5.out;have y4:=b9.out;have a0f:=b3.out;have y5:=c2.out;have a0g:=a9.out;have q8:k1.cell? ⟨a0,0,none⟩=some (.int .i64 (wrap64 ((rd a4 b1)+(wrap64 ((wrap64 (Int.tdiv b6 59))*5))))):=(blk_cell b0.out 0).trans rfl;have q9:k1.cell? ⟨a0,1,none⟩=some (.int .i64 d2):=(blk_cell b0.out 1).trans rfl;have r0:k1.cell? ⟨a0,2,none⟩=some (.int .i64 e1):=(blk_cell b0.out 2).trans rfl;have t8:=blk_frozen b0.out 0;have t9:=blk_frozen b0.out 1;have u0:=blk_frozen b0.out 2;have y6:=i0.out;have a0h:=h9.out;have y7:=d7.out;have a0i:=a8.out;have r5:k1.cell? ⟨a5,0,none⟩=some (.int .i64 0):=(blk_cell a2.out 0).trans rfl;have r6:k1.cell? ⟨a5,1,none⟩=some (.int .i64 0):=(blk_cell a2.out 1).trans rfl;have r7:k1.cell? ⟨a5,2,none⟩=some (.int .i64 0):=(blk_cell a2.out 2).trans rfl;have u1:=blk_frozen a2.out 0;have u2:=blk_frozen a2.out 1;have u3:=blk_frozen a2.out 2))
        refine bodyPost_ret (results_cell_row rfl _ _ a5 25 #[.int .i64 (wrap64 ((rd a4 b1)+(wrap64 ((wrap64 (Int.tdiv b6 59))*5)))),.int .i64 d2,.int .i64 (rd f8 g4)] (0,0) _ rfl (by refine zqe ?_;refine blk_put (cs:= #[.int .i64 (wrap64 ((rd a4 b1)+(wrap64 ((wrap64 (Int.tdiv b6 59))*5)))),.int .i64 d2,.int .i64 0]) ?_ 2 _ rfl;refine zqe ?_;refine blk_put (cs:= #[.int .i64 (wrap64 ((rd a4 b1)+(wrap64 ((wrap64 (Int.tdiv b6 59))*5)))),.int .i64 0,.int .i64 0]) ?_ 1 _ rfl;refine zqe ?_;refine blk_put (cs:= #[.int .i64 0,.int .i64 0,.int .i64 0]) ?_ 0 _ rfl;refine zqe ?_;refine blk_far ?_ b3.out _;refine zqe ?_;exact a2.out) Tryd.underlying25 rfl zqk) rfl ?_;exact⟨zq105,zq6,zq8,zq7⟩
       ·rw [if_neg m8] at H;exact absurd H (by simp)
      ·rw [if_neg m7] at H;exact absurd H (by simp)
     ·replace m6:=Bool.eq_false_iff.mpr m6;subst m6;(have H1:(some ((wrap64 ((rd a4 b1)+(wrap64 ((wrap64 (Int.tdiv b6 59))*5)))),d2,e1,h7))=some (r1,r2,r3,r4):=by rw [if_neg (show¬(false=true) by decide)] at H;exact H);clear H;have H:=H1;clear H1;simp only [Option.some.injEq,Prod.mk.injEq] at H;obtain⟨rfl,rfl,rfl,rfl⟩:=H
      go_wp2_with (first|((with_reducible refine gate_callee (f:=48) rfl ?_);refine goesL_ (some 44) rfl rfl Tryd.func48 zqk rfl #[.pointer (some ⟨g,0,none⟩),.int .i64 40] rfl zq2 ?_;(with_reducible refine(spec_l20Rd_odd.calls k0 g s0_0 h2 40 false h7 w0 _ ?side1 ?side2 o3.out).mono ?_);(case side1=> exact zq6);(case side2=> exact zq8);rintro e k2 ⟨rfl,hi,hb,hk⟩;refine⟨_,rfl,?_⟩;replace a3:=zqm (KeepBut.blk hk (g':=a6) (o:= .cells #[.slice A1_0 l1_0.length c1_0,.slice A1_1 l1_1.length c1_1] 68 (0,0)) (zqe a3.out) d8.out (by simp));replace a2:=zqm (KeepBut.blk hk (g':=a5) (o:= .cells #[.int .i64 0,.int .i64 0,.int .i64 0] 25 (0,0)) (zqe a2.out) d7.out (by simp));replace b0:=zqm (KeepBut.blk hk (g':=a0) (o:= .cells #[.int .i64 (wrap64 ((rd a4 b1)+(wrap64 ((wrap64 (Int.tdiv b6 59))*5)))),.int .i64 d2,.int .i64 e1] 25 (0,0)) (zqe b0.out) c2.out (by simp));replace HK:=zqm (KeepBut.trans zq7 hk (.inl rfl));replace HB:=zqm (hb);replace a1:=zqm (hi);clear hb hk hi;have y8:=b8.out;have a0j:=b5.out;have y9:=b9.out;have a0k:=b3.out;have z0:=c2.out;have a0l:=a9.out;have r8:k2.cell? ⟨a0,0,none⟩=some (.int .i64 (wrap64 ((rd a4 b1)+(wrap64 ((wrap64 (Int.tdiv b6 59))*5))))):=(blk_cell b0.out 0).trans rfl;have r9:k2.cell? ⟨a0,1,none⟩=some (.int .i64 d2):=(blk_cell b0.out 1).trans rfl;have s0:k2.cell? ⟨a0,2,none⟩=some (.int .i64 e1):=(blk_cell b0.out 2).trans rfl;have u4:=blk_frozen b0.out 0;have u5:=blk_frozen b0.out 1;have u6:=blk_frozen b0.out 2;have z1:=i0.out;have a0m:=h9.out;have z2:=d7.out;have a0n:=a8.out;have s1:k2.cell? ⟨a5,0,none⟩=some (.int .i64 0):=(blk_cell a2.out 0).trans rfl;have s2:k2.cell? ⟨a5,1,none⟩=some (.int .i64 0):=(blk_cell a2.out 1).trans rfl;have s3:k2.cell? ⟨a5,2,none⟩=some (.int .i64 0):=(blk_cell a2.out 2).trans rfl;have u7:=blk_frozen a2.out 0;have u8:=blk_frozen a2.out 1;have u9:=blk_frozen a2.out 2))
      refine bodyPost_ret (results_cell_row rfl _ _ a5 25 #[.int .i64 (wrap64 ((rd a4 b1)+(wrap64 ((wrap64 (Int.tdiv b6 59))*5)))),.int .i64 d2,.int .i64 e1] (0,0) _ rfl (by refine zqe ?_;refine blk_put (cs:= #[.int .i64 (wrap64 ((rd a4 b1)+(wrap64 ((wrap64 (Int.tdiv b6 59))*5)))),.int .i64 d2,.int .i64 0]) ?_ 2 _ rfl;refine zqe ?_;refine blk_put (cs:= #[.int .i64 (wrap64 ((rd a4 b1)+(wrap64 ((wrap64 (Int.tdiv b6 59))*5)))),.int .i64 0,.int .i64 0]) ?_ 1 _ rfl;refine zqe ?_;refine blk_put (cs:= #[.int .i64 0,.int .i64 0,.int .i64 0]) ?_ 0 _ rfl;refine zqe ?_;exact a2.out) Tryd.underlying25 rfl zqk) rfl ?_;exact⟨zq105,zq6,zq8,zq7⟩
  ·rw [if_neg c5] at H;exact absurd H (by simp)
 ·rw [if_neg c4] at H;exact absurd H (by simp)
end
end Go.Proofs.YtddgcdpogpppgaaDoor.Print
end
section
namespace Go.Proofs.YtddgcdpogpppgaaDoor.Print
open Go.RowKit Go.Proofs.YtddgcdpogpppgaaDoorW.PrintWords Go.Proofs.YtddgcdpogpppgaaDoorW.PrintLast Go.Proofs.YtddgcdpogpppgaaDoorW.PrintMore
open Oml
section
section
variable {b : List Int} (hb : Bytes b) (hl : b.length ≤ 2000)
include hb hl
theorem deed_j1 {q : Int} (h0 : 0 ≤ q) (h1 : q ≤ 999999900) (kd x y : Int) : ∃ k a c q', Ev (fun m => spec_l20Deed.j1 m b q kd x y) (k, a, c, q') ∧ q ≤ q' ∧ q' ≤ q + 2 := by
 obtain⟨v1,q1,e1,a1,b1⟩:=odd_ev hb hl (p:=q) h0 (by omega) 40
 obtain⟨v2,e2,a2,b2⟩:=pick_ev hb hl (p:=q1) (by omega) (by omega) 3
 cases v1 with
 |true=>
  refine⟨kd,x,rd [-1,12,100] v2,q1+1,Ev.succ ?_,by omega,by omega⟩
  simp only [spec_l20Deed.j1]
  exact Ev.bind e1 (Ev.ite_pos rfl (Ev.pbind rfl (Ev.bind e2 (Ev.ite_pos a2 (Ev.ite_pos (b2 (by decide)) (Ev.now _))))))
 |false=>
  refine⟨kd,x,y,q1,Ev.succ ?_,by omega,by omega⟩
  simp only [spec_l20Deed.j1]
  exact Ev.bind e1 (Ev.ite_neg (by simp) (Ev.now _))
theorem deed_j0 {q : Int} (h0 : 0 ≤ q) (h1 : q ≤ 999999800) (n x23 : Int) (x24 : Bool) (kd x y : Int) : ∃ k a c q', Ev (fun m => spec_l20Deed.j0 m n x23 x24 b q kd x y) (k, a, c, q') ∧ q ≤ q' ∧ q' ≤ q + 4 := by
 obtain⟨v1,e1,a1,b1⟩:=pick_ev hb hl (p:=q) h0 (by omega) 6
 obtain⟨v2,e2,a2,_⟩:=pick_ev hb hl (p:=q) h0 (by omega) n
 obtain⟨v3,e3,a3,_⟩:=pick_ev hb hl (p:=q+1) (by omega) (by omega) n
 cases x24 with
 |true=>
  obtain⟨k,a,c,q',e,h2,h3⟩:=deed_j1 hb hl (q:=q+1) (by omega) (by omega) kd (rd [2,2,1,3,0,4] v1) y
  refine⟨k,a,c,q',Ev.succ ?_,by omega,by omega⟩
  simp only [spec_l20Deed.j0]
  exact Ev.ite_pos trivial (Ev.pbind rfl (Ev.bind e1 (Ev.ite_pos a1 (Ev.ite_pos (b1 (by decide)) e))))
 |false=>
  by_cases h:x23=3
  ·obtain⟨k,a,c,q',e,h2,h3⟩:=deed_j1 hb hl (q:=q+1+1) (by omega) (by omega) kd v2 v3
   refine⟨k,a,c,q',Ev.succ ?_,by omega,by omega⟩
   simp only [spec_l20Deed.j0]
   exact Ev.ite_neg (by simp) (Ev.ite_pos h (Ev.bind e2 (Ev.bind e3 e)))
  ·obtain⟨k,a,c,q',e,h2,h3⟩:=deed_j1 hb hl (q:=q) (by omega) (by omega) kd x y
   refine⟨k,a,c,q',Ev.succ ?_,by omega,by omega⟩
   simp only [spec_l20Deed.j0]
   exact Ev.ite_neg (by simp) (Ev.ite_neg h e)
theorem deed_draw {p : Int} (h0 : 0 ≤ p) (h1 : p ≤ 999999700) (U : List (List Int)) (N : List Int) : ∃ k a c q, Ev (fun m => spec_l20Deed.f m b p U N) (k, a, c, q) ∧ p ≤ q ∧ q ≤ p + 6 := by
 obtain⟨v1,e1,a1,b1⟩:=pick_ev hb hl (p:=p) h0 (by omega) 7
 obtain⟨v2,e2,a2,b2⟩:=pick_ev hb hl (p:=p+1) (by omega) (by omega) 60
 unfold spec_l20Deed.f
 obtain⟨kd,hkd⟩: ∃kd,wrap64 ((rd [0,0,1,2,3,3,4] v1)+(wrap64 ((wrap64 (Int.tdiv v2 59))*5)))=kd:=⟨_,rfl⟩
 by_cases h:kd=0
 ·obtain⟨k,a,c,q,e,h2,h3⟩:=deed_j0 hb hl (q:=p+1+1) (by omega) (by omega) (mx (N.length:Int) 1) kd (kd==0) kd 0 0
  refine⟨k,a,c,q,Ev.pbind rfl (Ev.bind e1 (Ev.ite_pos a1 (Ev.ite_pos (b1 (by decide)) (Ev.bind e2 ?_)))),by omega,by omega⟩
  simp only [hkd]
  exact Ev.ite_pos h e
 ·obtain⟨k,a,c,q,e,h2,h3⟩:=deed_j0 hb hl (q:=p+1+1) (by omega) (by omega) (mx (N.length:Int) 1) kd (kd==1) kd 0 0
  refine⟨k,a,c,q,Ev.pbind rfl (Ev.bind e1 (Ev.ite_pos a1 (Ev.ite_pos (b1 (by decide)) (Ev.bind e2 ?_)))),by omega,by omega⟩
  simp only [hkd]
  exact Ev.ite_neg h e
end
end
end Go.Proofs.YtddgcdpogpppgaaDoor.Print
end
section
namespace Go.Proofs.YtddgcdpogpppgaaDoor.Print
open Go.RowKit Go.Proofs.YtddgcdpogpppgaaDoorW.PrintWords Go.Proofs.YtddgcdpogpppgaaDoorW.PrintLast Go.Proofs.YtddgcdpogpppgaaDoorW.PrintMore
section
attribute [local go_sem] max2_int min2_int max_two min_two max_three min_three max_four min_four
mutual
def impl_OrderOk.j0 : Nat → List (List Int) → Int → Bool → Option (Bool)
 | 0, _, _, _ => none
 | k + 1, x0, x3, x18 => if x18 = true then (some false) else (impl_OrderOk.l0 k x0 x3 x0 (x0.length : Int) 0)
def impl_OrderOk.l0 : Nat → List (List Int) → Int → List (List Int) → Int → Int → Option (Bool)
 | 0, _, _, _, _, _ => none
 | k + 1, x0, x3, x19, x20, x21 => if x21 < x20 then (if 0 ≤ x21 then (if x21 < (x19.length : Int) then (if ((rd_L5 x19 x21).length : Int) = x3 then (if x21 < ((rd_L5 x19 x21).length : Int) then (impl_OrderOk.j2 k x0 x3 x21 (rd_L5 x19 x21) x19 x20 x21 ((rd (rd_L5 x19 x21) x21) != 1)) else (none)) else (impl_OrderOk.j2 k x0 x3 x21 (rd_L5 x19 x21) x19 x20 x21 true)) else (none)) else (none)) else (impl_OrderOk.l2 k x0 x3 x3 0)
def impl_OrderOk.j2 : Nat → List (List Int) → Int → Int → List Int → List (List Int) → Int → Int → Bool → Option (Bool)
 | 0, _, _, _, _, _, _, _, _ => none
 | k + 1, x0, x3, x4, x5, x19, x20, x21, x36 => if x36 = true then (some false) else (impl_OrderOk.l1 k x0 x3 x4 x19 x20 x21 x5 (x5.length : Int) 0)
def impl_OrderOk.l1 : Nat → List (List Int) → Int → Int → List (List Int) → Int → Int → List Int → Int → Int → Option (Bool)
 | 0, _, _, _, _, _, _, _, _, _ => none
 | k + 1, x0, x3, x4, x19, x20, x21, x37, x38, x39 => if x39 < x38 then (if 0 ≤ x39 then (if x39 < (x37.length : Int) then (if (rd x37 x39) = 0 then (impl_OrderOk.j4 k x0 x3 x4 x39 (rd x37 x39) x19 x20 x21 x37 x38 x39 false) else (impl_OrderOk.j4 k x0 x3 x4 x39 (rd x37 x39) x19 x20 x21 x37 x38 x39 ((rd x37 x39) != 1))) else (none)) else (none)) else (impl_OrderOk.l0 k x0 x3 x19 x20 (wrap64 (x21 + 1)))
def impl_OrderOk.j4 : Nat → List (List Int) → Int → Int → Int → Int → List (List Int) → Int → Int → List Int → Int → Int → Bool → Option (Bool)
 | 0, _, _, _, _, _, _, _, _, _, _, _, _ => none
 | k + 1, x0, x3, x4, x6, x7, x19, x20, x21, x37, x38, x39, x49 => if x49 = true then (some false) else (if 0 ≤ x6 then (if x6 < (x0.length : Int) then (if ((rd_L5 x0 x6).length : Int) = x3 then (if x7 = 1 then (if x4 = x6 then (impl_OrderOk.l1 k x0 x3 x4 x19 x20 x21 x37 x38 (wrap64 (x39 + 1))) else (if 0 ≤ x4 then (if x4 < ((rd_L5 x0 x6).length : Int) then (if (rd (rd_L5 x0 x6) x4) = 1 then (some false) else (impl_OrderOk.l1 k x0 x3 x4 x19 x20 x21 x37 x38 (wrap64 (x39 + 1)))) else (none)) else (none))) else (impl_OrderOk.l1 k x0 x3 x4 x19 x20 x21 x37 x38 (wrap64 (x39 + 1)))) else (some false)) else (none)) else (none))
def impl_OrderOk.l2 : Nat → List (List Int) → Int → Int → Int → Option (Bool)
 | 0, _, _, _, _ => none
 | k + 1, x0, x3, x78, x79 => if x79 < x78 then (impl_OrderOk.l3 k x0 x3 x79 x78 x79 x3 0) else (some true)
def impl_OrderOk.l3 : Nat → List (List Int) → Int → Int → Int → Int → Int → Int → Option (Bool)
 | 0, _, _, _, _, _, _, _ => none
 | k + 1, x0, x3, x8, x78, x79, x82, x83 => if x83 < x82 then (impl_OrderOk.l4 k x0 x3 x8 x83 x78 x79 x82 x83 x3 0) else (impl_OrderOk.l2 k x0 x3 x78 (wrap64 (x79 + 1)))
def impl_OrderOk.l4 : Nat → List (List Int) → Int → Int → Int → Int → Int → Int → Int → Int → Int → Option (Bool)
 | 0, _, _, _, _, _, _, _, _, _, _ => none
 | k + 1, x0, x3, x8, x9, x78, x79, x82, x83, x86, x87 => if x87 < x86 then (if 0 ≤ x8 then (if x8 < (x0.length : Int) then (if 0 ≤ x9 then (if x9 < ((rd_L5 x0 x8).length : Int) then (if (rd (rd_L5 x0 x8) x9) = 1 then (if x9 < (x0.length : Int) then (if 0 ≤ x87 then (if x87 < ((rd_L5 x0 x9).length : Int) then (if (rd (rd_L5 x0 x9) x87) = 1 then (if x87 < ((rd_L5 x0 x8).length : Int) then (if (rd (rd_L5 x0 x8) x87) = 1 then (impl_OrderOk.l4 k x0 x3 x8 x9 x78 x79 x82 x83 x86 (wrap64 (x87 + 1))) else (some false)) else (none)) else (impl_OrderOk.l4 k x0 x3 x8 x9 x78 x79 x82 x83 x86 (wrap64 (x87 + 1)))) else (none)) else (none)) else (none)) else (impl_OrderOk.l4 k x0 x3 x8 x9 x78 x79 x82 x83 x86 (wrap64 (x87 + 1)))) else (none)) else (none)) else (none)) else (none)) else (impl_OrderOk.l3 k x0 x3 x8 x78 x79 x82 (wrap64 (x83 + 1)))
end
def impl_OrderOk.f (k : Nat) (l0 : List (List Int)) : Option (Bool) := if (l0.length : Int) < 1 then (impl_OrderOk.j0 k l0 (l0.length : Int) true) else (impl_OrderOk.j0 k l0 (l0.length : Int) (decide ((l0.length : Int) > 12)))
theorem impl_OrderOk.mono_l : ∀ k, (∀ y0 y1 y2, LeO (impl_OrderOk.j0 k y0 y1 y2) (impl_OrderOk.j0 (k + 1) y0 y1 y2)) ∧ (∀ y0 y1 y2 y3 y4, LeO (impl_OrderOk.l0 k y0 y1 y2 y3 y4) (impl_OrderOk.l0 (k + 1) y0 y1 y2 y3 y4)) ∧ (∀ y0 y1 y2 y3 y4 y5 y6 y7, LeO (impl_OrderOk.j2 k y0 y1 y2 y3 y4 y5 y6 y7) (impl_OrderOk.j2 (k + 1) y0 y1 y2 y3 y4 y5 y6 y7)) ∧ (∀ y0 y1 y2 y3 y4 y5 y6 y7 y8, LeO (impl_OrderOk.l1 k y0 y1 y2 y3 y4 y5 y6 y7 y8) (impl_OrderOk.l1 (k + 1) y0 y1 y2 y3 y4 y5 y6 y7 y8)) ∧ (∀ y0 y1 y2 y3 y4 y5 y6 y7 y8 y9 y10 y11, LeO (impl_OrderOk.j4 k y0 y1 y2 y3 y4 y5 y6 y7 y8 y9 y10 y11) (impl_OrderOk.j4 (k + 1) y0 y1 y2 y3 y4 y5 y6 y7 y8 y9 y10 y11)) ∧ (∀ y0 y1 y2 y3, LeO (impl_OrderOk.l2 k y0 y1 y2 y3) (impl_OrderOk.l2 (k + 1) y0 y1 y2 y3)) ∧ (∀ y0 y1 y2 y3 y4 y5 y6, LeO (impl_OrderOk.l3 k y0 y1 y2 y3 y4 y5 y6) (impl_OrderOk.l3 (k + 1) y0 y1 y2 y3 y4 y5 y6)) ∧ (∀ y0 y1 y2 y3 y4 y5 y6 y7 y8 y9, LeO (impl_OrderOk.l4 k y0 y1 y2 y3 y4 y5 y6 y7 y8 y9) (impl_OrderOk.l4 (k + 1) y0 y1 y2 y3 y4 y5 y6 y7 y8 y9))
 | 0 => ⟨fun _ _ _ r h => by simp [impl_OrderOk.j0] at h, fun _ _ _ _ _ r h => by simp [impl_OrderOk.l0] at h, fun _ _ _ _ _ _ _ _ r h => by simp [impl_OrderOk.j2] at h, fun _ _ _ _ _ _ _ _ _ r h => by simp [impl_OrderOk.l1] at h, fun _ _ _ _ _ _ _ _ _ _ _ _ r h => by simp [impl_OrderOk.j4] at h, fun _ _ _ _ r h => by simp [impl_OrderOk.l2] at h, fun _ _ _ _ _ _ _ r h => by simp [impl_OrderOk.l3] at h, fun _ _ _ _ _ _ _ _ _ _ r h => by simp [impl_OrderOk.l4] at h⟩
 | k + 1 => by
  obtain ⟨ih0, ih1, ih2, ih3, ih4, ih5, ih6, ih7⟩ := impl_OrderOk.mono_l k
  refine ⟨?_, ?_, ?_, ?_, ?_, ?_, ?_, ?_⟩
  ·intro y0 y1 y2
   unfold impl_OrderOk.j0
   repeat' first
   | (with_reducible exact ih0 _ _ _)
   | (with_reducible exact ih1 _ _ _ _ _)
   | (with_reducible exact ih2 _ _ _ _ _ _ _ _)
   | (with_reducible exact ih3 _ _ _ _ _ _ _ _ _)
   | (with_reducible exact ih4 _ _ _ _ _ _ _ _ _ _ _ _)
   | (with_reducible exact ih5 _ _ _ _)
   | (with_reducible exact ih6 _ _ _ _ _ _ _)
   | (with_reducible exact ih7 _ _ _ _ _ _ _ _ _ _)
   | (with_reducible exact LeO.refl _)
   | (with_reducible exact LeO.none _)
   | (with_reducible refine LeO.ite ?_ ?_)
   | (with_reducible refine LeO.bind ?_ (fun _ => ?_))
   | exact ih0 _ _ _
   | exact ih1 _ _ _ _ _
   | exact ih2 _ _ _ _ _ _ _ _
   | exact ih3 _ _ _ _ _ _ _ _ _
   | exact ih4 _ _ _ _ _ _ _ _ _ _ _ _
   | exact ih5 _ _ _ _
   | exact ih6 _ _ _ _ _ _ _
   | exact ih7 _ _ _ _ _ _ _ _ _ _
   | exact LeO.none _
   | refine LeO.ite ?_ ?_
   | refine LeO.bind ?_ (fun _ => ?_)
  ·intro y0 y1 y2 y3 y4
   unfold impl_OrderOk.l0
   repeat' first
   | (with_reducible exact ih0 _ _ _)
   | (with_reducible exact ih1 _ _ _ _ _)
   | (with_reducible exact ih2 _ _ _ _ _ _ _ _)
   | (with_reducible exact ih3 _ _ _ _ _ _ _ _ _)
   | (with_reducible exact ih4 _ _ _ _ _ _ _ _ _ _ _ _)
   | (with_reducible exact ih5 _ _ _ _)
   | (with_reducible exact ih6 _ _ _ _ _ _ _)
   | (with_reducible exact ih7 _ _ _ _ _ _ _ _ _ _)
   | (with_reducible exact LeO.refl _)
   | (with_reducible exact LeO.none _)
   | (with_reducible refine LeO.ite ?_ ?_)
   | (with_reducible refine LeO.bind ?_ (fun _ => ?_))
   | exact ih0 _ _ _
   | exact ih1 _ _ _ _ _
   | exact ih2 _ _ _ _ _ _ _ _
   | exact ih3 _ _ _ _ _ _ _ _ _
   | exact ih4 _ _ _ _ _ _ _ _ _ _ _ _
   | exact ih5 _ _ _ _
   | exact ih6 _ _ _ _ _ _ _
   | exact ih7 _ _ _ _ _ _ _ _ _ _
   | exact LeO.none _
   | refine LeO.ite ?_ ?_
   | refine LeO.bind ?_ (fun _ => ?_)
  ·intro y0 y1 y2 y3 y4 y5 y6 y7
   unfold impl_OrderOk.j2
   repeat' first
   | (with_reducible exact ih0 _ _ _)
   | (with_reducible exact ih1 _ _ _ _ _)
   | (with_reducible exact ih2 _ _ _ _ _ _ _ _)
   | (with_reducible exact ih3 _ _ _ _ _ _ _ _ _)
   | (with_reducible exact ih4 _ _ _ _ _ _ _ _ _ _ _ _)
   | (with_reducible exact ih5 _ _ _ _)
   | (with_reducible exact ih6 _ _ _ _ _ _ _)
   | (with_reducible exact ih7 _ _ _ _ _ _ _ _ _ _)
   | (with_reducible exact LeO.refl _)
   | (with_reducible exact LeO.none _)
   | (with_reducible refine LeO.ite ?_ ?_)
   | (with_reducible refine LeO.bind ?_ (fun _ => ?_))
   | exact ih0 _ _ _
   | exact ih1 _ _ _ _ _
   | exact ih2 _ _ _ _ _ _ _ _
   | exact ih3 _ _ _ _ _ _ _ _ _
   | exact ih4 _ _ _ _ _ _ _ _ _ _ _ _
   | exact ih5 _ _ _ _
   | exact ih6 _ _ _ _ _ _ _
   | exact ih7 _ _ _ _ _ _ _ _ _ _
   | exact LeO.none _
   | refine LeO.ite ?_ ?_
   | refine LeO.bind ?_ (fun _ => ?_)
  ·intro y0 y1 y2 y3 y4 y5 y6 y7 y8
   unfold impl_OrderOk.l1
   repeat' first
   | (with_reducible exact ih0 _ _ _)
   | (with_reducible exact ih1 _ _ _ _ _)
   | (with_reducible exact ih2 _ _ _ _ _ _ _ _)
   | (with_reducible exact ih3 _ _ _ _ _ _ _ _ _)
   | (with_reducible exact ih4 _ _ _ _ _ _ _ _ _ _ _ _)
   | (with_reducible exact ih5 _ _ _ _)
   | (with_reducible exact ih6 _ _ _ _ _ _ _)
   | (with_reducible exact ih7 _ _ _ _ _ _ _ _ _ _)
   | (with_reducible exact LeO.refl _)
   | (with_reducible exact LeO.none _)
   | (with_reducible refine LeO.ite ?_ ?_)
   | (with_reducible refine LeO.bind ?_ (fun _ => ?_))
   | exact ih0 _ _ _
   | exact ih1 _ _ _ _ _
   | exact ih2 _ _ _ _ _ _ _ _
   | exact ih3 _ _ _ _ _ _ _ _ _
   | exact ih4 _ _ _ _ _ _ _ _ _ _ _ _
   | exact ih5 _ _ _ _
   | exact ih6 _ _ _ _ _ _ _
   | exact ih7 _ _ _ _ _ _ _ _ _ _
   | exact LeO.none _
   | refine LeO.ite ?_ ?_
   | refine LeO.bind ?_ (fun _ => ?_)
  ·intro y0 y1 y2 y3 y4 y5 y6 y7 y8 y9 y10 y11
   unfold impl_OrderOk.j4
   repeat' first
   | (with_reducible exact ih0 _ _ _)
   | (with_reducible exact ih1 _ _ _ _ _)
   | (with_reducible exact ih2 _ _ _ _ _ _ _ _)
   | (with_reducible exact ih3 _ _ _ _ _ _ _ _ _)
   | (with_reducible exact ih4 _ _ _ _ _ _ _ _ _ _ _ _)
   | (with_reducible exact ih5 _ _ _ _)
   | (with_reducible exact ih6 _ _ _ _ _ _ _)
   | (with_reducible exact ih7 _ _ _ _ _ _ _ _ _ _)
   | (with_reducible exact LeO.refl _)
   | (with_reducible exact LeO.none _)
   | (with_reducible refine LeO.ite ?_ ?_)
   | (with_reducible refine LeO.bind ?_ (fun _ => ?_))
   | exact ih0 _ _ _
   | exact ih1 _ _ _ _ _
   | exact ih2 _ _ _ _ _ _ _ _
   | exact ih3 _ _ _ _ _ _ _ _ _
   | exact ih4 _ _ _ _ _ _ _ _ _ _ _ _
   | exact ih5 _ _ _ _
   | exact ih6 _ _ _ _ _ _ _
   | exact ih7 _ _ _ _ _ _ _ _ _ _
   | exact LeO.none _
   | refine LeO.ite ?_ ?_
   | refine LeO.bind ?_ (fun _ => ?_)
  ·intro y0 y1 y2 y3
   unfold impl_OrderOk.l2
   repeat' first
   | (with_reducible exact ih0 _ _ _)
   | (with_reducible exact ih1 _ _ _ _ _)
   | (with_reducible exact ih2 _ _ _ _ _ _ _ _)
   | (with_reducible exact ih3 _ _ _ _ _ _ _ _ _)
   | (with_reducible exact ih4 _ _ _ _ _ _ _ _ _ _ _ _)
   | (with_reducible exact ih5 _ _ _ _)
   | (with_reducible exact ih6 _ _ _ _ _ _ _)
   | (with_reducible exact ih7 _ _ _ _ _ _ _ _ _ _)
   | (with_reducible exact LeO.refl _)
   | (with_reducible exact LeO.none _)
   | (with_reducible refine LeO.ite ?_ ?_)
   | (with_reducible refine LeO.bind ?_ (fun _ => ?_))
   | exact ih0 _ _ _
   | exact ih1 _ _ _ _ _
   | exact ih2 _ _ _ _ _ _ _ _
   | exact ih3 _ _ _ _ _ _ _ _ _
   | exact ih4 _ _ _ _ _ _ _ _ _ _ _ _
   | exact ih5 _ _ _ _
   | exact ih6 _ _ _ _ _ _ _
   | exact ih7 _ _ _ _ _ _ _ _ _ _
   | exact LeO.none _
   | refine LeO.ite ?_ ?_
   | refine LeO.bind ?_ (fun _ => ?_)
  ·intro y0 y1 y2 y3 y4 y5 y6
   unfold impl_OrderOk.l3
   repeat' first
   | (with_reducible exact ih0 _ _ _)
   | (with_reducible exact ih1 _ _ _ _ _)
   | (with_reducible exact ih2 _ _ _ _ _ _ _ _)
   | (with_reducible exact ih3 _ _ _ _ _ _ _ _ _)
   | (with_reducible exact ih4 _ _ _ _ _ _ _ _ _ _ _ _)
   | (with_reducible exact ih5 _ _ _ _)
   | (with_reducible exact ih6 _ _ _ _ _ _ _)
   | (with_reducible exact ih7 _ _ _ _ _ _ _ _ _ _)
   | (with_reducible exact LeO.refl _)
   | (with_reducible exact LeO.none _)
   | (with_reducible refine LeO.ite ?_ ?_)
   | (with_reducible refine LeO.bind ?_ (fun _ => ?_))
   | exact ih0 _ _ _
   | exact ih1 _ _ _ _ _
   | exact ih2 _ _ _ _ _ _ _ _
   | exact ih3 _ _ _ _ _ _ _ _ _
   | exact ih4 _ _ _ _ _ _ _ _ _ _ _ _
   | exact ih5 _ _ _ _
   | exact ih6 _ _ _ _ _ _ _
   | exact ih7 _ _ _ _ _ _ _ _ _ _
   | exact LeO.none _
   | refine LeO.ite ?_ ?_
   | refine LeO.bind ?_ (fun _ => ?_)
  ·intro y0 y1 y2 y3 y4 y5 y6 y7 y8 y9
   unfold impl_OrderOk.l4
   repeat' first
   | (with_reducible exact ih0 _ _ _)
   | (with_reducible exact ih1 _ _ _ _ _)
   | (with_reducible exact ih2 _ _ _ _ _ _ _ _)
   | (with_reducible exact ih3 _ _ _ _ _ _ _ _ _)
   | (with_reducible exact ih4 _ _ _ _ _ _ _ _ _ _ _ _)
   | (with_reducible exact ih5 _ _ _ _)
   | (with_reducible exact ih6 _ _ _ _ _ _ _)
   | (with_reducible exact ih7 _ _ _ _ _ _ _ _ _ _)
   | (with_reducible exact LeO.refl _)
   | (with_reducible exact LeO.none _)
   | (with_reducible refine LeO.ite ?_ ?_)
   | (with_reducible refine LeO.bind ?_ (fun _ => ?_))
   | exact ih0 _ _ _
   | exact ih1 _ _ _ _ _
   | exact ih2 _ _ _ _ _ _ _ _
   | exact ih3 _ _ _ _ _ _ _ _ _
   | exact ih4 _ _ _ _ _ _ _ _ _ _ _ _
   | exact ih5 _ _ _ _
   | exact ih6 _ _ _ _ _ _ _
   | exact ih7 _ _ _ _ _ _ _ _ _ _
   | exact LeO.none _
   | refine LeO.ite ?_ ?_
   | refine LeO.bind ?_ (fun _ => ?_)
theorem impl_OrderOk.mono : ∀ a0 k, LeO (impl_OrderOk.f k a0) (impl_OrderOk.f (k + 1) a0) := by
 intro a0 k
 obtain ⟨ih0, ih1, ih2, ih3, ih4, ih5, ih6, ih7⟩ := impl_OrderOk.mono_l k
 unfold impl_OrderOk.f
 repeat' first
   | (with_reducible exact ih0 _ _ _)
   | (with_reducible exact ih1 _ _ _ _ _)
   | (with_reducible exact ih2 _ _ _ _ _ _ _ _)
   | (with_reducible exact ih3 _ _ _ _ _ _ _ _ _)
   | (with_reducible exact ih4 _ _ _ _ _ _ _ _ _ _ _ _)
   | (with_reducible exact ih5 _ _ _ _)
   | (with_reducible exact ih6 _ _ _ _ _ _ _)
   | (with_reducible exact ih7 _ _ _ _ _ _ _ _ _ _)
   | (with_reducible exact LeO.refl _)
   | (with_reducible exact LeO.none _)
   | (with_reducible refine LeO.ite ?_ ?_)
   | (with_reducible refine LeO.bind ?_ (fun _ => ?_))
   | exact ih0 _ _ _
   | exact ih1 _ _ _ _ _
   | exact ih2 _ _ _ _ _ _ _ _
   | exact ih3 _ _ _ _ _ _ _ _ _
   | exact ih4 _ _ _ _ _ _ _ _ _ _ _ _
   | exact ih5 _ _ _ _
   | exact ih6 _ _ _ _ _ _ _
   | exact ih7 _ _ _ _ _ _ _ _ _ _
   | exact LeO.none _
   | refine LeO.ite ?_ ?_
   | refine LeO.bind ?_ (fun _ => ?_)
set_option maxHeartbeats 8000000 in
set_option maxRecDepth 100000 in
theorem impl_OrderOk.calls (k : Nat) (A0 : Option Addr) (c0 : Nat) (l0 : List (List Int)) (r : Bool) (w : World) (hr0 : Kd.C (Kd.slice 3 (Kd.int .i64)) w A0 l0.length l0) (hc0 : l0.length ≤ c0) (h : impl_OrderOk.f k l0 = some r) :
  Calls Tryd.prog 44 #[.slice A0 l0.length c0] w fun e w' => e = .returned (.bool r) ∧ Drawn0 w w' := by
 have c2:=zqm hr0;have w2:=zqm hc0;clear hr0 hc0;have H:(if(l0.length:Int)<1 then(impl_OrderOk.j0 k l0 (l0.length:Int) true) else(impl_OrderOk.j0 k l0 (l0.length:Int) (decide ((l0.length:Int)>12))))=some r:=h;clear h;have p4:=zqm H;clear H
 go_enter Tryd.func44,Tryd.ntmps44
 go_upto_region 2 with (fail)
 go_cut [18] (fun t5 wc=> ∃(kq:Nat) (h2:Bool),t5= .bool h2∧Aside0 (impl_OrderOk.j0 kq l0 (l0.length:Int) h2=some r)∧Aside0 (kq≤k)∧Drawn0 w wc)
 case first=>
  have H:=p4.out;clear p4
  by_cases c3:(l0.length:Int)<1
  ·rw [if_pos c3] at H;have i2:decide ((l0.length:Int)<1)=true:=decide_eq_true c3;have s2:decide (l0.length<1)=true:=decide_eq_true (by omega);clear c3;(first|rw [i2]|(simp only [i64_w,i32_w];rw [i2])|skip);have H':=zqm H;clear H
   go_wp2
   go_meet
   case rel=>exact⟨_,(true),zq15,H',⟨zq61⟩,zq28⟩
  ·rw [if_neg c3] at H;have i2:decide ((l0.length:Int)<1)=false:=decide_eq_false c3;have s2:decide (l0.length<1)=false:=decide_eq_false (by omega);clear c3;(first|rw [i2]|(simp only [i64_w,i32_w];rw [i2])|skip);have H':=zqm H;clear H
   go_wp2
   go_meet
   case rel=>exact⟨_,(decide ((l0.length:Int)>12)),zq15,H',⟨zq61⟩,zq28⟩
 case rest=>
  clear p4;obtain⟨kq,h2,rfl,HA,b1,⟨mc1,rfl⟩⟩:=hcut
  cases kq with
  |zero=>exact absurd HA.out (by simp [impl_OrderOk.j0])
  |succ s0=>
   have H:=HA.out;clear HA;simp only [impl_OrderOk.j0] at H
   by_cases c4:h2=true
   ·subst c4;rw [if_pos rfl] at H;obtain rfl:=Option.some.inj H
    go_wp2
    go_ret
    exact⟨zq15,zq28⟩
   ·replace c4:=Bool.eq_false_iff.mpr c4;subst c4;rw [if_neg (show¬(false=true) by decide)] at H;have H':=zqm H;clear H
    go_wp2
    go_loopg [21] s0 (fun kq t6 w'=> ∃(a0:Int),t6= .int .i64 a0∧Aside0 (impl_OrderOk.l0 kq l0 (l0.length:Int) l0 (l0.length:Int) a0=some r)∧Aside0 (kq≤s0)∧Drawn0 w w')
    case atStart=>exact⟨(0),zq15,H',⟨Nat.le_refl _⟩,zq28⟩
    case round=>
     clear H';obtain⟨a0,rfl,HA,b2,⟨m2,rfl⟩⟩:=hrel
     cases gk with
     |zero=>exact absurd HA.out (by simp [impl_OrderOk.l0])
     |succ k2=>
      have H:=HA.out;clear HA;simp only [impl_OrderOk.l0] at H
      by_cases c5:a0<(l0.length:Int)
      ·rw [if_pos c5] at H;have s3:decide (a0<(l0.length:Int))=true:=decide_eq_true c5;clear c5
       by_cases c6:0≤a0
       ·rw [if_pos c6] at H;have w0:decide (0≤a0)=true:=decide_eq_true c6;clear c6
        by_cases c7:a0<(l0.length:Int)
        ·rw [if_pos c7] at H;have w1:decide (a0<(l0.length:Int))=true:=decide_eq_true c7;clear c7;have p5:=zqm H;clear H;have m0:0≤(a0:Int):=zqo;have m7:a0<(l0.length:Int):=zqo;obtain⟨e2,t3,t4,s6,t0,j7,j6⟩:=at_L5 c2.out a0 m0 m7
         cases s6
         have i8:=zqm j6;have s9:=zqm j7;clear j6 j7;replace m0:=eq_true m0;replace m7:=eq_true m7
         go_upto_region 7 with (fail)
         go_cut [36] (fun t7 wc=> ∃(kq:Nat) (h3:Bool),t7= .bool h3∧Aside0 (impl_OrderOk.j2 kq l0 (l0.length:Int) a0 (rd_L5 l0 a0) l0 (l0.length:Int) a0 h3=some r)∧Aside0 (kq≤k2)∧Drawn0 w wc)
         case first=>
          have H:=p5.out;clear p5
          by_cases c9:((rd_L5 l0 a0).length:Int)=(l0.length:Int)
          ·rw [if_pos c9] at H;have i4:(((rd_L5 l0 a0).length:Int)==(l0.length:Int))=true:=beq_iff_eq.mpr c9;have s4:(((rd_L5 l0 a0).length:Int) !=(l0.length:Int))=false:=bne_eq_false_iff_eq.mpr c9;(have s5:((rd_L5 l0 a0).length==l0.length)=true:=by first|simpa using c9|(simp at c9 ⊢;omega));clear c9;(first|rw [i4]|(simp only [i64_w,i32_w];rw [i4])|skip)
           by_cases n1:a0<((rd_L5 l0 a0).length:Int)
           ·rw [if_pos n1] at H;have u5:decide (a0<((rd_L5 l0 a0).length:Int))=true:=decide_eq_true n1;clear n1;have H':=zqm H;clear H;have m1:0≤(a0:Int):=zqo;have m8:a0<((rd_L5 l0 a0).length:Int):=zqo;obtain⟨u3,s7,t1⟩:=Kd.at_int i8.out a0 m1 m8
            cases s7
            replace m1:=eq_true m1;replace m8:=eq_true m8
            go_wp2
            go_meet
            case rel=>exact⟨_,(((rd (rd_L5 l0 a0) a0) !=1)),zq15,H',⟨by have:=b1.out;have:=b2.out;first|omega|exact Nat.le_refl _⟩,zq28⟩
           ·rw [if_neg n1] at H;exact absurd H (by simp)
          ·rw [if_neg c9] at H;have i4:(((rd_L5 l0 a0).length:Int)==(l0.length:Int))=false:=beq_eq_false_iff_ne.mpr c9;have s4:(((rd_L5 l0 a0).length:Int) !=(l0.length:Int))=true:=bne_iff_ne.mpr c9;(have s5:((rd_L5 l0 a0).length==l0.length)=false:=by first|simpa using c9|(simp at c9 ⊢;omega));(first|rw [i4]|(simp only [i64_w,i32_w];rw [i4])|skip);have H':=zqm H;clear H
           go_wp2
           go_meet
           case rel=>exact⟨_,(true),zq15,H',⟨by have:=b1.out;have:=b2.out;first|omega|exact Nat.le_refl _⟩,zq28⟩
         case rest=>
          clear p5;obtain⟨kq,h3,rfl,HA,e7,⟨mc7,rfl⟩⟩:=hcut
          cases kq with
          |zero=>exact absurd HA.out (by simp [impl_OrderOk.j2])
          |succ s1=>
           have H:=HA.out;clear HA;simp only [impl_OrderOk.j2] at H
           by_cases n2:h3=true
           ·subst n2;rw [if_pos rfl] at H;obtain rfl:=Option.some.inj H
            go_wp2
            go_ret
            exact⟨zq15,zq28⟩
           ·replace n2:=Bool.eq_false_iff.mpr n2;subst n2;rw [if_neg (show¬(false=true) by decide)] at H;have H':=zqm H;clear H
            go_wp2
            go_loopg [39] s1 (fun kq t8 w'=> ∃(a1:Int),t8= .int .i64 a1∧Aside0 (impl_OrderOk.l1 kq l0 (l0.length:Int) a0 l0 (l0.length:Int) a0 (rd_L5 l0 a0) ((rd_L5 l0 a0).length:Int) a1=some r)∧Aside0 (kq≤s1)∧Drawn0 w w')
            case atStart=>exact⟨(0),zq15,H',⟨Nat.le_refl _⟩,zq28⟩
            case round=>
             clear H';obtain⟨a1,rfl,HA,b3,⟨m4,rfl⟩⟩:=hrel
             cases gk with
             |zero=>exact absurd HA.out (by simp [impl_OrderOk.l1])
             |succ k4=>
              have H:=HA.out;clear HA;simp only [impl_OrderOk.l1] at H
              by_cases i9:a1<((rd_L5 l0 a0).length:Int)
              ·rw [if_pos i9] at H;have q0:decide (a1<((rd_L5 l0 a0).length:Int))=true:=decide_eq_true i9;clear i9
               by_cases n3:0≤a1
               ·rw [if_pos n3] at H;have u6:decide (0≤a1)=true:=decide_eq_true n3;clear n3
                by_cases n4:a1<((rd_L5 l0 a0).length:Int)
                ·rw [if_pos n4] at H;have u7:decide (a1<((rd_L5 l0 a0).length:Int))=true:=decide_eq_true n4;clear n4;have k9:=zqm H;clear H;have m6:0≤(a1:Int):=zqo;have m9:a1<((rd_L5 l0 a0).length:Int):=zqo;obtain⟨u4,s8,t2⟩:=Kd.at_int i8.out a1 m6 m9
                 cases s8
                 replace m6:=eq_true m6;replace m9:=eq_true m9
                 go_upto_region 12 with (fail)
                 go_cut [49] (fun t9 wc=> ∃(kq:Nat) (g3:Bool),t9= .bool g3∧Aside0 (impl_OrderOk.j4 kq l0 (l0.length:Int) a0 a1 (rd (rd_L5 l0 a0) a1) l0 (l0.length:Int) a0 (rd_L5 l0 a0) ((rd_L5 l0 a0).length:Int) a1 g3=some r)∧Aside0 (kq≤k4)∧Drawn0 w wc)
                 case first=>
                  have H:=k9.out;clear k9
                  by_cases h5:(rd (rd_L5 l0 a0) a1)=0
                  ·rw [if_pos h5] at H;have g1:((rd (rd_L5 l0 a0) a1)==0)=true:=beq_iff_eq.mpr h5;have q1:((rd (rd_L5 l0 a0) a1) !=0)=false:=bne_eq_false_iff_eq.mpr h5;clear h5;(first|rw [g1]|(simp only [i64_w,i32_w];rw [g1])|skip);have H':=zqm H;clear H
                   go_wp2
                   go_meet
                   case rel=>exact⟨_,(false),zq15,H',⟨zq132⟩,zq28⟩
                  ·rw [if_neg h5] at H;have g1:((rd (rd_L5 l0 a0) a1)==0)=false:=beq_eq_false_iff_ne.mpr h5;have q1:((rd (rd_L5 l0 a0) a1) !=0)=true:=bne_iff_ne.mpr h5;(first|rw [g1]|(simp only [i64_w,i32_w];rw [g1])|skip);have H':=zqm H;clear H
                   go_wp2
                   go_meet
                   case rel=>exact⟨_,(((rd (rd_L5 l0 a0) a1) !=1)),zq15,H',⟨zq132⟩,zq28⟩
                 case rest=>
                  clear k9;obtain⟨kq,g3,rfl,HA,g5,⟨mc14,rfl⟩⟩:=hcut
                  cases kq with
                  |zero=>exact absurd HA.out (by simp [impl_OrderOk.j4])
                  |succ l9=>
                   have H:=HA.out;clear HA;simp only [impl_OrderOk.j4] at H
                   by_cases n5:g3=true
                   ·subst n5;rw [if_pos rfl] at H;obtain rfl:=Option.some.inj H
                    go_wp2
                    go_ret
                    exact⟨zq15,zq28⟩
                   ·replace n5:=Bool.eq_false_iff.mpr n5;subst n5;rw [if_neg (show¬(false=true) by decide)] at H
                    by_cases n6:0≤a1
                    ·rw [if_pos n6] at H;have u8:decide (0≤a1)=true:=decide_eq_true n6;clear n6
                     by_cases n7:a1<(l0.length:Int)
                     ·rw [if_pos n7] at H;have u9:decide (a1<(l0.length:Int))=true:=decide_eq_true n7;clear n7
                      by_cases e4:((rd_L5 l0 a1).length:Int)=(l0.length:Int)
                      ·rw [if_pos e4] at H;have q2:(((rd_L5 l0 a1).length:Int)==(l0.length:Int))=true:=beq_iff_eq.mpr e4;have q3:(((rd_L5 l0 a1).length:Int) !=(l0.length:Int))=false:=bne_eq_false_iff_eq.mpr e4;(have q4:((rd_L5 l0 a1).length==l0.length)=true:=by first|simpa using e4|(simp at e4 ⊢;omega));clear e4
                       by_cases h6:(rd (rd_L5 l0 a0) a1)=1
                       ·rw [if_pos h6] at H;have q5:((rd (rd_L5 l0 a0) a1)==1)=true:=beq_iff_eq.mpr h6;have q6:((rd (rd_L5 l0 a0) a1) !=1)=false:=bne_eq_false_iff_eq.mpr h6;clear h6
                        by_cases h7:a0=a1
                        ·rw [if_pos h7] at H;have q7:(a0==a1)=true:=beq_iff_eq.mpr h7;have q8:(a0 !=a1)=false:=bne_eq_false_iff_eq.mpr h7;clear h7;have H':=zqm H;clear H;have a9:0≤(a1:Int):=zqo;have b0:a1<(l0.length:Int):=zqo;obtain⟨c8,f9,g2,e3,d0,a6,a5⟩:=at_L5 c2.out a1 a9 b0;obtain rfl:e2=c8:=(by injection e3);have e6:=zqm a5;have e5:=zqm a6;clear a5 a6;replace a9:=eq_true a9;replace b0:=eq_true b0
                         go_wp2
                         go_roundg l9
                         (case measure=> exact zq83);case rel=>exact⟨(wrap64 (a1+1)),zq15,H',⟨zq83⟩,zq28⟩
                        ·rw [if_neg h7] at H;have q7:(a0==a1)=false:=beq_eq_false_iff_ne.mpr h7;have q8:(a0 !=a1)=true:=bne_iff_ne.mpr h7
                         by_cases n8:0≤a0
                         ·rw [if_pos n8] at H;have v0:decide (0≤a0)=true:=decide_eq_true n8;clear n8
                          by_cases n9:a0<((rd_L5 l0 a1).length:Int)
                          ·rw [if_pos n9] at H;have v1:decide (a0<((rd_L5 l0 a1).length:Int))=true:=decide_eq_true n9;clear n9
                           by_cases h8:(rd (rd_L5 l0 a1) a0)=1
                           ·rw [if_pos h8] at H;have q9:((rd (rd_L5 l0 a1) a0)==1)=true:=beq_iff_eq.mpr h8;have r0:((rd (rd_L5 l0 a1) a0) !=1)=false:=bne_eq_false_iff_eq.mpr h8;clear h8;obtain rfl:=Option.some.inj H;have a9:0≤(a1:Int):=zqo;have b0:a1<(l0.length:Int):=zqo;obtain⟨c8,f9,g2,e3,d0,a6,a5⟩:=at_L5 c2.out a1 a9 b0;obtain rfl:e2=c8:=(by injection e3);have e6:=zqm a5;have e5:=zqm a6;clear a5 a6;replace a9:=eq_true a9;replace b0:=eq_true b0;have f1:0≤(a1:Int):=zqo;have f5:a1<(l0.length:Int):=zqo;obtain⟨k0,p2,p6,l5,g8,d9,d7⟩:=at_L5 c2.out a1 f1 f5;obtain rfl:e2=k0:=(by injection l5);have g6:=zqm d7;have o8:=zqm d9;clear d7 d9;replace f1:=eq_true f1;replace f5:=eq_true f5;have ea_:=Option.some.inj (d0.symm.trans g8);injection ea_ with ea_ en_ ec_;subst ea_;subst ec_;clear en_;have f2:0≤(a0:Int):=zqo;have f6:a0<((rd_L5 l0 a1).length:Int):=zqo;obtain⟨p8,l6,p0⟩:=Kd.at_int g6.out a0 f2 f6
                            cases l6
                            replace f2:=eq_true f2;replace f6:=eq_true f6
                            go_wp2
                            go_ret
                            exact⟨zq15,zq28⟩
                           ·rw [if_neg h8] at H;have q9:((rd (rd_L5 l0 a1) a0)==1)=false:=beq_eq_false_iff_ne.mpr h8;have r0:((rd (rd_L5 l0 a1) a0) !=1)=true:=bne_iff_ne.mpr h8;have H':=zqm H;clear H;have a9:0≤(a1:Int):=zqo;have b0:a1<(l0.length:Int):=zqo;obtain⟨c8,f9,g2,e3,d0,a6,a5⟩:=at_L5 c2.out a1 a9 b0;obtain rfl:e2=c8:=(by injection e3);have e6:=zqm a5;have e5:=zqm a6;clear a5 a6;replace a9:=eq_true a9;replace b0:=eq_true b0;have f1:0≤(a1:Int):=zqo;have f5:a1<(l0.length:Int):=zqo;obtain⟨k0,p2,p6,l5,g8,d9,d7⟩:=at_L5 c2.out a1 f1 f5;obtain rfl:e2=k0:=(by injection l5);have g6:=zqm d7;have o8:=zqm d9;clear d7 d9;replace f1:=eq_true f1;replace f5:=eq_true f5;have ea_:=Option.some.inj (d0.symm.trans g8);injection ea_ with ea_ en_ ec_;subst ea_;subst ec_;clear en_;have f2:0≤(a0:Int):=zqo;have f6:a0<((rd_L5 l0 a1).length:Int):=zqo;obtain⟨p8,l6,p0⟩:=Kd.at_int g6.out a0 f2 f6
                            cases l6
                            replace f2:=eq_true f2;replace f6:=eq_true f6
                            go_wp2
                            go_roundg l9
                            (case measure=> exact zq83);case rel=>exact⟨(wrap64 (a1+1)),zq15,H',⟨zq83⟩,zq28⟩
                          ·rw [if_neg n9] at H;exact absurd H (by simp)
                         ·rw [if_neg n8] at H;exact absurd H (by simp)
                       ·rw [if_neg h6] at H;have q5:((rd (rd_L5 l0 a0) a1)==1)=false:=beq_eq_false_iff_ne.mpr h6;have q6:((rd (rd_L5 l0 a0) a1) !=1)=true:=bne_iff_ne.mpr h6;have H':=zqm H;clear H;have a9:0≤(a1:Int):=zqo;have b0:a1<(l0.length:Int):=zqo;obtain⟨c8,f9,g2,e3,d0,a6,a5⟩:=at_L5 c2.out a1 a9 b0;obtain rfl:e2=c8:=(by injection e3);have e6:=zqm a5;have e5:=zqm a6;clear a5 a6;replace a9:=eq_true a9;replace b0:=eq_true b0
                        go_wp2
                        go_roundg l9
                        (case measure=> exact zq83);case rel=>exact⟨(wrap64 (a1+1)),zq15,H',⟨zq83⟩,zq28⟩
                      ·rw [if_neg e4] at H;have q2:(((rd_L5 l0 a1).length:Int)==(l0.length:Int))=false:=beq_eq_false_iff_ne.mpr e4;have q3:(((rd_L5 l0 a1).length:Int) !=(l0.length:Int))=true:=bne_iff_ne.mpr e4;(have q4:((rd_L5 l0 a1).length==l0.length)=false:=by first|simpa using e4|(simp at e4 ⊢;omega));obtain rfl:=Option.some.inj H;have a9:0≤(a1:Int):=zqo;have b0:a1<(l0.length:Int):=zqo;obtain⟨c8,f9,g2,e3,d0,a6,a5⟩:=at_L5 c2.out a1 a9 b0;obtain rfl:e2=c8:=(by injection e3);have e6:=zqm a5;have e5:=zqm a6;clear a5 a6;replace a9:=eq_true a9;replace b0:=eq_true b0
                       go_wp2
                       go_ret
                       exact⟨zq15,zq28⟩
                     ·rw [if_neg n7] at H;exact absurd H (by simp)
                    ·rw [if_neg n6] at H;exact absurd H (by simp)
                ·rw [if_neg n4] at H;exact absurd H (by simp)
               ·rw [if_neg n3] at H;exact absurd H (by simp)
              ·rw [if_neg i9] at H;have q0:decide (a1<((rd_L5 l0 a0).length:Int))=false:=decide_eq_false i9;clear i9;have H':=zqm H;clear H
               go_wp2
               go_roundg k4
               (case measure=>have:=b1.out;have:=b2.out;have:=e7.out;have:=b3.out;omega);case rel=>exact⟨(wrap64 (a0+1)),zq15,H',⟨by have:=b1.out;have:=b2.out;have:=e7.out;have:=b3.out;omega⟩,zq28⟩
        ·rw [if_neg c7] at H;exact absurd H (by simp)
       ·rw [if_neg c6] at H;exact absurd H (by simp)
      ·rw [if_neg c5] at H;have s3:decide (a0<(l0.length:Int))=false:=decide_eq_false c5;clear c5;have H':=zqm H;clear H
       go_wp2
       go_loopg [79] k2 (fun kq u0 w'=> ∃(a2:Int),u0= .int .i64 a2∧Aside0 (impl_OrderOk.l2 kq l0 (l0.length:Int) (l0.length:Int) a2=some r)∧Aside0 (kq≤k2)∧Drawn0 w w')
       case atStart=>exact⟨(0),zq15,H',⟨Nat.le_refl _⟩,zq28⟩
       case round=>
        clear H';obtain⟨a2,rfl,HA,e8,⟨m3,rfl⟩⟩:=hrel
        cases gk with
        |zero=>exact absurd HA.out (by simp [impl_OrderOk.l2])
        |succ k3=>
         have H:=HA.out;clear HA;simp only [impl_OrderOk.l2] at H
         by_cases j1:a2<(l0.length:Int)
         ·rw [if_pos j1] at H;have r1:decide (a2<(l0.length:Int))=true:=decide_eq_true j1;clear j1;have H':=zqm H;clear H
          go_wp2
          go_loopg [83] k3 (fun kq u1 w'=> ∃(a3:Int),u1= .int .i64 a3∧Aside0 (impl_OrderOk.l3 kq l0 (l0.length:Int) a2 (l0.length:Int) a2 (l0.length:Int) a3=some r)∧Aside0 (kq≤k3)∧Drawn0 w w')
          case atStart=>exact⟨(0),zq15,H',⟨Nat.le_refl _⟩,zq28⟩
          case round=>
           clear H';obtain⟨a3,rfl,HA,b3,⟨m4,rfl⟩⟩:=hrel
           cases gk with
           |zero=>exact absurd HA.out (by simp [impl_OrderOk.l3])
           |succ k4=>
            have H:=HA.out;clear HA;simp only [impl_OrderOk.l3] at H
            by_cases j3:a3<(l0.length:Int)
            ·rw [if_pos j3] at H;have r2:decide (a3<(l0.length:Int))=true:=decide_eq_true j3;clear j3;have H':=zqm H;clear H
             go_wp2
             go_loopg [87] k4 (fun kq u2 w'=> ∃(a4:Int),u2= .int .i64 a4∧Aside0 (impl_OrderOk.l4 kq l0 (l0.length:Int) a2 a3 (l0.length:Int) a2 (l0.length:Int) a3 (l0.length:Int) a4=some r)∧Aside0 (kq≤k4)∧Drawn0 w w')
             case atStart=>exact⟨(0),zq15,H',⟨Nat.le_refl _⟩,zq28⟩
             case round=>
              clear H';obtain⟨a4,rfl,HA,h1,⟨m5,rfl⟩⟩:=hrel
              cases gk with
              |zero=>exact absurd HA.out (by simp [impl_OrderOk.l4])
              |succ k5=>
               have H:=HA.out;clear HA;simp only [impl_OrderOk.l4] at H
               by_cases j5:a4<(l0.length:Int)
               ·rw [if_pos j5] at H;have r3:decide (a4<(l0.length:Int))=true:=decide_eq_true j5;clear j5
                by_cases o0:0≤a2
                ·rw [if_pos o0] at H;have v2:decide (0≤a2)=true:=decide_eq_true o0;clear o0
                 by_cases o1:a2<(l0.length:Int)
                 ·rw [if_pos o1] at H;have v3:decide (a2<(l0.length:Int))=true:=decide_eq_true o1;clear o1
                  by_cases o2:0≤a3
                  ·rw [if_pos o2] at H;have v4:decide (0≤a3)=true:=decide_eq_true o2;clear o2
                   by_cases o3:a3<((rd_L5 l0 a2).length:Int)
                   ·rw [if_pos o3] at H;have v5:decide (a3<((rd_L5 l0 a2).length:Int))=true:=decide_eq_true o3;clear o3
                    by_cases h9:(rd (rd_L5 l0 a2) a3)=1
                    ·rw [if_pos h9] at H;have r4:((rd (rd_L5 l0 a2) a3)==1)=true:=beq_iff_eq.mpr h9;have r5:((rd (rd_L5 l0 a2) a3) !=1)=false:=bne_eq_false_iff_eq.mpr h9;clear h9
                     by_cases o4:a3<(l0.length:Int)
                     ·rw [if_pos o4] at H;have v6:decide (a3<(l0.length:Int))=true:=decide_eq_true o4;clear o4
                      by_cases o5:0≤a4
                      ·rw [if_pos o5] at H;have v7:decide (0≤a4)=true:=decide_eq_true o5;clear o5
                       by_cases o6:a4<((rd_L5 l0 a3).length:Int)
                       ·rw [if_pos o6] at H;have v8:decide (a4<((rd_L5 l0 a3).length:Int))=true:=decide_eq_true o6;clear o6
                        by_cases i0:(rd (rd_L5 l0 a3) a4)=1
                        ·rw [if_pos i0] at H;have r6:((rd (rd_L5 l0 a3) a4)==1)=true:=beq_iff_eq.mpr i0;have r7:((rd (rd_L5 l0 a3) a4) !=1)=false:=bne_eq_false_iff_eq.mpr i0;clear i0
                         by_cases o7:a4<((rd_L5 l0 a2).length:Int)
                         ·rw [if_pos o7] at H;have v9:decide (a4<((rd_L5 l0 a2).length:Int))=true:=decide_eq_true o7;clear o7
                          by_cases i1:(rd (rd_L5 l0 a2) a4)=1
                          ·rw [if_pos i1] at H;have r8:((rd (rd_L5 l0 a2) a4)==1)=true:=beq_iff_eq.mpr i1;have r9:((rd (rd_L5 l0 a2) a4) !=1)=false:=bne_eq_false_iff_eq.mpr i1;clear i1;have H':=zqm H;clear H;have b4:0≤(a2:Int):=zqo;have b6:a2<(l0.length:Int):=zqo;obtain⟨d5,h4,i3,e9,e1,a8,a7⟩:=at_L5 c2.out a2 b4 b6
                           cases e9
                           have c1:=zqm a7;have g4:=zqm a8;clear a7 a8;replace b4:=eq_true b4;replace b6:=eq_true b6;have b5:0≤(a3:Int):=zqo;have b7:a3<((rd_L5 l0 a2).length:Int):=zqo;obtain⟨k1,f0,g9⟩:=Kd.at_int c1.out a3 b5 b7
                           cases f0
                           replace b5:=eq_true b5;replace b7:=eq_true b7;have d1:0≤(a3:Int):=zqo;have d3:a3<(l0.length:Int):=zqo;obtain⟨g0,k7,k8,i5,j8,b9,b8⟩:=at_L5 c2.out a3 d1 d3;obtain rfl:d5=g0:=(by injection i5);have d6:=zqm b8;have i7:=zqm b9;clear b8 b9;replace d1:=eq_true d1;replace d3:=eq_true d3;have d2:0≤(a4:Int):=zqo;have d4:a4<((rd_L5 l0 a3).length:Int):=zqo;obtain⟨n0,i6,j9⟩:=Kd.at_int d6.out a4 d2 d4
                           cases i6
                           replace d2:=eq_true d2;replace d4:=eq_true d4;have f3:0≤(a2:Int):=zqo;have f7:a2<(l0.length:Int):=zqo;obtain⟨k6,p3,p7,l7,h0,e0,d8⟩:=at_L5 c2.out a2 f3 f7;obtain rfl:d5=k6:=(by injection l7);have g7:=zqm d8;have o9:=zqm e0;clear d8 e0;replace f3:=eq_true f3;replace f7:=eq_true f7;have ea_:=Option.some.inj (e1.symm.trans h0);injection ea_ with ea_ en_ ec_;subst ea_;subst ec_;clear en_;have f4:0≤(a4:Int):=zqo;have f8:a4<((rd_L5 l0 a2).length:Int):=zqo;obtain⟨p9,l8,p1⟩:=Kd.at_int g7.out a4 f4 f8
                           cases l8
                           replace f4:=eq_true f4;replace f8:=eq_true f8
                           go_wp2
                           go_roundg k5
                           (case measure=> exact zq60);case rel=>exact⟨(wrap64 (a4+1)),zq15,H',⟨zq60⟩,zq28⟩
                          ·rw [if_neg i1] at H;have r8:((rd (rd_L5 l0 a2) a4)==1)=false:=beq_eq_false_iff_ne.mpr i1;have r9:((rd (rd_L5 l0 a2) a4) !=1)=true:=bne_iff_ne.mpr i1;obtain rfl:=Option.some.inj H;have b4:0≤(a2:Int):=zqo;have b6:a2<(l0.length:Int):=zqo;obtain⟨d5,h4,i3,e9,e1,a8,a7⟩:=at_L5 c2.out a2 b4 b6
                           cases e9
                           have c1:=zqm a7;have g4:=zqm a8;clear a7 a8;replace b4:=eq_true b4;replace b6:=eq_true b6;have b5:0≤(a3:Int):=zqo;have b7:a3<((rd_L5 l0 a2).length:Int):=zqo;obtain⟨k1,f0,g9⟩:=Kd.at_int c1.out a3 b5 b7
                           cases f0
                           replace b5:=eq_true b5;replace b7:=eq_true b7;have d1:0≤(a3:Int):=zqo;have d3:a3<(l0.length:Int):=zqo;obtain⟨g0,k7,k8,i5,j8,b9,b8⟩:=at_L5 c2.out a3 d1 d3;obtain rfl:d5=g0:=(by injection i5);have d6:=zqm b8;have i7:=zqm b9;clear b8 b9;replace d1:=eq_true d1;replace d3:=eq_true d3;have d2:0≤(a4:Int):=zqo;have d4:a4<((rd_L5 l0 a3).length:Int):=zqo;obtain⟨n0,i6,j9⟩:=Kd.at_int d6.out a4 d2 d4
                           cases i6
                           replace d2:=eq_true d2;replace d4:=eq_true d4;have f3:0≤(a2:Int):=zqo;have f7:a2<(l0.length:Int):=zqo;obtain⟨k6,p3,p7,l7,h0,e0,d8⟩:=at_L5 c2.out a2 f3 f7;obtain rfl:d5=k6:=(by injection l7);have g7:=zqm d8;have o9:=zqm e0;clear d8 e0;replace f3:=eq_true f3;replace f7:=eq_true f7;have ea_:=Option.some.inj (e1.symm.trans h0);injection ea_ with ea_ en_ ec_;subst ea_;subst ec_;clear en_;have f4:0≤(a4:Int):=zqo;have f8:a4<((rd_L5 l0 a2).length:Int):=zqo;obtain⟨p9,l8,p1⟩:=Kd.at_int g7.out a4 f4 f8
                           cases l8
                           replace f4:=eq_true f4;replace f8:=eq_true f8
                           go_wp2
                           go_ret
                           exact⟨zq15,zq28⟩
                         ·rw [if_neg o7] at H;exact absurd H (by simp)
                        ·rw [if_neg i0] at H;have r6:((rd (rd_L5 l0 a3) a4)==1)=false:=beq_eq_false_iff_ne.mpr i0;have r7:((rd (rd_L5 l0 a3) a4) !=1)=true:=bne_iff_ne.mpr i0;have H':=zqm H;clear H;have b4:0≤(a2:Int):=zqo;have b6:a2<(l0.length:Int):=zqo;obtain⟨d5,h4,i3,e9,e1,a8,a7⟩:=at_L5 c2.out a2 b4 b6
                         cases e9
                         have c1:=zqm a7;have g4:=zqm a8;clear a7 a8;replace b4:=eq_true b4;replace b6:=eq_true b6;have b5:0≤(a3:Int):=zqo;have b7:a3<((rd_L5 l0 a2).length:Int):=zqo;obtain⟨k1,f0,g9⟩:=Kd.at_int c1.out a3 b5 b7
                         cases f0
                         replace b5:=eq_true b5;replace b7:=eq_true b7;have d1:0≤(a3:Int):=zqo;have d3:a3<(l0.length:Int):=zqo;obtain⟨g0,k7,k8,i5,j8,b9,b8⟩:=at_L5 c2.out a3 d1 d3;obtain rfl:d5=g0:=(by injection i5);have d6:=zqm b8;have i7:=zqm b9;clear b8 b9;replace d1:=eq_true d1;replace d3:=eq_true d3;have d2:0≤(a4:Int):=zqo;have d4:a4<((rd_L5 l0 a3).length:Int):=zqo;obtain⟨n0,i6,j9⟩:=Kd.at_int d6.out a4 d2 d4
                         cases i6
                         replace d2:=eq_true d2;replace d4:=eq_true d4
                         go_wp2
                         go_roundg k5
                         (case measure=> exact zq60);case rel=>exact⟨(wrap64 (a4+1)),zq15,H',⟨zq60⟩,zq28⟩
                       ·rw [if_neg o6] at H;exact absurd H (by simp)
                      ·rw [if_neg o5] at H;exact absurd H (by simp)
                     ·rw [if_neg o4] at H;exact absurd H (by simp)
                    ·rw [if_neg h9] at H;have r4:((rd (rd_L5 l0 a2) a3)==1)=false:=beq_eq_false_iff_ne.mpr h9;have r5:((rd (rd_L5 l0 a2) a3) !=1)=true:=bne_iff_ne.mpr h9;have H':=zqm H;clear H;have b4:0≤(a2:Int):=zqo;have b6:a2<(l0.length:Int):=zqo;obtain⟨d5,h4,i3,e9,e1,a8,a7⟩:=at_L5 c2.out a2 b4 b6
                     cases e9
                     have c1:=zqm a7;have g4:=zqm a8;clear a7 a8;replace b4:=eq_true b4;replace b6:=eq_true b6;have b5:0≤(a3:Int):=zqo;have b7:a3<((rd_L5 l0 a2).length:Int):=zqo;obtain⟨k1,f0,g9⟩:=Kd.at_int c1.out a3 b5 b7
                     cases f0
                     replace b5:=eq_true b5;replace b7:=eq_true b7
                     go_wp2
                     go_roundg k5
                     (case measure=> exact zq60);case rel=>exact⟨(wrap64 (a4+1)),zq15,H',⟨zq60⟩,zq28⟩
                   ·rw [if_neg o3] at H;exact absurd H (by simp)
                  ·rw [if_neg o2] at H;exact absurd H (by simp)
                 ·rw [if_neg o1] at H;exact absurd H (by simp)
                ·rw [if_neg o0] at H;exact absurd H (by simp)
               ·rw [if_neg j5] at H;have r3:decide (a4<(l0.length:Int))=false:=decide_eq_false j5;clear j5;have H':=zqm H;clear H
                go_wp2
                go_roundg k5
                (case measure=> exact zq60);case rel=>exact⟨(wrap64 (a3+1)),zq15,H',⟨zq60⟩,zq28⟩
            ·rw [if_neg j3] at H;have r2:decide (a3<(l0.length:Int))=false:=decide_eq_false j3;clear j3;have H':=zqm H;clear H
             go_wp2
             go_roundg k4
             (case measure=>have:=b1.out;have:=b2.out;have:=e8.out;have:=b3.out;omega);case rel=>exact⟨(wrap64 (a2+1)),zq15,H',⟨by have:=b1.out;have:=b2.out;have:=e8.out;have:=b3.out;omega⟩,zq28⟩
         ·rw [if_neg j1] at H;have r1:decide (a2<(l0.length:Int))=false:=decide_eq_false j1;clear j1;obtain rfl:=Option.some.inj H
          go_wp2
          go_ret
          exact⟨zq15,zq28⟩
end
end Go.Proofs.YtddgcdpogpppgaaDoor.Print
end
