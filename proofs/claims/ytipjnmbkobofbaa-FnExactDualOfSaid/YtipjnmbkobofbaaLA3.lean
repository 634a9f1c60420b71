/- Part 3 of what is common to several claims of this seat: DualL. -/
import Derived.Test.YtipjnmbkobofbaaLA2
import Derived.Below
import Derived.Deep.Draws
import Derived.Deep.AppendLies
import Derived.Maps.AppendAt
import Derived.OwnWalk
import Derived.Laws.BytesArg
import Derived.Laws.MakeOwn
import Derived.Laws.OwnMore
import Derived.Deep.OwnRows
import Derived.Tactics
import Derived.Lib.ConvBytes
import Derived.Laws.Slices
import Derived.WalkKit
import Derived.KernelRfl
import Derived.RowKit3
import Derived.Deep.LoopGhost
import Derived.Deep.QuietTactic
import Derived.BigQuiet
import Derived.WideLaws
import Derived.Deep.DeepCutAuto
import Derived.Deep.CutBlock
import Derived.Deep.RegionHeld3
import Derived.Laws.Rows
import Derived.Lib.AppendStr
import Derived.ArgAppend
import Derived.Laws.IdiomCopy
import Derived.RowKit
import Derived.OrdersHeld
import Derived.Laws.BitsLemmas
import Derived.Test.YtipjnmbkobofbaaProg
import Derived.Tactics2
import Derived.Defers
import Derived.Laws.Pointers
import Derived.Laws.LoneSync
import Derived.RegionTactic
import Derived.RegionCalls
import Derived.ChangeAlike
set_option linter.all false
section
namespace Go.Proofs.Ytipjnmbkobofbaa
section
variable {p : Prop}
open Go.RowKit Go.Proofs.YtipjnmbkobofbaaW.PrintWords Go.Proofs.YtipjnmbkobofbaaW.PrintLast
theorem zqm {p : Prop} (h : p) : Aside0 p := Aside0.mk h
theorem zqp {P : Program} {ops : Array Oper} {Q : Exit → Act → World → Prop} {md : Region.Mode} {S : World → Prop} {ds : List Nat} {T : Bool × List (List Nat × List Nat)} {oi : Oper} {v : Value} {fuel : Nat} {l : Array Bool} {a a' : Act} {w : World} (i n : Nat) (l' : Array Bool) (HT : Aside0 (rtab md ops = T)) (h : wpAnyLast P md ops Q S ds fuel l' a' w) (hi : ops[i]? = some oi := by exact rfl) (hN : oi.dst = some n := by exact rfl) (hc : anyT T l.toList l'.toList i = true := by kernel_rfl) (hQ : ∀ c a w, Q (.panic c) (a.put oi.dst v) w → Q (.panic c) a w := by exact fun _ _ _ h => h) (hw : Region.wanted oi (yielded ops a.tmps) = true := by rfl) (hr : ∀ w', (execOp a.eval oi).run P w' = .ok (.value v) w' := by intro w'; go_simp; with_reducible rfl) (ha : a.put (some n) v = a' := by simp only [Act.put, List.setIfInBounds_toArray, List.set_cons_zero, List.set_cons_succ, i64_w, i32_w]; rfl) : wpAnyLast P md ops Q S ds (fuel + 1) l a w :=
  pure_ l' hi hN (any_of HT.out hc) hQ (Or.inl ⟨hw, hr⟩) ha h
def zqb (n k : Nat) : Array Bool := ((List.range n).map fun i => Nat.testBit k i).toArray
theorem zqk (h:p:=by kernel_rfl):p:=h
theorem zqo [Decidable p] (h:decide p=true:=by first|(with_reducible assumption)|assumption):p:=of_decide_eq_true h
theorem zq0 (h:p:=by (try simp only [List.map_toArray,List.map_cons,List.map_nil]);first|done|rfl|(simp only [List.length_drop,List.length_take];rfl)):p:=h
theorem zq1 (h:p:=by repeat(first|exact Drawn0.refl _|apply Drawn0.step)):p:=h
theorem zq2 (h:p:=by first|rfl|(simp;done)|(simp [*];done)):p:=h
theorem zq3 (h:p:=by repeat(first|exact HB.out|apply below_alloc|apply pw_below_drewN|apply below_drew1)):p:=h
theorem zq4 (h:p:=by repeat(first|(with_reducible first|exact HB.out|apply below_alloc|apply pw_below_drewN|apply below_drew1)|exact HB.out)):p:=h
theorem zq5 (h:p:=by first|rfl|(simp [errW_none,errW_some] <;> rfl)|(simp [*,errW_none,errW_some] <;> rfl)):p:=h
theorem zq6 (h:p:=by repeat(first|exact Below.refl _ _|apply below_alloc|apply pw_below_drewN|apply below_drew1)):p:=h
theorem zq7 (h:p:=by have:=a4.out;first|omega|exact Nat.le_refl _):p:=h
theorem zq8 (h:p:=by first|exact HRND.out|exact HRNE.out|rfl):p:=h
theorem zq9 (h:p:=by first|omega|exact Nat.le_refl _):p:=h
theorem zq10 (h:p:=by have:=HXI.out;have:=HLT.out;omega):p:=h
theorem zq11 (h:p:=by have:=a4.out;have:=b9.out;omega):p:=h
end
end Go.Proofs.Ytipjnmbkobofbaa
end
section
namespace Go.Proofs.Ytipjnmbkobofbaa.Print
open Go.RowKit Go.Proofs.YtipjnmbkobofbaaW.PrintWords Go.Proofs.YtipjnmbkobofbaaW.PrintLast Go.Proofs.YtipjnmbkobofbaaW.PrintMore
section
attribute [local go_sem] max2_int min2_int max_two min_two max_three min_three max_four min_four
def errW : Option Int → Value
 | none => .nilIface
 | some c => .iface 0 (.int .i64 c)
theorem errW_none : errW none = .nilIface := rfl
theorem errW_some (c : Int) : errW (some c) = .iface 0 (.int .i64 c) := rfl
end
section
attribute [local go_sem] max2_int min2_int max_two min_two max_three min_three max_four min_four
mutual
def spec_l10End.j0 : Nat → ByteArray → Int → Int → Bool → Option (Int)
 | 0, _, _, _, _ => none
 | k + 1, x0, x1, x13, x14 => if x14 = true then (some (wrap64 (x1 + 1))) else (if x13 = 33 then ((spec_l10End.f k x0 (wrap64 (x1 + 1))).bind fun t101 => (some t101)) else (if x13 = 40 then ((spec_l10End.f k x0 (wrap64 (x1 + 1))).bind fun t102 => (if t102 < 0 then (spec_l10End.j1 k x0 t102 true) else (if t102 ≥ (x0.size : Int) then (spec_l10End.j1 k x0 t102 true) else (if 0 ≤ t102 then (if t102 < (x0.size : Int) then (if (bt x0 t102) = 38 then (spec_l10End.j1 k x0 t102 false) else (spec_l10End.j1 k x0 t102 ((bt x0 t102) != 124))) else (none)) else (none))))) else (some (-1))))
def spec_l10End.j1 : Nat → ByteArray → Int → Bool → Option (Int)
 | 0, _, _, _ => none
 | k + 1, x0, x5, x53 => if x53 = true then (some (-1)) else ((spec_l10End.f k x0 (wrap64 (x5 + 1))).bind fun t103 => (if t103 < 0 then (some (-1)) else (if t103 ≥ (x0.size : Int) then (some (-1)) else (if 0 ≤ t103 then (if t103 < (x0.size : Int) then (if (bt x0 t103) = 41 then (some (wrap64 (t103 + 1))) else (some (-1))) else (none)) else (none)))))
def spec_l10End.f : Nat → ByteArray → Int → Option (Int)
 | 0, _, _ => none
 | k + 1, a0, a1 => if a1 ≥ (a0.size : Int) then (some (-1)) else (if 0 ≤ a1 then (if a1 < (a0.size : Int) then (if (bt a0 a1) = 97 then (spec_l10End.j0 k a0 a1 (bt a0 a1) ((bt a0 a1) == 97)) else (if (bt a0 a1) = 98 then (spec_l10End.j0 k a0 a1 (bt a0 a1) ((bt a0 a1) == 98)) else (if (bt a0 a1) = 99 then (spec_l10End.j0 k a0 a1 (bt a0 a1) ((bt a0 a1) == 99)) else (if (bt a0 a1) = 48 then (spec_l10End.j0 k a0 a1 (bt a0 a1) ((bt a0 a1) == 48)) else (spec_l10End.j0 k a0 a1 (bt a0 a1) ((bt a0 a1) == 49)))))) else (none)) else (none))
end
set_option maxHeartbeats 8000000 in
set_option maxRecDepth 100000 in
theorem spec_l10End.calls (k : Nat) : ∀ (a0 : ByteArray) (a1 : Int) (r : Int) (w : World) (h : spec_l10End.f k a0 a1 = some r),
  Calls Try.prog 10 #[.string a0, .int .i64 a1] w fun e w' => e = .returned (.int .i64 r) ∧ Drawn0 w w' := by
 induction k using Nat.strongRecOn with
 |_ k ih=>
 intro a0 a1 r w h
 cases k with
 |zero=>exact absurd h (by simp [spec_l10End.f])
 |succ k=>
 simp only [spec_l10End.f] at h;have H:(if a1≥(a0.size:Int) then(some (-1)) else(if 0≤a1 then(if a1<(a0.size:Int) then(if(bt a0 a1)=97 then(spec_l10End.j0 k a0 a1 (bt a0 a1) ((bt a0 a1)==97)) else(if(bt a0 a1)=98 then(spec_l10End.j0 k a0 a1 (bt a0 a1) ((bt a0 a1)==98)) else(if(bt a0 a1)=99 then(spec_l10End.j0 k a0 a1 (bt a0 a1) ((bt a0 a1)==99)) else(if(bt a0 a1)=48 then(spec_l10End.j0 k a0 a1 (bt a0 a1) ((bt a0 a1)==48)) else(spec_l10End.j0 k a0 a1 (bt a0 a1) ((bt a0 a1)==49)))))) else(none)) else(none)))=some r:=h;clear h
 by_cases c3:a1≥(a0.size:Int)
 ·rw [if_pos c3] at H;have g0:decide ((a0.size:Int)≤a1)=true:=decide_eq_true c3;clear c3;obtain rfl:=Option.some.inj H
  go_enter Try.func10,Try.ntmps10
  go_wp2
  go_ret
  exact⟨zq2,zq1⟩
 ·rw [if_neg c3] at H;have g0:decide ((a0.size:Int)≤a1)=false:=decide_eq_false c3;clear c3
  by_cases c4:0≤a1
  ·rw [if_pos c4] at H;have h5:decide (0≤a1)=true:=decide_eq_true c4;clear c4
   by_cases c5:a1<(a0.size:Int)
   ·rw [if_pos c5] at H;have h6:decide (a1<(a0.size:Int))=true:=decide_eq_true c5;clear c5;have e1:=zqm H;clear H;have p6:0≤(a1:Int):=zqo;have q6:a1<(a0.size:Int):=zqo;have h8:=bt_at a0 a1;replace p6:=eq_true p6;replace q6:=eq_true q6
    go_enter Try.func10,Try.ntmps10
    go_upto_if 14 with (fail)
    go_cut [14] (fun g9 wc=> ∃(kq:Nat) (a7:Bool),g9= .bool a7∧Aside0 (spec_l10End.j0 kq a0 a1 (bt a0 a1) a7=some r)∧Aside0 (kq≤k)∧Drawn0 w wc)
    case first=>
     have H:=e1.out;clear e1
     by_cases c8:(bt a0 a1)=97
     ·rw [if_pos c8] at H;have b4:((bt a0 a1)==97)=true:=beq_iff_eq.mpr c8;have g1:((bt a0 a1) !=97)=false:=bne_eq_false_iff_eq.mpr c8;clear c8;(first|rw [b4]|(simp only [i64_w,i32_w];rw [b4])|skip);have H':=zqm H;clear H
      go_wp2
      go_meet
      case rel=>exact⟨_,(((bt a0 a1)==97)),zq2,H',⟨zq9⟩,zq1⟩
     ·rw [if_neg c8] at H;have b4:((bt a0 a1)==97)=false:=beq_eq_false_iff_ne.mpr c8;have g1:((bt a0 a1) !=97)=true:=bne_iff_ne.mpr c8;(first|rw [b4]|(simp only [i64_w,i32_w];rw [b4])|skip)
      by_cases c9:(bt a0 a1)=98
      ·rw [if_pos c9] at H;have g2:((bt a0 a1)==98)=true:=beq_iff_eq.mpr c9;have g3:((bt a0 a1) !=98)=false:=bne_eq_false_iff_eq.mpr c9;clear c9;have H':=zqm H;clear H
       go_wp2
       go_meet
       case rel=>exact⟨_,(((bt a0 a1)==98)),zq2,H',⟨zq9⟩,zq1⟩
      ·rw [if_neg c9] at H;have g2:((bt a0 a1)==98)=false:=beq_eq_false_iff_ne.mpr c9;have g3:((bt a0 a1) !=98)=true:=bne_iff_ne.mpr c9
       by_cases a8:(bt a0 a1)=99
       ·rw [if_pos a8] at H;have e3:((bt a0 a1)==99)=true:=beq_iff_eq.mpr a8;have e4:((bt a0 a1) !=99)=false:=bne_eq_false_iff_eq.mpr a8;clear a8;have H':=zqm H;clear H
        go_wp2
        go_meet
        case rel=>exact⟨_,(((bt a0 a1)==99)),zq2,H',⟨zq9⟩,zq1⟩
       ·rw [if_neg a8] at H;have e3:((bt a0 a1)==99)=false:=beq_eq_false_iff_ne.mpr a8;have e4:((bt a0 a1) !=99)=true:=bne_iff_ne.mpr a8
        by_cases a9:(bt a0 a1)=48
        ·rw [if_pos a9] at H;have e5:((bt a0 a1)==48)=true:=beq_iff_eq.mpr a9;have e6:((bt a0 a1) !=48)=false:=bne_eq_false_iff_eq.mpr a9;clear a9;have H':=zqm H;clear H
         go_wp2
         go_meet
         case rel=>exact⟨_,(((bt a0 a1)==48)),zq2,H',⟨zq9⟩,zq1⟩
        ·rw [if_neg a9] at H;have e5:((bt a0 a1)==48)=false:=beq_eq_false_iff_ne.mpr a9;have e6:((bt a0 a1) !=48)=true:=bne_iff_ne.mpr a9;have H':=zqm H;clear H
         go_wp2
         go_meet
         case rel=>exact⟨_,(((bt a0 a1)==49)),zq2,H',⟨zq9⟩,zq1⟩
    case rest=>
     clear e1;obtain⟨kq,a7,rfl,HA,a4,⟨mc6,rfl⟩⟩:=hcut
     cases kq with
     |zero=>exact absurd HA.out (by simp [spec_l10End.j0])
     |succ e2=>
      have H:=HA.out;clear HA;simp only [spec_l10End.j0] at H
      by_cases d2:a7=true
      ·subst d2;rw [if_pos rfl] at H;obtain rfl:=Option.some.inj H
       go_wp2
       go_ret
       exact⟨zq2,zq1⟩
      ·replace d2:=Bool.eq_false_iff.mpr d2;subst d2;rw [if_neg (show¬(false=true) by decide)] at H
       by_cases b0:(bt a0 a1)=33
       ·rw [if_pos b0] at H;have e7:((bt a0 a1)==33)=true:=beq_iff_eq.mpr b0;have e8:((bt a0 a1) !=33)=false:=bne_eq_false_iff_eq.mpr b0;clear b0;replace H:=Option.bind_eq_some_iff.mp H;obtain⟨g6,d8,H⟩:=H;(try dsimp only at H);have g7:=zqm d8;clear d8;obtain rfl:=Option.some.inj H
        go_wp2_with (first|((with_reducible refine gate_callee (f:=10) rfl ?_);refine goesL_ (some 27) rfl rfl Try.func10 zqk rfl #[.string a0,.int .i64 (wrap64 (a1+1))] rfl zq0 ?_;(with_reducible refine(ih e2 (by have:=a4.out;omega) a0 (wrap64 (a1+1)) g6 _ g7.out).mono ?_);rintro e w' ⟨rfl,⟨nd,rfl⟩⟩;refine⟨_,rfl,?_⟩))
        go_ret
        exact⟨zq2,zq1⟩
       ·rw [if_neg b0] at H;have e7:((bt a0 a1)==33)=false:=beq_eq_false_iff_ne.mpr b0;have e8:((bt a0 a1) !=33)=true:=bne_iff_ne.mpr b0
        by_cases b1:(bt a0 a1)=40
        ·rw [if_pos b1] at H;have e9:((bt a0 a1)==40)=true:=beq_iff_eq.mpr b1;have f0:((bt a0 a1) !=40)=false:=bne_eq_false_iff_eq.mpr b1;clear b1;replace H:=Option.bind_eq_some_iff.mp H;obtain⟨a2,d9,H⟩:=H;(try dsimp only at H);have g8:=zqm d9;clear d9;have d0:=zqm H;clear H
         go_upto_region 14 with (first|((with_reducible refine gate_callee (f:=10) rfl ?_);refine goesL_ (some 33) rfl rfl Try.func10 zqk rfl #[.string a0,.int .i64 (wrap64 (a1+1))] rfl zq0 ?_;(with_reducible refine(ih e2 (by have:=a4.out;omega) a0 (wrap64 (a1+1)) a2 _ g8.out).mono ?_);rintro e w' ⟨rfl,⟨nd,rfl⟩⟩;refine⟨_,rfl,?_⟩))
         (try simp only [Act.put,List.setIfInBounds_toArray,List.set_cons_zero,List.set_cons_succ])
         go_cut [53] (fun h0 wc=> ∃(kq:Nat) (a6:Bool),h0= .bool a6∧Aside0 (spec_l10End.j1 kq a0 a2 a6=some r)∧Aside0 (kq≤e2)∧Drawn0 w wc)
         case first=>
          have H:=d0.out;clear d0
          by_cases b5:a2<0
          ·rw [if_pos b5] at H;have a5:decide (a2<0)=true:=decide_eq_true b5;clear b5;(first|rw [a5]|(simp only [i64_w,i32_w];rw [a5])|skip);have H':=zqm H;clear H
           go_wp2
           go_meet
           case rel=>exact⟨_,(true),zq2,H',⟨zq7⟩,zq1⟩
          ·rw [if_neg b5] at H;have a5:decide (a2<0)=false:=decide_eq_false b5;clear b5;(first|rw [a5]|(simp only [i64_w,i32_w];rw [a5])|skip)
           by_cases b6:a2≥(a0.size:Int)
           ·rw [if_pos b6] at H;have f1:decide ((a0.size:Int)≤a2)=true:=decide_eq_true b6;clear b6;have H':=zqm H;clear H
            go_wp2
            go_meet
            case rel=>exact⟨_,(true),zq2,H',⟨zq7⟩,zq1⟩
           ·rw [if_neg b6] at H;have f1:decide ((a0.size:Int)≤a2)=false:=decide_eq_false b6;clear b6
            by_cases d3:0≤a2
            ·rw [if_pos d3] at H;have h1:decide (0≤a2)=true:=decide_eq_true d3;clear d3
             by_cases d4:a2<(a0.size:Int)
             ·rw [if_pos d4] at H;have h2:decide (a2<(a0.size:Int))=true:=decide_eq_true d4;clear d4
              by_cases b2:(bt a0 a2)=38
              ·rw [if_pos b2] at H;have f2:((bt a0 a2)==38)=true:=beq_iff_eq.mpr b2;have f3:((bt a0 a2) !=38)=false:=bne_eq_false_iff_eq.mpr b2;clear b2;have H':=zqm H;clear H;have c1:0≤(a2:Int):=zqo;have c6:a2<(a0.size:Int):=zqo;have g4:=bt_at a0 a2;replace c1:=eq_true c1;replace c6:=eq_true c6
               go_wp2
               go_meet
               case rel=>exact⟨_,(false),zq2,H',⟨zq7⟩,zq1⟩
              ·rw [if_neg b2] at H;have f2:((bt a0 a2)==38)=false:=beq_eq_false_iff_ne.mpr b2;have f3:((bt a0 a2) !=38)=true:=bne_iff_ne.mpr b2;have H':=zqm H;clear H;have c1:0≤(a2:Int):=zqo;have c6:a2<(a0.size:Int):=zqo;have g4:=bt_at a0 a2;replace c1:=eq_true c1;replace c6:=eq_true c6;have f8:0≤(a2:Int):=zqo;have f9:a2<(a0.size:Int):=zqo;have h7:=bt_at a0 a2;replace f8:=eq_true f8;replace f9:=eq_true f9
               go_wp2
               go_meet
               case rel=>exact⟨_,(((bt a0 a2) !=124)),zq2,H',⟨zq7⟩,zq1⟩
             ·rw [if_neg d4] at H;exact absurd H (by simp)
            ·rw [if_neg d3] at H;exact absurd H (by simp)
         case rest=>
          clear d0;obtain⟨kq,a6,rfl,HA,b9,⟨mc16,rfl⟩⟩:=hcut
          cases kq with
          |zero=>exact absurd HA.out (by simp [spec_l10End.j1])
          |succ c0=>
           have H:=HA.out;clear HA;simp only [spec_l10End.j1] at H
           by_cases d5:a6=true
           ·subst d5;rw [if_pos rfl] at H;obtain rfl:=Option.some.inj H
            go_wp2
            go_ret
            exact⟨zq2,zq1⟩
           ·replace d5:=Bool.eq_false_iff.mpr d5;subst d5;rw [if_neg (show¬(false=true) by decide)] at H;replace H:=Option.bind_eq_some_iff.mp H;obtain⟨a3,e0,H⟩:=H;(try dsimp only at H);have d1:=zqm e0;clear e0
            by_cases b7:a3<0
            ·rw [if_pos b7] at H;have f4:decide (a3<0)=true:=decide_eq_true b7;clear b7;obtain rfl:=Option.some.inj H
             go_wp2_with (first|((with_reducible refine gate_callee (f:=10) rfl ?_);refine goesL_ (some 57) rfl rfl Try.func10 zqk rfl #[.string a0,.int .i64 (wrap64 (a2+1))] rfl zq0 ?_;(with_reducible refine(ih c0 zq11 a0 (wrap64 (a2+1)) a3 _ d1.out).mono ?_);rintro e w' ⟨rfl,⟨nd,rfl⟩⟩;refine⟨_,rfl,?_⟩))
             go_ret
             exact⟨zq2,zq1⟩
            ·rw [if_neg b7] at H;have f4:decide (a3<0)=false:=decide_eq_false b7;clear b7
             by_cases b8:a3≥(a0.size:Int)
             ·rw [if_pos b8] at H;have f5:decide ((a0.size:Int)≤a3)=true:=decide_eq_true b8;clear b8;obtain rfl:=Option.some.inj H
              go_wp2_with (first|((with_reducible refine gate_callee (f:=10) rfl ?_);refine goesL_ (some 57) rfl rfl Try.func10 zqk rfl #[.string a0,.int .i64 (wrap64 (a2+1))] rfl zq0 ?_;(with_reducible refine(ih c0 zq11 a0 (wrap64 (a2+1)) a3 _ d1.out).mono ?_);rintro e w' ⟨rfl,⟨nd,rfl⟩⟩;refine⟨_,rfl,?_⟩))
              go_ret
              exact⟨zq2,zq1⟩
             ·rw [if_neg b8] at H;have f5:decide ((a0.size:Int)≤a3)=false:=decide_eq_false b8;clear b8
              by_cases d6:0≤a3
              ·rw [if_pos d6] at H;have h3:decide (0≤a3)=true:=decide_eq_true d6;clear d6
               by_cases d7:a3<(a0.size:Int)
               ·rw [if_pos d7] at H;have h4:decide (a3<(a0.size:Int))=true:=decide_eq_true d7;clear d7
                by_cases b3:(bt a0 a3)=41
                ·rw [if_pos b3] at H;have f6:((bt a0 a3)==41)=true:=beq_iff_eq.mpr b3;have f7:((bt a0 a3) !=41)=false:=bne_eq_false_iff_eq.mpr b3;clear b3;obtain rfl:=Option.some.inj H
                 go_wp2_with (first|((with_reducible refine gate_callee (f:=10) rfl ?_);refine goesL_ (some 57) rfl rfl Try.func10 zqk rfl #[.string a0,.int .i64 (wrap64 (a2+1))] rfl zq0 ?_;(with_reducible refine(ih c0 zq11 a0 (wrap64 (a2+1)) a3 _ d1.out).mono ?_);rintro e w' ⟨rfl,⟨nd,rfl⟩⟩;refine⟨_,rfl,?_⟩;have c2:0≤(a3:Int):=zqo;have c7:a3<(a0.size:Int):=zqo;have g5:=bt_at a0 a3;replace c2:=eq_true c2;replace c7:=eq_true c7))
                 go_ret
                 exact⟨zq2,zq1⟩
                ·rw [if_neg b3] at H;have f6:((bt a0 a3)==41)=false:=beq_eq_false_iff_ne.mpr b3;have f7:((bt a0 a3) !=41)=true:=bne_iff_ne.mpr b3;obtain rfl:=Option.some.inj H
                 go_wp2_with (first|((with_reducible refine gate_callee (f:=10) rfl ?_);refine goesL_ (some 57) rfl rfl Try.func10 zqk rfl #[.string a0,.int .i64 (wrap64 (a2+1))] rfl zq0 ?_;(with_reducible refine(ih c0 zq11 a0 (wrap64 (a2+1)) a3 _ d1.out).mono ?_);rintro e w' ⟨rfl,⟨nd,rfl⟩⟩;refine⟨_,rfl,?_⟩;have c2:0≤(a3:Int):=zqo;have c7:a3<(a0.size:Int):=zqo;have g5:=bt_at a0 a3;replace c2:=eq_true c2;replace c7:=eq_true c7))
                 go_ret
                 exact⟨zq2,zq1⟩
               ·rw [if_neg d7] at H;exact absurd H (by simp)
              ·rw [if_neg d6] at H;exact absurd H (by simp)
        ·rw [if_neg b1] at H;have e9:((bt a0 a1)==40)=false:=beq_eq_false_iff_ne.mpr b1;have f0:((bt a0 a1) !=40)=true:=bne_iff_ne.mpr b1;obtain rfl:=Option.some.inj H
         go_wp2
         go_ret
         exact⟨zq2,zq1⟩
   ·rw [if_neg c5] at H;exact absurd H (by simp)
  ·rw [if_neg c4] at H;exact absurd H (by simp)
end
section
attribute [local go_sem] max2_int min2_int max_two min_two max_three min_three max_four min_four
def spec_FormulaOk.f (k : Nat) (a0 : ByteArray) : Option (Bool) := if (a0.size : Int) ≤ 60 then (if (a0.size : Int) > 0 then ((spec_l10End.f k a0 0).bind fun t104 => (some (t104 == (a0.size : Int)))) else (some false)) else (some false)
set_option maxHeartbeats 8000000 in
set_option maxRecDepth 100000 in
theorem spec_FormulaOk.calls (k : Nat) (a0 : ByteArray) (r : Bool) (w : World) (h : spec_FormulaOk.f k a0 = some r) :
  Calls Try.prog 6 #[.string a0] w fun e w' => e = .returned (.bool r) ∧ Drawn0 w w' := by
 have H:(if(a0.size:Int)≤60 then(if(a0.size:Int)>0 then((spec_l10End.f k a0 0).bind fun t104=>(some (t104==(a0.size:Int)))) else(some false)) else(some false))=some r:=h;clear h
 by_cases c2:(a0.size:Int)≤60
 ·rw [if_pos c2] at H;have c2b0:decide ((a0.size:Int)≤60)=true:=decide_eq_true c2;have c2b1:decide (a0.size≤60)=true:=decide_eq_true (by omega);clear c2
  by_cases c3:(a0.size:Int)>0
  ·rw [if_pos c3] at H;have c3b0:decide (0<(a0.size:Int))=true:=decide_eq_true c3;have c3b1:decide (0<a0.size)=true:=decide_eq_true (by omega);clear c3;replace H:=Option.bind_eq_some_iff.mp H;obtain⟨t104,A40,H⟩:=H;(try dsimp only at H);have A4:=zqm A40;clear A40;obtain rfl:=Option.some.inj H
   go_enter Try.func6,Try.ntmps6
   go_wp2_with (first|(go_at_call 10;(with_reducible refine(spec_l10End.calls k a0 0 t104 _ A4.out).mono ?_);rintro e w' ⟨rfl,⟨nd,rfl⟩⟩))
   go_ret
   exact⟨zq2,zq1⟩
  ·rw [if_neg c3] at H;have c3b0:decide (0<(a0.size:Int))=false:=decide_eq_false c3;have c3b1:decide (0<a0.size)=false:=decide_eq_false (by omega);clear c3;obtain rfl:=Option.some.inj H
   go_enter Try.func6,Try.ntmps6
   go_wp2
   go_ret
   exact⟨zq2,zq1⟩
 ·rw [if_neg c2] at H;have c2b0:decide ((a0.size:Int)≤60)=false:=decide_eq_false c2;have c2b1:decide (a0.size≤60)=false:=decide_eq_false (by omega);clear c2;obtain rfl:=Option.some.inj H
  go_enter Try.func6,Try.ntmps6
  go_wp2
  go_ret
  exact⟨zq2,zq1⟩
end
section
attribute [local go_sem] max2_int min2_int max_two min_two max_three min_three max_four min_four
def spec_DualOf.l0 : Nat → ByteArray → ByteArray → Int → Option (ByteArray)
 | 0, _, _, _ => none
 | k + 1, x0, x3, x4 => if x4 < (x0.size : Int) then (if 0 ≤ x4 then (if (bt x0 x4) = 38 then (if x3.size + 1 ≤ 9223372036854775807 then (spec_DualOf.l0 k x0 (x3 ++ (⟨#[124]⟩ : ByteArray)) (wrap64 (x4 + 1))) else (none)) else (if (bt x0 x4) = 124 then (if x3.size + 1 ≤ 9223372036854775807 then (spec_DualOf.l0 k x0 (x3 ++ (⟨#[38]⟩ : ByteArray)) (wrap64 (x4 + 1))) else (none)) else (if (bt x0 x4) = 48 then (if x3.size + 1 ≤ 9223372036854775807 then (spec_DualOf.l0 k x0 (x3 ++ (⟨#[49]⟩ : ByteArray)) (wrap64 (x4 + 1))) else (none)) else (if (bt x0 x4) = 49 then (if x3.size + 1 ≤ 9223372036854775807 then (spec_DualOf.l0 k x0 (x3 ++ (⟨#[48]⟩ : ByteArray)) (wrap64 (x4 + 1))) else (none)) else (if x4 ≤ (wrap64 (x4 + 1)) then (if (wrap64 (x4 + 1)) ≤ (x0.size : Int) then (if x3.size + (x0.extract (x4 : Int).toNat ((wrap64 (x4 + 1)) : Int).toNat).size ≤ 9223372036854775807 then (spec_DualOf.l0 k x0 (x3 ++ (x0.extract (x4 : Int).toNat ((wrap64 (x4 + 1)) : Int).toNat)) (wrap64 (x4 + 1))) else (none)) else (none)) else (none)))))) else (none)) else (some x3)
def spec_DualOf.f (k : Nat) (a0 : ByteArray) : Option (ByteArray) := (spec_FormulaOk.f k a0).bind fun t105 => (if t105 = true then (spec_DualOf.l0 k a0 (⟨#[]⟩ : ByteArray) 0) else (some (⟨#[]⟩ : ByteArray)))
set_option maxHeartbeats 8000000 in
set_option maxRecDepth 100000 in
theorem spec_DualOf.calls (k : Nat) (a0 : ByteArray) (r : ByteArray) (w : World) (h : spec_DualOf.f k a0 = some r) :
  Calls Try.prog 4 #[.string a0] w fun e w' => e = .returned (.string r) ∧ Drawn0 w w' := by
 have H:((spec_FormulaOk.f k a0).bind fun b0=>(if b0=true then(spec_DualOf.l0 k a0 (⟨#[]⟩:ByteArray) 0) else(some (⟨#[]⟩:ByteArray))))=some r:=h;clear h;replace H:=Option.bind_eq_some_iff.mp H;obtain⟨b0,b8,H⟩:=H;(try dsimp only at H);have A2:=zqm b8;clear b8
 by_cases c3:b0=true
 ·subst c3;rw [if_pos rfl] at H;have H':=zqm H;clear H
  go_enter Try.func4,Try.ntmps4
  go_wp2_with (first|((with_reducible refine gate_callee (f:=6) rfl ?_);refine goesL_ (some 6) rfl rfl Try.func6 zqk rfl #[.string a0] rfl zq0 ?_;(with_reducible refine(spec_FormulaOk.calls k a0 true _ A2.out).mono ?_);rintro e w' ⟨rfl,⟨nd,rfl⟩⟩;refine⟨_,rfl,?_⟩))
  go_loopg [3,4] k (fun kq v3 v4 w'=> ∃(a2:ByteArray) (a1:Int),v3= .string a2∧v4= .int .i64 a1∧Aside0 (spec_DualOf.l0 kq a0 a2 a1=some r)∧Aside0 (kq≤k)∧Drawn0 w w')
  case atStart=>exact⟨((⟨#[]⟩:ByteArray)),(0),zq2,zq2,H',⟨Nat.le_refl _⟩,zq1⟩
  case round=>
   clear H';(try clear p2);(try clear c3);obtain⟨a2,a1,rfl,rfl,HA,a3,⟨m1,rfl⟩⟩:=hrel
   cases gk with
   |zero=>exact absurd HA.out (by simp [spec_DualOf.l0])
   |succ k1=>
    have H:=HA.out;clear HA;simp only [spec_DualOf.l0] at H
    by_cases c4:a1<(a0.size:Int)
    ·rw [if_pos c4] at H;have b9:decide (a1<(a0.size:Int))=true:=decide_eq_true c4;clear c4
     by_cases c5:0≤a1
     ·rw [if_pos c5] at H;have e7:decide (0≤a1)=true:=decide_eq_true c5;clear c5
      by_cases c7:(bt a0 a1)=38
      ·rw [if_pos c7] at H;have c0:((bt a0 a1)==38)=true:=beq_iff_eq.mpr c7;have c1:((bt a0 a1) !=38)=false:=bne_eq_false_iff_eq.mpr c7;clear c7
       by_cases c8:a2.size+1≤9223372036854775807
       ·rw [if_pos c8] at H;have e8:=eq_true c8;have e9:decide (a2.size+1≤9223372036854775807)=true:=decide_eq_true c8;(try have f0:(9223372036854775807<a2.size+1)=False:=eq_false (Nat.not_lt.2 c8));have H':=zqm H;clear H;have p6:0≤(a1:Int):=zqo;have q6:a1<(a0.size:Int):=zqo;have b3:=bt_at a0 a1;replace p6:=eq_true p6;replace q6:=eq_true q6
        go_wp2
        go_roundg k1
        (case measure=>have:=a3.out;omega);case rel=>exact⟨(a2 ++ (⟨#[124]⟩:ByteArray)),(wrap64 (a1+1)),zq2,zq2,H',⟨by have:=a3.out;omega⟩,zq1⟩
       ·rw [if_neg c8] at H;exact absurd H (by simp)
      ·rw [if_neg c7] at H;have c0:((bt a0 a1)==38)=false:=beq_eq_false_iff_ne.mpr c7;have c1:((bt a0 a1) !=38)=true:=bne_iff_ne.mpr c7
       by_cases c9:(bt a0 a1)=124
       ·rw [if_pos c9] at H;have c2:((bt a0 a1)==124)=true:=beq_iff_eq.mpr c9;have c6:((bt a0 a1) !=124)=false:=bne_eq_false_iff_eq.mpr c9;clear c9
        by_cases a6:a2.size+1≤9223372036854775807
        ·rw [if_pos a6] at H;have d0:=eq_true a6;have d1:decide (a2.size+1≤9223372036854775807)=true:=decide_eq_true a6;(try have d2:(9223372036854775807<a2.size+1)=False:=eq_false (Nat.not_lt.2 a6));have H':=zqm H;clear H;have p6:0≤(a1:Int):=zqo;have q6:a1<(a0.size:Int):=zqo;have b3:=bt_at a0 a1;replace p6:=eq_true p6;replace q6:=eq_true q6
         go_wp2
         go_roundg k1
         (case measure=>have:=a3.out;omega);case rel=>exact⟨(a2 ++ (⟨#[38]⟩:ByteArray)),(wrap64 (a1+1)),zq2,zq2,H',⟨by have:=a3.out;omega⟩,zq1⟩
        ·rw [if_neg a6] at H;exact absurd H (by simp)
       ·rw [if_neg c9] at H;have c2:((bt a0 a1)==124)=false:=beq_eq_false_iff_ne.mpr c9;have c6:((bt a0 a1) !=124)=true:=bne_iff_ne.mpr c9
        by_cases a4:(bt a0 a1)=48
        ·rw [if_pos a4] at H;have b4:((bt a0 a1)==48)=true:=beq_iff_eq.mpr a4;have b5:((bt a0 a1) !=48)=false:=bne_eq_false_iff_eq.mpr a4;clear a4
         by_cases a7:a2.size+1≤9223372036854775807
         ·rw [if_pos a7] at H;have d3:=eq_true a7;have d4:decide (a2.size+1≤9223372036854775807)=true:=decide_eq_true a7;(try have d5:(9223372036854775807<a2.size+1)=False:=eq_false (Nat.not_lt.2 a7));have H':=zqm H;clear H;have p6:0≤(a1:Int):=zqo;have q6:a1<(a0.size:Int):=zqo;have b3:=bt_at a0 a1;replace p6:=eq_true p6;replace q6:=eq_true q6
          go_wp2
          go_roundg k1
          (case measure=>have:=a3.out;omega);case rel=>exact⟨(a2 ++ (⟨#[49]⟩:ByteArray)),(wrap64 (a1+1)),zq2,zq2,H',⟨by have:=a3.out;omega⟩,zq1⟩
         ·rw [if_neg a7] at H;exact absurd H (by simp)
        ·rw [if_neg a4] at H;have b4:((bt a0 a1)==48)=false:=beq_eq_false_iff_ne.mpr a4;have b5:((bt a0 a1) !=48)=true:=bne_iff_ne.mpr a4
         by_cases a5:(bt a0 a1)=49
         ·rw [if_pos a5] at H;have b6:((bt a0 a1)==49)=true:=beq_iff_eq.mpr a5;have b7:((bt a0 a1) !=49)=false:=bne_eq_false_iff_eq.mpr a5;clear a5
          by_cases a8:a2.size+1≤9223372036854775807
          ·rw [if_pos a8] at H;have d6:=eq_true a8;have d7:decide (a2.size+1≤9223372036854775807)=true:=decide_eq_true a8;(try have d8:(9223372036854775807<a2.size+1)=False:=eq_false (Nat.not_lt.2 a8));have H':=zqm H;clear H;have p6:0≤(a1:Int):=zqo;have q6:a1<(a0.size:Int):=zqo;have b3:=bt_at a0 a1;replace p6:=eq_true p6;replace q6:=eq_true q6
           go_wp2
           go_roundg k1
           (case measure=>have:=a3.out;omega);case rel=>exact⟨(a2 ++ (⟨#[48]⟩:ByteArray)),(wrap64 (a1+1)),zq2,zq2,H',⟨by have:=a3.out;omega⟩,zq1⟩
          ·rw [if_neg a8] at H;exact absurd H (by simp)
         ·rw [if_neg a5] at H;have b6:((bt a0 a1)==49)=false:=beq_eq_false_iff_ne.mpr a5;have b7:((bt a0 a1) !=49)=true:=bne_iff_ne.mpr a5;have d9:=eq_true (zqo:0≤a1)
          by_cases b1:a1≤(wrap64 (a1+1))
          ·rw [if_pos b1] at H;have e0:=eq_true b1;have e1:decide (a1≤(wrap64 (a1+1)))=true:=decide_eq_true b1
           by_cases b2:(wrap64 (a1+1))≤(a0.size:Int)
           ·rw [if_pos b2] at H;have e2:=eq_true b2;have e3:decide ((wrap64 (a1+1))≤(a0.size:Int))=true:=decide_eq_true b2
            by_cases a9:a2.size+(a0.extract (a1:Int).toNat ((wrap64 (a1+1)):Int).toNat).size≤9223372036854775807
            ·rw [if_pos a9] at H;have e4:=eq_true a9;have e5:decide (a2.size+(a0.extract (a1:Int).toNat ((wrap64 (a1+1)):Int).toNat).size≤9223372036854775807)=true:=decide_eq_true a9;(try have e6:(9223372036854775807<a2.size+(a0.extract (a1:Int).toNat ((wrap64 (a1+1)):Int).toNat).size)=False:=eq_false (Nat.not_lt.2 a9));have H':=zqm H;clear H;have p6:0≤(a1:Int):=zqo;have q6:a1<(a0.size:Int):=zqo;have b3:=bt_at a0 a1;replace p6:=eq_true p6;replace q6:=eq_true q6
             go_wp2
             go_roundg k1
             (case measure=>have:=a3.out;omega);case rel=>exact⟨(a2 ++ (a0.extract (a1:Int).toNat ((wrap64 (a1+1)):Int).toNat)),(wrap64 (a1+1)),zq2,zq2,H',⟨by have:=a3.out;omega⟩,zq1⟩
            ·rw [if_neg a9] at H;exact absurd H (by simp)
           ·rw [if_neg b2] at H;exact absurd H (by simp)
          ·rw [if_neg b1] at H;exact absurd H (by simp)
     ·rw [if_neg c5] at H;exact absurd H (by simp)
    ·rw [if_neg c4] at H;have b9:decide (a1<(a0.size:Int))=false:=decide_eq_false c4;clear c4;obtain rfl:=Option.some.inj H
     go_wp2
     go_ret
     exact⟨zq2,zq1⟩
 ·replace c3:=Bool.eq_false_iff.mpr c3;subst c3;rw [if_neg (show¬(false=true) by decide)] at H;obtain rfl:=Option.some.inj H
  go_enter Try.func4,Try.ntmps4
  go_wp2_with (first|((with_reducible refine gate_callee (f:=6) rfl ?_);refine goesL_ (some 6) rfl rfl Try.func6 zqk rfl #[.string a0] rfl zq0 ?_;(with_reducible refine(spec_FormulaOk.calls k a0 false _ A2.out).mono ?_);rintro e w' ⟨rfl,⟨nd,rfl⟩⟩;refine⟨_,rfl,?_⟩))
  go_ret
  exact⟨zq2,zq1⟩
end
theorem disable (w : World) : (callFunc 30 #[]).run Try.prog w = .ok (.value (.tuple #[])) w := run_call_mark0 Try.func30 (by kernel_rfl) (by kernel_rfl) (by kernel_rfl) .disable (by kernel_rfl) w
theorem enable (w : World) : (callFunc 32 #[]).run Try.prog w = .ok (.value (.tuple #[])) w := run_call_mark0 Try.func32 (by kernel_rfl) (by kernel_rfl) (by kernel_rfl) .enable (by kernel_rfl) w
theorem acquire (a : Addr) (w : World) : (callFunc 33 #[.pointer (some a)]).run Try.prog w = .ok (.value (.tuple #[])) w := run_call_marked Try.func33 (by kernel_rfl) (by kernel_rfl) (by kernel_rfl) .acquire (by kernel_rfl) a w
theorem releaseMerge (a : Addr) (w : World) : (callFunc 35 #[.pointer (some a)]).run Try.prog w = .ok (.value (.tuple #[])) w := run_call_marked Try.func35 (by kernel_rfl) (by kernel_rfl) (by kernel_rfl) .releaseMerge (by kernel_rfl) a w
set_option maxRecDepth 100000 in
set_option maxHeartbeats 1600000 in
theorem store_deferred (a : Addr) (x : Value) (u : FrameMode) (w : World) (hc : w.cell? a = some x) (hz : w.frozen? a = false) :
 CallsD Try.prog 21 #[.pointer (some a),.bool true] u w fun e u' w'=>u'=u∧(e= .returned (.tuple #[])∧w'=w.drew.setCell a (.int .u32 1)):=by
 have hc':w.drew.cell? a=some x:=by go_simp
 have hz':w.drew.frozen? a=false:=by go_simp
 have hst:=run_call_store (P:=Try.prog) Try.func26 zqk zqk zqk zqk (k:= .u32) (y:=1) hc' hz'
 go_enter_d Try.func21,Try.ntmps21
 go_wp2
 go_region_calls
 all_goals (go_end0;exact⟨rfl,rfl⟩)
set_option maxRecDepth 100000 in
set_option maxHeartbeats 1600000 in
theorem unlock_deferred (a : Addr) (u : FrameMode) (w : World) (hc : w.cell? a = some (.int .i32 1)) (hz : w.frozen? a = false) :
 CallsD Try.prog 20 #[.pointer (some a)] u w fun e u' w'=>u'=u∧(e= .returned (.tuple #[])∧w'=w.setCell a (.int .i32 0)):=by
 have hd:=disable
 have he:=enable
 have hr:=releaseMerge
 have hadd:=run_call_add (P:=Try.prog) Try.func36 zqk zqk zqk .i32 zqk (y:= -1) (s:=0) hc hz (by simp [go_sem];rfl)
 have hcv:=run_convert_to_unsafe (P:=Try.prog) (src:=85) (dst:=89) Try.underlying85 Try.underlying89 zqk hc
 go_enter_d Try.func20,Try.ntmps20
 go_wp2
 go_end0
 go_wp2
 go_end0
 exact⟨rfl,rfl⟩
set_option maxRecDepth 100000 in
set_option maxHeartbeats 1600000 in
theorem lock_free (a : Addr) (w : World) (hc : w.cell? a = some (.int .i32 0)) (hz : w.frozen? a = false) :
 Calls Try.prog 19 #[.pointer (some a)] w fun e w'=>e= .returned (.tuple #[])∧w'=w.setCell a (.int .i32 1):=by
 have hd:=disable
 have he:=enable
 have ha:=acquire
 have hcas:=run_call_cas_hit (P:=Try.prog) Try.func31 zqk zqk zqk .i32 zqk (y:=1) hc hz
 have hc':(w.setCell a (.int .i32 1)).cell? a=some (.int .i32 1):=World.cell?_setCell_same w a _ hc
 have hcv:=run_convert_to_unsafe (P:=Try.prog) (src:=85) (dst:=89) Try.underlying85 Try.underlying89 zqk hc'
 go_enter Try.func19,Try.ntmps19
 go_wp2
 first|go_end0|(simp only [Exit.inBlock,Exit.then];refine bodyPost_ret (results_none rfl _ _ _) rfl ?_)|refine bodyPost_ret (results_none rfl _ _ _) rfl ?_
 go_wp2
 go_end0
 exact⟨rfl,rfl⟩
def dualL : List ByteArray := [⟨#[38]⟩, ⟨#[124]⟩, ⟨#[124]⟩, ⟨#[38]⟩, ⟨#[48]⟩, ⟨#[49]⟩, ⟨#[49]⟩, ⟨#[48]⟩]
def dT (m j : Nat) : Int := if j = 49 ∧ 1 ≤ m then 48 else if j = 48 ∧ 2 ≤ m then 49 else if j = 124 ∧ 3 ≤ m then 38 else if j = 38 ∧ 4 ≤ m then 124 else (j : Int)
theorem add0 (g m : Nat) : (⟨g, 0, none⟩ : Addr).add m = ⟨g, m, none⟩ := by by_cases h : m = 0 <;> simp [Addr.add, h]
theorem dl_cell {w : World} {h : Nat} (H : Kd.C Kd.string w (some ⟨h, 0, none⟩) 8 dualL) (j : Nat) (hj : j < 8) : w.cell? ⟨h, j, none⟩ = some (.string (dualL.getD j ByteArray.empty)) := by
 obtain⟨ad,e,hx⟩:=H.2.2 (by omega)
 cases e
 have hl:j<dualL.length:=hj
 obtain⟨cs,hcs,hk,hcell⟩:=hx j _ (List.getElem?_eq_getElem hl)
 have hk':cs= [.string dualL[j]]:=by first|exact hk|simpa [Kd.string] using hk
 subst hk'
 have h0:=hcell 0 _ rfl
 rw [add0,show j*(Kd.string).sz+0=j from Nat.mul_one j] at h0
 rw [List.getD_eq_getElem?_getD,List.getElem?_eq_getElem hl]
 exact h0
theorem dT_zero (j : Nat) : dT 0 j = j := by unfold dT; rw [if_neg (by omega), if_neg (by omega), if_neg (by omega), if_neg (by omega)]
theorem dT_step {cur : Array Value} {m o n : Nat} (hm : (m = 0 ∧ o = 49 ∧ n = 48) ∨ (m = 1 ∧ o = 48 ∧ n = 49) ∨ (m = 2 ∧ o = 124 ∧ n = 38) ∨ (m = 3 ∧ o = 38 ∧ n = 124)) (hs : cur.size = 256) (h : ∀ j, j < 256 → cur[j]? = some (.int .u8 (dT m j))) :
 (cur.setIfInBounds o (.int .u8 n)).size=256∧ ∀j,j<256→(cur.setIfInBounds o (.int .u8 n))[j]? =some (.int .u8 (dT (m+1) j)):=by
 refine⟨by simp [hs],fun j hj=>?_⟩
 rw [Array.getElem?_setIfInBounds]
 by_cases e:o=j
 ·rw [if_pos e,if_pos (by omega)]
  refine congrArg (fun z=>some (Value.int .u8 z)) ?_
  unfold dT
  rcases hm with ⟨rfl,rfl,rfl⟩|⟨rfl,rfl,rfl⟩|⟨rfl,rfl,rfl⟩|⟨rfl,rfl,rfl⟩ <;> subst e <;> rfl
 ·rw [if_neg e,h j hj]
  refine congrArg (fun z=>some (Value.int .u8 z)) ?_
  unfold dT
  rcases hm with ⟨rfl,rfl,rfl⟩|⟨rfl,rfl,rfl⟩|⟨rfl,rfl,rfl⟩|⟨rfl,rfl,rfl⟩ <;> (repeat' split) <;> omega
theorem tab_step {cur : Array Value} {i : Nat} {x : Int} (hx : x = i) (hi : i < 256) (hs : cur.size = 256) (h1 : ∀ j, j < i → cur[j]? = some (.int .u8 j)) (h2 : ∀ j, i ≤ j → j < 256 → ∃ y, cur[j]? = some (.int .u8 y)) :
 (cur.setIfInBounds i (.int .u8 x)).size=256∧(∀j,j<i+1→(cur.setIfInBounds i (.int .u8 x))[j]? =some (.int .u8 j))∧ ∀j,i+1≤j→j<256→ ∃y,(cur.setIfInBounds i (.int .u8 x))[j]? =some (.int .u8 y):=by
 refine⟨by simp [hs],fun j hj=>?_,fun j h3 h4=>?_⟩
 ·rw [Array.getElem?_setIfInBounds]
  by_cases e:i=j
  ·subst e
   rw [if_pos rfl,if_pos (by omega),hx]
  ·rw [if_neg e]
   exact h1 j (by omega)
 ·rw [Array.getElem?_setIfInBounds,if_neg (by omega)]
  exact h2 j (by omega) h4
set_option maxHeartbeats 8000000 in
set_option maxRecDepth 100000 in
theorem build_calls (g h c : Nat) (w : World) (d s m r : Value) (hb : w.heap[g]? = some (.cells #[d, s, m, r, .slice (some ⟨h, 0, none⟩) 8 c] 45 (0, 0))) (H : Kd.C Kd.string w (some ⟨h, 0, none⟩) 8 dualL) :
 Calls Try.prog 17 #[.pointer (some ⟨g,0,none⟩)] w fun e w'=> ∃b cur,e= .returned (.iface 65 (.pointer (some ⟨b,0,none⟩)))∧w.heap.size≤b∧w'.heap[b]? =some (.cells cur 64 (0,0))∧cur.size=256∧(∀j,j<256→cur[j]? =some (.int .u8 (dT 4 j)))∧Below w.heap.size w w':=by
 have HX:=zqm hb
 have HC:=zqm H
 have hx4:w.cell? ⟨g,4,none⟩=some (.slice (some ⟨h,0,none⟩) 8 c):=(blk_cell hb 4).trans rfl
 clear hb H
 go_enter Try.func17,Try.ntmps17
 go_wp2_with fail
 go_loopg [4,5] 5 (fun kq v4 v5 W=> ∃(i:Nat) (x:Int),v4= .bool true∧v5= .int .i64 x∧Aside0 (x=2*(i:Int))∧Aside0 (4<i+kq)∧Aside0 (i≤4)∧Aside0 (Below w.heap.size w W))
 case atStart=>exact⟨0,0,rfl,rfl,⟨rfl⟩,⟨by omega⟩,⟨by omega⟩,⟨zq6⟩⟩
 case round=>
  clear hx4
  obtain⟨i,x,rfl,rfl,HXI,HF,HI,HB⟩:=hrel
  cases gk with
  |zero=>exact absurd HF.out (by have:=HI.out;omega)
  |succ kn=>
  have hi:i=0∨i=1∨i=2∨i=3∨i=4:=by have:=HI.out;omega
  rcases hi with rfl|rfl|rfl|rfl|rfl
  ·obtain rfl:x=0:=by have:=HXI.out;omega
   have c0:wr.cell? ⟨h,0,none⟩=some (.string ⟨#[38]⟩):=dl_cell (Kd.C_below HC.out HB.out) 0 (by omega)
   have c1:wr.cell? ⟨h,1,none⟩=some (.string ⟨#[124]⟩):=dl_cell (Kd.C_below HC.out HB.out) 1 (by omega)
   have z: ∀b:UInt8,(⟨#[b]⟩:ByteArray).size=1:=fun _=>rfl
   go_wp2_with fail
   go_roundg kn
   case measure=>omega
   case rel=>exact⟨1,2,rfl,rfl,⟨rfl⟩,⟨by have:=HF.out;omega⟩,⟨by omega⟩,⟨zq3⟩⟩
  ·obtain rfl:x=2:=by have:=HXI.out;omega
   have c0:wr.cell? ⟨h,2,none⟩=some (.string ⟨#[124]⟩):=dl_cell (Kd.C_below HC.out HB.out) 2 (by omega)
   have c1:wr.cell? ⟨h,3,none⟩=some (.string ⟨#[38]⟩):=dl_cell (Kd.C_below HC.out HB.out) 3 (by omega)
   have z: ∀b:UInt8,(⟨#[b]⟩:ByteArray).size=1:=fun _=>rfl
   go_wp2_with fail
   go_roundg kn
   case measure=>omega
   case rel=>exact⟨2,4,rfl,rfl,⟨rfl⟩,⟨by have:=HF.out;omega⟩,⟨by omega⟩,⟨zq3⟩⟩
  ·obtain rfl:x=4:=by have:=HXI.out;omega
   have c0:wr.cell? ⟨h,4,none⟩=some (.string ⟨#[48]⟩):=dl_cell (Kd.C_below HC.out HB.out) 4 (by omega)
   have c1:wr.cell? ⟨h,5,none⟩=some (.string ⟨#[49]⟩):=dl_cell (Kd.C_below HC.out HB.out) 5 (by omega)
   have z: ∀b:UInt8,(⟨#[b]⟩:ByteArray).size=1:=fun _=>rfl
   go_wp2_with fail
   go_roundg kn
   case measure=>omega
   case rel=>exact⟨3,6,rfl,rfl,⟨rfl⟩,⟨by have:=HF.out;omega⟩,⟨by omega⟩,⟨zq3⟩⟩
  ·obtain rfl:x=6:=by have:=HXI.out;omega
   have c0:wr.cell? ⟨h,6,none⟩=some (.string ⟨#[49]⟩):=dl_cell (Kd.C_below HC.out HB.out) 6 (by omega)
   have c1:wr.cell? ⟨h,7,none⟩=some (.string ⟨#[48]⟩):=dl_cell (Kd.C_below HC.out HB.out) 7 (by omega)
   have z: ∀b:UInt8,(⟨#[b]⟩:ByteArray).size=1:=fun _=>rfl
   go_wp2_with fail
   go_roundg kn
   case measure=>omega
   case rel=>exact⟨4,8,rfl,rfl,⟨rfl⟩,⟨by have:=HF.out;omega⟩,⟨by omega⟩,⟨zq3⟩⟩
  obtain rfl:x=8:=by have:=HXI.out;omega
  go_wp2_with (first|(refine wpList_build rfl 64 #[] rfl zqk ?_;rw [show (Try.prog.built 64 (#[]:Array (Nat × Value)).toList).getD #[]=Array.replicate 256 (.int .u8 0) from by kernel_rfl])|((with_reducible refine gate_dst (N:=6) rfl ?_);refine box_event ?hg (N:=6) ?hd (cs:=Array.replicate 256 (.int .u8 0)) (t:=64) ?hr ?_;(case hd=>rfl);(case hg=>rfl);(case hr=>first|(go_simp;done)|(go_simp;rfl));intro b hg_ wb hbox hb;have HBX:=zqm hbox;have HGB:=zqm (show w.heap.size≤b from by rw [hg_];exact below_size HB.out);have n0_:=zqm (below_step HB.out hb);clear HB;have HB:=n0_;clear n0_ hbox hb hg_)|((with_reducible refine gate_store (t:=64) (p:=6) rfl ?_);refine wpList_plain rfl fun K hK=>wp_store_row 64 (.tmp 6) (.tmp 60) rfl b (Array.replicate 256 (.int .u8 0)) (by rfl) (by rfl) 64 (Array.replicate 256 (.int .u8 0)) HBX.out zqk rfl zqk ?_;rw [setRow_self _ _ _ _ _ HBX.out];refine hK _ _ ?_))
  go_loopg [61] 257 (fun kq v61 W=> ∃(i:Nat) (x:Int),v61= .int .i64 x∧Aside0 (x=(i:Int))∧Aside0 (256<i+kq)∧Aside0 (i≤256)∧Aside0 (∃cur,W.heap[b]? =some (.cells cur 64 (0,0))∧cur.size=256∧(∀j,j<i→cur[j]? =some (.int .u8 j))∧ ∀j,i≤j→j<256→ ∃y,cur[j]? =some (.int .u8 y))∧Aside0 (Below w.heap.size w W))
  case atStart=>exact⟨0,0,rfl,⟨rfl⟩,⟨by omega⟩,⟨by omega⟩,⟨_,HBX.out,by simp,fun j hj=>absurd hj (by omega),fun j _ hj=>⟨0,by rw [Array.getElem?_replicate,if_pos hj]⟩⟩,⟨HB.out⟩⟩
  case round=>
   clear HBX HB HF HI HXI
   obtain⟨i,x,rfl,HXI,HF,HI,⟨cur,hX,hS,h1,h2⟩,HB⟩:=hrel
   cases gk with
   |zero=>exact absurd HF.out (by have:=HI.out;omega)
   |succ kn=>
   by_cases hlt:x<256
   ·have hlt':decide (x<256)=true:=decide_eq_true hlt
    have p1:(x<256)=True:=eq_true hlt
    obtain⟨y,hy⟩:=h2 i (Nat.le_refl _) (by have:=HXI.out;omega)
    have hn:x.toNat=i:=by have:=HXI.out;omega
    have hw:IntKind.u8.wrap x=x:=by have:=HXI.out;simp [IntKind.wrap,IntKind.bits,IntKind.signed];omega
    have h0:(0≤x)=True:=eq_true (by have:=HXI.out;omega)
    have h0':decide (0≤x)=true:=decide_eq_true (by have:=HXI.out;omega)
    have h0'':(x<0)=False:=eq_false (by have:=HXI.out;omega)
    have HX:=zqm hX
    have HS:=zqm hS
    have H1:=zqm h1
    have H2:=zqm h2
    have HLT:=zqm hlt
    have HY:=zqm hy
    have hc:wr.cell? ⟨b,i,none⟩=some (.int .u8 y):=(blk_cell HX.out i).trans HY.out
    have hf:=blk_frozen HX.out i
    clear hX hS h1 h2 hlt hy
    go_wp2_with fail
    go_roundg kn
    case measure=>omega
    case rel=>exact⟨i+1,x+1,by first|rfl|(refine congrArg (Value.int .i64) ?_;have:=HXI.out;have:=HLT.out;first|(simp only [i64_w];unfold wrap64;omega)|(unfold wrap64;omega)|omega),⟨by have:=HXI.out;omega⟩,⟨by have:=HF.out;omega⟩,⟨zq10⟩,⟨_,blk_set HX.out i _,(tab_step HXI.out zq10 HS.out H1.out H2.out).1,(tab_step HXI.out zq10 HS.out H1.out H2.out).2.1,(tab_step HXI.out zq10 HS.out H1.out H2.out).2.2⟩,⟨below_set HB.out HGB.out⟩⟩
   ·have hlt':decide (x<256)=false:=decide_eq_false hlt
    have p1:(x<256)=False:=eq_false hlt
    have HX:=zqm hX
    have HS:=zqm hS
    have H1:=zqm (show∀j,j<256→cur[j]? =some (.int .u8 (dT 0 j)) from fun j hj=>by rw [dT_zero];exact h1 j (by have:=HXI.out;omega))
    clear hX hS h1 h2 hlt
    go_wp2_with fail
    go_loopg [8] 5 (fun kq v8 W=> ∃(m:Nat) (x:Int),v8= .int .i64 x∧Aside0 (x=6 - 2*(m:Int))∧Aside0 (4<m+kq)∧Aside0 (m≤4)∧Aside0 (∃cur,W.heap[b]? =some (.cells cur 64 (0,0))∧cur.size=256∧ ∀j,j<256→cur[j]? =some (.int .u8 (dT m j)))∧Aside0 (Below w.heap.size w W))
    case atStart=>exact⟨0,6,rfl,⟨rfl⟩,⟨by omega⟩,⟨by omega⟩,⟨_,HX.out,HS.out,H1.out⟩,⟨HB.out⟩⟩
    case round=>
     clear HX HS H1 HB HF HI HXI
     obtain⟨m,x,rfl,HXI,HF,HI,⟨cur,hX,hS,h1⟩,HB⟩:=hrel
     cases gk with
     |zero=>exact absurd HF.out (by have:=HI.out;omega)
     |succ kn=>
     have z: ∀b:UInt8,(⟨#[b]⟩:ByteArray).size=1:=fun _=>rfl
     have HX:=zqm hX
     have HS:=zqm hS
     have H1:=zqm h1
     clear hX hS h1
     have hm:m=0∨m=1∨m=2∨m=3∨m=4:=by have:=HI.out;omega
     rcases hm with rfl|rfl|rfl|rfl|rfl
     ·obtain rfl:x=6:=by have:=HXI.out;omega
      have c0:wr.cell? ⟨h,6,none⟩=some (.string ⟨#[49]⟩):=dl_cell (Kd.C_below HC.out HB.out) 6 (by omega)
      have c1:wr.cell? ⟨h,7,none⟩=some (.string ⟨#[48]⟩):=dl_cell (Kd.C_below HC.out HB.out) 7 (by omega)
      have hc:wr.cell? ⟨b,49,none⟩=some (.int .u8 (dT 0 49)):=(blk_cell HX.out 49).trans (H1.out 49 (by omega))
      have hf:=blk_frozen HX.out 49
      have ea: ∀(h:0<(⟨#[49]⟩:ByteArray).size),((⟨#[49]⟩:ByteArray)[0]'h).toNat=49:=fun _=>rfl
      have eb: ∀(h:0<(⟨#[48]⟩:ByteArray).size),((⟨#[48]⟩:ByteArray)[0]'h).toNat=48:=fun _=>rfl
      go_wp2_with fail
      go_roundg kn
      case measure=>omega
      case rel=>exact⟨1,4,rfl,⟨by omega⟩,⟨by have:=HF.out;omega⟩,⟨by omega⟩,⟨_,blk_set HX.out 49 _,(dT_step (n:=48) (by omega) HS.out H1.out).1,(dT_step (n:=48) (by omega) HS.out H1.out).2⟩,⟨below_set HB.out HGB.out⟩⟩
     ·obtain rfl:x=4:=by have:=HXI.out;omega
      have c0:wr.cell? ⟨h,4,none⟩=some (.string ⟨#[48]⟩):=dl_cell (Kd.C_below HC.out HB.out) 4 (by omega)
      have c1:wr.cell? ⟨h,5,none⟩=some (.string ⟨#[49]⟩):=dl_cell (Kd.C_below HC.out HB.out) 5 (by omega)
      have hc:wr.cell? ⟨b,48,none⟩=some (.int .u8 (dT 1 48)):=(blk_cell HX.out 48).trans (H1.out 48 (by omega))
      have hf:=blk_frozen HX.out 48
      have ea: ∀(h:0<(⟨#[48]⟩:ByteArray).size),((⟨#[48]⟩:ByteArray)[0]'h).toNat=48:=fun _=>rfl
      have eb: ∀(h:0<(⟨#[49]⟩:ByteArray).size),((⟨#[49]⟩:ByteArray)[0]'h).toNat=49:=fun _=>rfl
      go_wp2_with fail
      go_roundg kn
      case measure=>omega
      case rel=>exact⟨2,2,rfl,⟨by omega⟩,⟨by have:=HF.out;omega⟩,⟨by omega⟩,⟨_,blk_set HX.out 48 _,(dT_step (n:=49) (by omega) HS.out H1.out).1,(dT_step (n:=49) (by omega) HS.out H1.out).2⟩,⟨below_set HB.out HGB.out⟩⟩
     ·obtain rfl:x=2:=by have:=HXI.out;omega
      have c0:wr.cell? ⟨h,2,none⟩=some (.string ⟨#[124]⟩):=dl_cell (Kd.C_below HC.out HB.out) 2 (by omega)
      have c1:wr.cell? ⟨h,3,none⟩=some (.string ⟨#[38]⟩):=dl_cell (Kd.C_below HC.out HB.out) 3 (by omega)
      have hc:wr.cell? ⟨b,124,none⟩=some (.int .u8 (dT 2 124)):=(blk_cell HX.out 124).trans (H1.out 124 (by omega))
      have hf:=blk_frozen HX.out 124
      have ea: ∀(h:0<(⟨#[124]⟩:ByteArray).size),((⟨#[124]⟩:ByteArray)[0]'h).toNat=124:=fun _=>rfl
      have eb: ∀(h:0<(⟨#[38]⟩:ByteArray).size),((⟨#[38]⟩:ByteArray)[0]'h).toNat=38:=fun _=>rfl
      go_wp2_with fail
      go_roundg kn
      case measure=>omega
      case rel=>exact⟨3,0,rfl,⟨by omega⟩,⟨by have:=HF.out;omega⟩,⟨by omega⟩,⟨_,blk_set HX.out 124 _,(dT_step (n:=38) (by omega) HS.out H1.out).1,(dT_step (n:=38) (by omega) HS.out H1.out).2⟩,⟨below_set HB.out HGB.out⟩⟩
     ·obtain rfl:x=0:=by have:=HXI.out;omega
      have c0:wr.cell? ⟨h,0,none⟩=some (.string ⟨#[38]⟩):=dl_cell (Kd.C_below HC.out HB.out) 0 (by omega)
      have c1:wr.cell? ⟨h,1,none⟩=some (.string ⟨#[124]⟩):=dl_cell (Kd.C_below HC.out HB.out) 1 (by omega)
      have hc:wr.cell? ⟨b,38,none⟩=some (.int .u8 (dT 3 38)):=(blk_cell HX.out 38).trans (H1.out 38 (by omega))
      have hf:=blk_frozen HX.out 38
      have ea: ∀(h:0<(⟨#[38]⟩:ByteArray).size),((⟨#[38]⟩:ByteArray)[0]'h).toNat=38:=fun _=>rfl
      have eb: ∀(h:0<(⟨#[124]⟩:ByteArray).size),((⟨#[124]⟩:ByteArray)[0]'h).toNat=124:=fun _=>rfl
      go_wp2_with fail
      go_roundg kn
      case measure=>omega
      case rel=>exact⟨4,-2,rfl,⟨by omega⟩,⟨by have:=HF.out;omega⟩,⟨by omega⟩,⟨_,blk_set HX.out 38 _,(dT_step (n:=124) (by omega) HS.out H1.out).1,(dT_step (n:=124) (by omega) HS.out H1.out).2⟩,⟨below_set HB.out HGB.out⟩⟩
     obtain rfl:x= -2:=by have:=HXI.out;omega
     go_wp2_with fail
     go_ret
     exact⟨b,_,rfl,HGB.out,HX.out,HS.out,H1.out,HB.out⟩
theorem goesF_ {P : Program} {ops : Array Oper} {Q : Exit → Act → World → Prop} {rest : List Oper} {oi : Oper} {a : Act} {w : World} (N : Option Tmp) (hd : oi.dst = N) (hg : oi.guard = none) {f : FuncId} {fn : Func} {x : Operand} {xo : Array Operand} {ts : Array TypeId} {fs cs : Array Value}
 (hf : P.funcs[f]? = some fn) (hname : (fn.name == "runtime.NumGoroutine") = false) (hb : fn.body.isSome = true) (args : Array Value)
 (hop : oi.op = .call { callee := .value x, args := xo, argTypes := ts }) (hx : a.eval x = .func (.func f) fs cs) (hargs : xo.map a.eval = args)
 (h : Calls P f (fs ++ args ++ cs) w fun e w' => ∃ v, e = .returned v ∧ wpList P ops Q rest (a.put N v) w') : wpList P ops Q (oi :: rest) a w := by
 refine wpList_plain hg fun K hK => ?_
 have he := enters_ hf hname hb (fs ++ args ++ cs) w
 have hrun : (execOp a.eval oi).run P w = .ok (.enter f (fs ++ args ++ cs)) w := by
  unfold execOp
  simp [hop, resolve, Deferred.ofValue, invoke, hx, hargs]
  rw [← Array.append_assoc]
  exact he
 unfold Oper.wp
 rw [hrun, Oper.upon_enter]
 refine h.mono fun e w'' hh => ?_
 obtain ⟨v, rfl, hk⟩ := hh
 subst hd
 exact hK _ _ hk
theorem C_block {w w' : World} {h n : Nat} {l : List ByteArray} (H : Kd.C Kd.string w (some ⟨h, 0, none⟩) n l) (e : w'.heap[h]? = w.heap[h]?) : Kd.C Kd.string w' (some ⟨h, 0, none⟩) n l := by
 refine⟨H.1,H.2.1,fun hp=>?_⟩
 obtain⟨ad,ea,hx⟩:=H.2.2 hp
 cases ea
 refine⟨_,rfl,fun j p hj=>?_⟩
 obtain⟨cs,hcs,hk,hcell⟩:=hx j p hj
 refine⟨cs,hcs,hk,fun i u hu=>?_⟩
 have h1:=hcell i u hu
 rw [add0] at h1 ⊢
 rw [← h1]
 simp only [World.cell?,e]
set_option maxHeartbeats 4000000 in
set_option maxRecDepth 100000 in
theorem buildOnce_calls (g h c : Nat) (d s m : Int) (w0 w : World) (hb : w.heap[g]? = some (.cells #[.int .u32 d, .int .i32 s, .int .u32 m, .nilIface, .slice (some ⟨h, 0, none⟩) 8 c] 45 (0, 0))) (H : Kd.C Kd.string w (some ⟨h, 0, none⟩) 8 dualL) (hB : Below w0.heap.size w0 w) (hg : w0.heap.size ≤ g) (hh : h ≠ g) :
 Calls Try.prog 13 #[.pointer (some ⟨g,0,none⟩)] w fun e w'=>e= .returned (.tuple #[])∧ ∃b cur,w0.heap.size≤b∧g≠b∧w'.heap[g]? =some (.cells #[.int .u32 d,.int .i32 s,.int .u32 m,.iface 65 (.pointer (some ⟨b,0,none⟩)),.slice none 0 0] 45 (0,0))∧w'.heap[b]? =some (.cells cur 64 (0,0))∧cur.size=256∧(∀j,j<256→cur[j]? =some (.int .u8 (dT 4 j)))∧Below w0.heap.size w0 w':=by
 have HX:=zqm hb
 have HC:=zqm H
 have HB:=zqm hB
 have HG:=zqm hg
 clear hb H hB hg
 go_enter Try.func13,Try.ntmps13
 go_wp2_with (go_at_call 17;(with_reducible refine(build_calls g h c _ _ _ _ _ HX.out HC.out).mono ?_);rintro e w1 ⟨b,cur,rfl,hgb,hcur,hs,hv,hb⟩;have hne:g≠b:=Nat.ne_of_lt (Nat.lt_of_lt_of_le (blk_lt HX.out) hgb);have HGB:=zqm (show w0.heap.size≤b from Nat.le_trans HB.out.size hgb);have n0_:=zqm (blk_below HX.out hb);have n1_:=zqm (below_step HB.out hb);clear HX HB HC;have HX:=n0_;have HB:=n1_;clear n0_ n1_;have HN:=zqm hne;have HU:=zqm hcur;have HS:=zqm hs;have HV:=zqm hv;clear hgb hcur hs hv hb hne;have hx3:w1.cell? ⟨g,3,none⟩=some .nilIface:=(blk_cell HX.out 3).trans rfl;have hx4:w1.cell? ⟨g,4,none⟩=some (.slice (some ⟨h,0,none⟩) 8 c):=(blk_cell HX.out 4).trans rfl;have hf3:=blk_frozen HX.out 3;have hf4:=blk_frozen HX.out 4)
 go_end0
 exact⟨rfl,b,cur,HGB.out,HN.out,blk_put (blk_put HX.out 3 _ rfl) 4 _ rfl,blk_far (blk_far HU.out (Ne.symm HN.out) _) (Ne.symm HN.out) _,HS.out,HV.out,below_set (below_set HB.out HG.out) HG.out⟩
set_option maxRecDepth 100000 in
set_option maxHeartbeats 4000000 in
theorem slow_calls (g h c : Nat) (w0 w : World) (hb : w.heap[g]? = some (.cells #[.int .u32 0, .int .i32 0, .int .u32 0, .nilIface, .slice (some ⟨h, 0, none⟩) 8 c] 45 (0, 0))) (H : Kd.C Kd.string w (some ⟨h, 0, none⟩) 8 dualL) (hB : Below w0.heap.size w0 w) (hg : w0.heap.size ≤ g) (hh : h ≠ g) :
 Calls Try.prog 16 #[.pointer (some ⟨g,0,none⟩),.func (.func 13) #[.pointer (some ⟨g,0,none⟩)] #[]] w fun e w'=>e= .returned (.tuple #[])∧ ∃b cur,w0.heap.size≤b∧g≠b∧w'.heap[g]? =some (.cells #[.int .u32 1,.int .i32 0,.int .u32 0,.iface 65 (.pointer (some ⟨b,0,none⟩)),.slice none 0 0] 45 (0,0))∧w'.heap[b]? =some (.cells cur 64 (0,0))∧cur.size=256∧(∀j,j<256→cur[j]? =some (.int .u8 (dT 4 j)))∧Below w0.heap.size w0 w':=by
 have h0:w.cell? ⟨g,0,none⟩=some (.int .u32 0):=(blk_cell hb 0).trans rfl
 have h1:w.cell? ⟨g,1,none⟩=some (.int .i32 0):=(blk_cell hb 1).trans rfl
 have f1:=blk_frozen hb 1
 have hl:=run_call_load (P:=Try.prog) Try.func18 zqk zqk zqk .u32 zqk (w:=w.setCell ⟨g,1,none⟩ (.int .i32 1)) (a:=⟨g,0,none⟩) (x:=0) ((World.cell?_setCell_other _ ⟨g,1,none⟩ ⟨g,0,none⟩ _ (by simp)).trans h0)
 have hnot: ∀(x:Bool) (w:World),(Op.unary .not (.bool x)).run Try.prog w= .ok (.bool (!x)) w:=fun _ _=>rfl
 have HX:=zqm (show (w.setCell ⟨g,1,none⟩ (.int .i32 1)).heap[g]? =some (.cells #[.int .u32 0,.int .i32 1,.int .u32 0,.nilIface,.slice (some ⟨h,0,none⟩) 8 c] 45 (0,0)) from blk_put hb 1 _ rfl)
 have HC:=zqm (show Kd.C Kd.string (w.setCell ⟨g,1,none⟩ (.int .i32 1)) (some ⟨h,0,none⟩) 8 dualL from C_block H (Below.heap_setCell w ⟨g,1,none⟩ _ h hh))
 have HB:=zqm (show Below w0.heap.size w0 (w.setCell ⟨g,1,none⟩ (.int .i32 1)) from below_set hB hg)
 have HG:=zqm hg
 have HH:=zqm hh
 clear hb H hB hg hh
 go_enter_defers Try.func16,Try.ntmps16
 go_wp2_with (first|(go_at_call 19;refine(lock_free ⟨g,1,none⟩ _ (by go_simp) (by go_simp)).mono ?_;rintro e w' ⟨rfl,rfl⟩)|(go_at_call 15;go_in)|(refine goesF_ _ rfl rfl Try.func13 zqk rfl #[] rfl rfl (by(try simp only [List.map_toArray,List.map_cons,List.map_nil]);first|done|rfl) ?_;refine(buildOnce_calls g h c 0 1 0 w0 _ HX.out HC.out HB.out HG.out HH.out).mono ?_;rintro e w1 ⟨rfl,b,cur,hgb,hne,hx,hu,hs,hv,hb⟩;refine⟨_,rfl,?_⟩;clear HX HC HB;have HX:=zqm hx;have HU:=zqm hu;have HS:=zqm hs;have HV:=zqm hv;have HB:=zqm hb;have HGB:=zqm hgb;have HN:=zqm hne;clear hgb hne hx hu hs hv hb))
 refine leaves_cons (f:=21) (args:= #[.pointer (some ⟨g,0,none⟩),.bool true]) (by simp) (by simp [go_sem]) ?_
 refine(store_deferred ⟨g,0,none⟩ (.int .u32 0) .returning _ ((blk_cell HX.out 0).trans rfl) (blk_frozen HX.out 0)).mono ?_
 rintro e u' w'' ⟨rfl,rfl,rfl⟩
 have HY:=zqm (blk_put (blk_drew HX.out) 0 (.int .u32 1) rfl)
 refine leaves_cons (f:=20) (args:= #[.pointer (some ⟨g,1,none⟩)]) (by simp [settle]) (by simp [go_sem]) ?_
 refine(unlock_deferred ⟨g,1,none⟩ _ _ ((blk_cell HY.out 1).trans rfl) (blk_frozen HY.out 1)).mono ?_
 rintro e u' w'' ⟨rfl,rfl,rfl⟩
 have HZ: ∃b cur,w0.heap.size≤b∧g≠b∧((w1.drew.setCell ⟨g,0,none⟩ (.int .u32 1)).setCell ⟨g,1,none⟩ (.int .i32 0)).heap[g]? =some (.cells #[.int .u32 1,.int .i32 0,.int .u32 0,.iface 65 (.pointer (some ⟨b,0,none⟩)),.slice none 0 0] 45 (0,0))∧((w1.drew.setCell ⟨g,0,none⟩ (.int .u32 1)).setCell ⟨g,1,none⟩ (.int .i32 0)).heap[b]? =some (.cells cur 64 (0,0))∧cur.size=256∧(∀j,j<256→cur[j]? =some (.int .u8 (dT 4 j)))∧Below w0.heap.size w0 ((w1.drew.setCell ⟨g,0,none⟩ (.int .u32 1)).setCell ⟨g,1,none⟩ (.int .i32 0)):=⟨b,cur,HGB.out,HN.out,blk_put HY.out 1 _ rfl,blk_far (blk_far (blk_drew HU.out) (Ne.symm HN.out) _) (Ne.symm HN.out) _,HS.out,HV.out,below_set (below_set (below_drew1 HB.out) HG.out) HG.out⟩
 simp [Leaves,settle,results,Try.results16]
 simpa using HZ
set_option maxRecDepth 100000 in
set_option maxHeartbeats 4000000 in
theorem do_calls (g h c : Nat) (w0 w : World) (hb : w.heap[g]? = some (.cells #[.int .u32 0, .int .i32 0, .int .u32 0, .nilIface, .slice (some ⟨h, 0, none⟩) 8 c] 45 (0, 0))) (H : Kd.C Kd.string w (some ⟨h, 0, none⟩) 8 dualL) (hB : Below w0.heap.size w0 w) (hg : w0.heap.size ≤ g) (hh : h ≠ g) :
 Calls Try.prog 12 #[.pointer (some ⟨g,0,none⟩),.func (.func 13) #[.pointer (some ⟨g,0,none⟩)] #[]] w fun e w'=>e= .returned (.tuple #[])∧ ∃b cur,w0.heap.size≤b∧g≠b∧w'.heap[g]? =some (.cells #[.int .u32 1,.int .i32 0,.int .u32 0,.iface 65 (.pointer (some ⟨b,0,none⟩)),.slice none 0 0] 45 (0,0))∧w'.heap[b]? =some (.cells cur 64 (0,0))∧cur.size=256∧(∀j,j<256→cur[j]? =some (.int .u8 (dT 4 j)))∧Below w0.heap.size w0 w':=by
 have h0:w.cell? ⟨g,0,none⟩=some (.int .u32 0):=(blk_cell hb 0).trans rfl
 have hl:=run_call_load (P:=Try.prog) Try.func18 zqk zqk zqk .u32 zqk h0
 have hnot: ∀(x:Bool) (w:World),(Op.unary .not (.bool x)).run Try.prog w= .ok (.bool (!x)) w:=fun _ _=>rfl
 have HX:=zqm hb
 have HC:=zqm H
 have HB:=zqm hB
 have HG:=zqm hg
 have HH:=zqm hh
 clear hb H hB hg hh
 go_enter Try.func12,Try.ntmps12
 go_wp2_with (first|(go_at_call 16;refine(slow_calls g h c w0 _ HX.out HC.out HB.out HG.out HH.out).mono ?_;rintro e w1 ⟨rfl,hq⟩;have HQ:=zqm hq;clear hq)|(go_at_call 15;go_in))
 go_end0
 exact⟨rfl,HQ.out⟩
end Go.Proofs.Ytipjnmbkobofbaa.Print
end
section
namespace Go.Proofs.Ytipjnmbkobofbaa.Print
open Oml
theorem cell_up {w W : Go.World} {B : Nat} {a : Go.Addr} {v : Go.Value} (h : w.cell? a = some v) (hb : Go.RowKit.Below B w W) (hB : B = w.heap.size) : W.cell? a = some v := by
 subst hB
 exact(hb.cell (Go.World.block_lt_of_cell? w a h)).trans h
end Go.Proofs.Ytipjnmbkobofbaa.Print
end
section
namespace Go.Proofs.Ytipjnmbkobofbaa.Print
open Go.RowKit Go.Proofs.YtipjnmbkobofbaaW.PrintWords Go.Proofs.YtipjnmbkobofbaaW.PrintLast Go.Proofs.YtipjnmbkobofbaaW.PrintMore
open Oml
theorem Ev.eq {α : Type} {g : Nat → Option α} {r r' : α} (h : Ev g r) (e : r = r') : Ev g r' := e ▸ h
theorem wrap_nat {i : Nat} (h : i < 4611686018427387904) : wrap64 ((i : Int) + 1) = ((i + 1 : Nat) : Int) := by unfold wrap64; omega
theorem Ev.succ {α : Type} {g : Nat → Option α} {r : α} (h : Ev (fun k => g (k + 1)) r) : Ev g r := Ev.step (fun _ => rfl) h
theorem Ev.ite_pos {α : Type} {c : Prop} [Decidable c] {a b : Nat → Option α} {r : α} (h : c) (k : Ev a r) : Ev (fun n => if c then a n else b n) r := by simpa only [if_pos h] using k
theorem Ev.ite_neg {α : Type} {c : Prop} [Decidable c] {a b : Nat → Option α} {r : α} (h : ¬ c) (k : Ev b r) : Ev (fun n => if c then a n else b n) r := by simpa only [if_neg h] using k
theorem Ev.ip {α : Type} {c : Prop} [Decidable c] {a b : Nat → Option α} {r : α} (k : Ev a r) (h : c := by first | assumption | (focus omega) | (simp <;> fail)) : Ev (fun n => if c then a n else b n) r := Ev.ite_pos h k
theorem Ev.iq {α : Type} {c : Prop} [Decidable c] {a b : Nat → Option α} {r : α} (k : Ev b r) (h : ¬ c := by first | assumption | (focus omega) | (simp <;> fail)) : Ev (fun n => if c then a n else b n) r := Ev.ite_neg h k
theorem Ev.pure {α : Type} {o : Option α} {r : α} (h : o = some r) : Ev (fun _ => o) r := h ▸ Ev.now r
theorem Ev.pbind {α β : Type} {g : Option α} {f : Nat → α → Option β} {a : α} {r : β} (h : g = some a) (k : Ev (fun n => f n a) r) : Ev (fun n => g.bind (f n)) r := Ev.bind (g := fun _ => g) (Ev.pure h) k
theorem Ev.loop {σ ρ : Type} {g : Nat → σ → Int → Option ρ} (n : Nat) (I : Nat → σ → Prop) {R : ρ} (hn : n < 4611686018427387904) (hend : ∀ s, I n s → Ev (fun k => g k s (n : Int)) R)
 (hstep: ∀i s,i<n→I i s→ ∃s',I (i+1) s'∧(Ev (fun k=>g k s' (wrap64 ((i:Int)+1))) R→Ev (fun k=>g k s (i:Int)) R)): ∀s,I 0 s→Ev (fun k=>g k s 0) R:=by
 have key: ∀d i,i+d=n→ ∀s,I i s→Ev (fun k=>g k s (i:Int)) R:=by
  intro d
  induction d with
  |zero=>
   intro i hi s hs
   obtain rfl:i=n:=by omega
   exact hend s hs
  |succ d ih=>
   intro i hi s hs
   obtain⟨s',h1,h2⟩:=hstep i s (by omega) hs
   refine h2 ?_
   rw [wrap_nat (by omega)]
   exact ih (i+1) (by omega) s' h1
 exact fun s hs=>key n 0 (by omega) s hs
inductive Fm where
 | leaf (c : Int)
 | neg (f : Fm)
 | bin (o : Int) (f g : Fm)
def isLeaf (c : Int) : Prop := c = 97 ∨ c = 98 ∨ c = 99 ∨ c = 48 ∨ c = 49
instance (c : Int) : Decidable (isLeaf c) := by unfold isLeaf; infer_instance
def rdF : Nat → ByteArray → Option (Fm × ByteArray)
 |0,_=>none
 |k+1,s=>
  if s.size=0 then none
  else if isLeaf (bt s 0) then some (.leaf (bt s 0),s.extract 1 s.size)
  else if bt s 0=33 then
   match rdF k (s.extract 1 s.size) with
   |none=>none
   |some (f,r)=>some (.neg f,r)
  else if bt s 0=40 then
   match rdF k (s.extract 1 s.size) with
   |none=>none
   |some (f,r)=>
    if r.size=0 then none
    else if bt r 0=38∨bt r 0=124 then
     match rdF k (r.extract 1 r.size) with
     |none=>none
     |some (g,q)=>
      if q.size=0 then none
      else if bt q 0=41 then some (.bin (bt r 0) f g,q.extract 1 q.size)
      else none
    else none
  else none
theorem ext_size (s : ByteArray) : (s.extract 1 s.size).size = s.size - 1 := by rw [ByteArray.size_extract]; omega
theorem rdF_size : ∀ (k : Nat) (s : ByteArray) (f : Fm) (r : ByteArray), rdF k s = some (f, r) → r.size < s.size
 |0,_,_,_,h=>by simp [rdF] at h
 |k+1,s,f,r,h=>by
  have ih:=rdF_size k
  simp only [rdF] at h
  split at h
  ·cases h
  ·rename_i h0
   split at h
   ·cases h;rw [ext_size];omega
   ·split at h
    ·split at h
     ·cases h
     ·rename_i f1 r1 h1
      cases h
      have:=ih _ _ _ h1
      rw [ext_size] at this;omega
    ·split at h
     ·split at h
      ·cases h
      ·rename_i f1 r1 h1
       have h2:=ih _ _ _ h1
       rw [ext_size] at h2
       split at h
       ·cases h
       ·split at h
        ·split at h
         ·cases h
         ·rename_i g q h3
          have h4:=ih _ _ _ h3
          rw [ext_size] at h4
          split at h
          ·cases h
          ·split at h
           ·cases h;rw [ext_size];omega
           ·cases h
        ·cases h
     ·cases h
def fmOf (s : ByteArray) : Option Fm :=
 if 60 < s.size then none
 else match rdF s.size s with
  | none => none
  | some (f, r) => if r.size = 0 then some f else none
def FAt (W : World) : Nat → Fm → Prop
 |p,.leaf c=>W.heap[p]? =some (.cells #[.int .u8 c,.slice none 0 0] 54 (0,0))
 |p,.neg f=> ∃q a c,W.heap[p]? =some (.cells #[.int .u8 33,.slice (some ⟨a,0,none⟩) 1 c] 54 (0,0))∧W.cell? ⟨a,0,none⟩=some (.pointer (some ⟨q,0,none⟩))∧FAt W q f
 |p,.bin o f g=> ∃q r a c,W.heap[p]? =some (.cells #[.int .u8 o,.slice (some ⟨a,0,none⟩) 2 c] 54 (0,0))∧W.cell? ⟨a,0,none⟩=some (.pointer (some ⟨q,0,none⟩))∧W.cell? ⟨a,1,none⟩=some (.pointer (some ⟨r,0,none⟩))∧FAt W q f∧FAt W r g
theorem FAt.below {W W1 : World} (hb : Below W.heap.size W W1) : ∀ (f : Fm) (p : Nat), FAt W p f → FAt W1 p f
 | .leaf c,p,h=>blk_below h hb
 | .neg f,p,⟨q,a,c,h1,h2,h3⟩=>⟨q,a,c,blk_below h1 hb,cell_up h2 hb rfl,FAt.below hb f q h3⟩
 | .bin o f g,p,⟨q,r,a,c,h1,h2,h3,h4,h5⟩=>⟨q,r,a,c,blk_below h1 hb,cell_up h2 hb rfl,cell_up h3 hb rfl,FAt.below hb f q h4,FAt.below hb g r h5⟩
def RdPost (w : World) (s : ByteArray) (o : Option (Fm × ByteArray)) (e : Ending) (w' : World) : Prop :=
 Below w.heap.size w w'∧match o with
  |none=>e= .returned (.tuple #[.pointer none,.string s])
  |some (f,r)=> ∃p,e= .returned (.tuple #[.pointer (some ⟨p,0,none⟩),.string r])∧FAt w' p f
theorem size_al (W : World) (o : Obj) : (W.alloc o).heap.size = W.heap.size + 1 := by first | (simp; done) | (unfold World.alloc; simp; done) | rfl
theorem blk2 (W : World) (o q : Obj) : ((W.alloc o).alloc q).heap[W.heap.size + 1]? = some q ∧ ((W.alloc o).alloc q).heap[W.heap.size]? = some o := by
 have h:=(MapKept.heap_alloc (W.alloc o) q).1
 rw [size_al] at h
 exact⟨h,blk_alloc (MapKept.heap_alloc W o).1 q⟩
theorem str_nil {s : ByteArray} (h : s.size = 0) : s.toList = [] := by
 rw [ByteArray.toList_eq]
 have h2:s.data.size=0:=h
 exact List.eq_nil_of_length_eq_zero (by rw [Array.length_toList];exact h2)
theorem str_ne {s : ByteArray} (h : 0 < s.size) : s.toList.isEmpty = false ∧ (s.toList == []) = false := by
 have h1:s.toList≠ []:=by
  rw [ByteArray.toList_eq]
  intro e
  have h2:s.data.size=0:=by rw [← Array.length_toList,e];rfl
  have h3:s.size=0:=h2
  omega
 cases hl:s.toList with
 |nil=>exact absurd hl h1
 |cons a l=>exact⟨rfl,rfl⟩
theorem read_empty (k : Nat) (s : ByteArray) (w : World) (h : s.size = 0) : Calls Try.prog 14 #[.string s] w (RdPost w s (rdF k s)) := by
 have hr:rdF k s=none:=by cases k <;> simp [rdF,h]
 rw [hr]
 have h1:=str_nil h
 have h2:(s.toList== [])=true:=by rw [h1];rfl
 have h3:s.toList.isEmpty=true:=by rw [h1];rfl
 clear hr h
 go_enter Try.func14,Try.ntmps14
 go_wp2_with fail
 go_ret2
 exact⟨Below.refl _ _,rfl⟩
def impl_readFormula.T9 : Bool × List (List Nat × List Nat) := (true, [([], []), ([0], [0]), ([1], [1]), ([2], [2]), ([], []), ([4], [4]), ([3, 0, 1, 2, 3], [3]), ([5, 6, 0, 1, 2, 3, 4, 5, 6], [5])])
def impl_readFormula.B9 : List Nat := [0, 1, 3, 7, 0, 16, 15, 127]
theorem impl_readFormula.tab9 : rtab .any (opsOf Try.f14 9) = impl_readFormula.T9 := by kernel_rfl
theorem impl_readFormula.bits9 : waitsOk impl_readFormula.T9.2 impl_readFormula.B9 = true := by kernel_rfl
def impl_readFormula.T22 : Bool × List (List Nat × List Nat) := (true, [([], []), ([0], [0]), ([], []), ([], []), ([2, 3], [2, 3]), ([1, 4], [1, 4]), ([5], [5]), ([], []), ([7], [7]), ([6, 0, 1, 2, 3, 4, 5, 6], [6]), ([8, 9, 0, 1, 2, 3, 4, 5, 6, 7, 8, 9], [8])])
def impl_readFormula.B22 : List Nat := [0, 1, 0, 0, 12, 31, 63, 0, 128, 127, 1023]
theorem impl_readFormula.tab22 : rtab .any (opsOf Try.f14 22) = impl_readFormula.T22 := by kernel_rfl
theorem impl_readFormula.bits22 : waitsOk impl_readFormula.T22.2 impl_readFormula.B22 = true := by kernel_rfl
theorem read_leaf (k : Nat) (s : ByteArray) (w : World) (hp : 0 < s.size) (c : Int) (hc : bt s 0 = c) (hl : isLeaf c) : Calls Try.prog 14 #[.string s] w (RdPost w s (rdF (k + 1) s)) := by
 have hr:rdF (k+1) s=some (.leaf (bt s 0),s.extract 1 s.size):=by simp only [rdF];rw [if_neg (by omega),if_pos (by rw [hc];exact hl)]
 rw [hr]
 obtain⟨n1,n2⟩:=str_ne hp
 have n3:decide (0<s.size)=true:=decide_eq_true hp
 have n4:decide (1≤s.size)=true:=decide_eq_true hp
 have n5:=eq_true hp
 have n7: ∀h:0<s.size,((s[0]'h).toNat:Int)=bt s 0:=fun h=>bt_at s 0 h
 have n6:decide ((1:Int)≤(s.size:Int))=true:=decide_eq_true (by omega);have n8:((1:Int)≤(s.size:Int))=True:=eq_true (by omega)
 unfold isLeaf at hl
 clear hr
 rcases hl with hl|hl|hl|hl|hl
 all_goals
  subst hl
  have t97:(bt s 0==97)=(bt s 0==97):=rfl
  have e97:(bt s 0==97)=_:=congrArg (fun x:Int=>x==97) hc
  have e98:(bt s 0==98)=_:=congrArg (fun x:Int=>x==98) hc
  have e99:(bt s 0==99)=_:=congrArg (fun x:Int=>x==99) hc
  have e48:(bt s 0==48)=_:=congrArg (fun x:Int=>x==48) hc
  have e49:(bt s 0==49)=_:=congrArg (fun x:Int=>x==49) hc
  clear t97 hc
  go_enter Try.func14,Try.ntmps14
  go_wp2_with fail
  refine start_ (n:=8) (S:=(fun _=>True)) (ds:= []) (zqb 8 0) zqk rfl rfl True.intro (fun hHeld=>?_)
  refine with_tabW impl_readFormula.tab9 impl_readFormula.bits9 (fun HT_ HW_=>?_)
  generalize hwd:w.drew=wd at hHeld ⊢
  have HB:=zqm (show Below w.heap.size w wd from hwd ▸ below_drew1 (Below.refl _ _))
  clear hwd
  refine zqp 0 21 (zqb 8 1) HT_ ?_
  refine zqp 1 22 (zqb 8 3) HT_ ?_
  refine zqp 2 23 (zqb 8 7) HT_ ?_
  refine zqp 4 25 (zqb 8 23) HT_ ?_
  refine zqp 5 26 (zqb 8 55) HT_ ?_
  refine one_ (i:=3) (N:=some 24) (zqb 8 63) rfl rfl (one_of HT_.out zqk) (by decide) (fun K hK=>?_)
  refine box_step (cs:= #[.int .u8 (bt s 0),.slice none 0 0]) (t:=54) (N:=24) (by rfl) (by rfl) ?hr1 ?_
  case hr1=>first|(go_simp;done)|(go_simp;rfl)
  intro p hp w1 hbox hb
  have HX:=zqm hbox
  have HB1:=zqm (below_step HB.out hb)
  refine hK.out _ _ True.intro (fun hHeld1=>?_)
  clear hK K hbox hb hp HB
  refine norm_ (a':=?_) ?_ ?_
  rotate_left
  ·show Act.put _ (some 24) _=_
   simp only [Act.put,List.setIfInBounds_toArray,List.set_cons_zero,List.set_cons_succ,i64_w,i32_w]
   rfl
  refine zqp 6 2 (zqb 8 127) HT_ ?_
  refine zqp 7 3 (zqb 8 255) HT_ ?_
  refine done_ (done_of HT_.out zqk) ?_
  go_wp2
  go_ret2
  exact⟨by repeat(first|exact HB1.out|apply pw_below_drewN|apply below_drew1),p,rfl,HX.out⟩
theorem rd_neg {k : Nat} {s : ByteArray} (hp : 0 < s.size) (hc : bt s 0 = 33) : rdF (k + 1) s = match rdF k (s.extract 1 s.size) with | none => none | some (f, r) => some (.neg f, r) := by
 simp only [rdF];rw [if_neg (by omega),if_neg (by rw [hc];unfold isLeaf;omega),if_pos hc]
 all_goals (cases rdF k (s.extract 1 s.size) <;> rfl)
theorem rd_par {k : Nat} {s : ByteArray} (hp : 0 < s.size) (hc : bt s 0 = 40) : rdF (k + 1) s = match rdF k (s.extract 1 s.size) with
 |none=>none
 |some (f,r)=>
  if r.size=0 then none
  else if bt r 0=38∨bt r 0=124 then
   match rdF k (r.extract 1 r.size) with
   |none=>none
   |some (g,q)=>
    if q.size=0 then none
    else if bt q 0=41 then some (.bin (bt r 0) f g,q.extract 1 q.size)
    else none
  else none:=by
 simp only [rdF];rw [if_neg (by omega),if_neg (by rw [hc];unfold isLeaf;omega),if_neg (by rw [hc];omega),if_pos hc]
 all_goals
  rcases rdF k (s.extract 1 s.size) with _|⟨f,r⟩
  ·rfl
  simp only []
  split
  ·rfl
  split
  ·rcases rdF k (r.extract 1 r.size) with _|⟨g,q⟩ <;> rfl
  ·rfl
set_option maxHeartbeats 4000000 in
set_option maxRecDepth 100000 in
theorem read_calls : ∀ (k : Nat) (s : ByteArray) (w : World), s.size ≤ k → Calls Try.prog 14 #[.string s] w (RdPost w s (rdF k s)) := by
 intro k
 induction k with
 |zero=>intro s w h;exact read_empty 0 s w (by omega)
 |succ k ih=>
 intro s w hk
 rcases Nat.eq_zero_or_pos s.size with h0|hp
 ·exact read_empty _ s w h0
 by_cases hl:isLeaf (bt s 0)
 ·exact read_leaf k s w hp _ rfl hl
 obtain⟨n1,n2⟩:=str_ne hp
 have n3:decide (0<s.size)=true:=decide_eq_true hp
 have n4:decide (1≤s.size)=true:=decide_eq_true hp
 have n5:=eq_true hp
 have n7: ∀h:0<s.size,((s[0]'h).toNat:Int)=bt s 0:=fun h=>bt_at s 0 h
 have n6:decide ((1:Int)≤(s.size:Int))=true:=decide_eq_true (by omega);have n8:((1:Int)≤(s.size:Int))=True:=eq_true (by omega)
 have HK:=zqm (show (s.extract 1 s.size).size≤k by rw [ext_size];omega)
 have IH:=zqm ih
 by_cases hc:bt s 0=33
 ·rw [rd_neg hp hc]
  cases hrd:rdF k (s.extract 1 s.size) with
  |none=>
   have HRD:=zqm hrd
   have z97:(bt s 0==97)=false:=by rw [hc];rfl
   have z98:(bt s 0==98)=false:=by rw [hc];rfl
   have z99:(bt s 0==99)=false:=by rw [hc];rfl
   have z48:(bt s 0==48)=false:=by rw [hc];rfl
   have z49:(bt s 0==49)=false:=by rw [hc];rfl
   have q33:(bt s 0==33)=true:=by rw [hc];rfl
   clear ih hk hl hc hrd hp
   go_enter Try.func14,Try.ntmps14
   go_wp2_with (go_at_call 14;(with_reducible refine(IH.out (s.extract 1 s.size) _ HK.out).mono ?_);rintro e w2 ⟨hb,hm⟩;rw [HRD.out] at hm;obtain rfl:=hm;have HB:=zqm hb;clear hb)
   go_ret2
   exact⟨HB.out,rfl⟩
  |some fr=>
   obtain⟨f,r⟩:=fr
   have HRD:=zqm hrd
   have z97:(bt s 0==97)=false:=by rw [hc];rfl
   have z98:(bt s 0==98)=false:=by rw [hc];rfl
   have z99:(bt s 0==99)=false:=by rw [hc];rfl
   have z48:(bt s 0==48)=false:=by rw [hc];rfl
   have z49:(bt s 0==49)=false:=by rw [hc];rfl
   have q33:(bt s 0==33)=true:=by rw [hc];rfl
   clear ih hk hl hc hrd hp
   go_enter Try.func14,Try.ntmps14
   go_wp2_with (go_at_call 14;(with_reducible refine(IH.out (s.extract 1 s.size) _ HK.out).mono ?_);rintro e w2 ⟨hb,hm⟩;rw [HRD.out] at hm;obtain⟨p,rfl,hf⟩:=hm;have HB:=zqm hb;have HF:=zqm hf;clear hb hf)
   go_ret2
   have h2:=blk2 w2 (.cells #[.pointer (some ⟨p,0,none⟩)] 27) (.cells #[.int .u8 33,.slice (some ⟨w2.heap.size,0,none⟩) 1 1] 54)
   exact⟨below_alloc (below_alloc HB.out _) _,w2.heap.size+1,rfl,p,w2.heap.size,1,h2.1,(blk_cell h2.2 0).trans rfl,FAt.below (below_alloc (below_alloc (Below.refl _ _) _) _) f p HF.out⟩
 by_cases hc2:bt s 0=40
 ·rw [rd_par hp hc2]
  cases hrd:rdF k (s.extract 1 s.size) with
  |none=>
   have HRD:=zqm hrd
   have z97:(bt s 0==97)=false:=by rw [hc2];rfl
   have z98:(bt s 0==98)=false:=by rw [hc2];rfl
   have z99:(bt s 0==99)=false:=by rw [hc2];rfl
   have z48:(bt s 0==48)=false:=by rw [hc2];rfl
   have z49:(bt s 0==49)=false:=by rw [hc2];rfl
   have z33:(bt s 0==33)=false:=by rw [hc2];rfl
   have q40:(bt s 0==40)=true:=by rw [hc2];rfl
   clear ih hk hl hc hc2 hrd hp
   go_enter Try.func14,Try.ntmps14
   go_wp2_with (go_at_call 14;(with_reducible refine(IH.out (s.extract 1 s.size) _ HK.out).mono ?_);rintro e w2 ⟨hb,hm⟩;rw [HRD.out] at hm;obtain rfl:=hm;have HB:=zqm hb;clear hb)
   go_ret2
   exact⟨HB.out,rfl⟩
  |some fr=>
   obtain⟨f,r⟩:=fr
   have HRD:=zqm hrd
   have HRS:=zqm (rdF_size _ _ _ _ hrd)
   have z97:(bt s 0==97)=false:=by rw [hc2];rfl
   have z98:(bt s 0==98)=false:=by rw [hc2];rfl
   have z99:(bt s 0==99)=false:=by rw [hc2];rfl
   have z48:(bt s 0==48)=false:=by rw [hc2];rfl
   have z49:(bt s 0==49)=false:=by rw [hc2];rfl
   have z33:(bt s 0==33)=false:=by rw [hc2];rfl
   have q40:(bt s 0==40)=true:=by rw [hc2];rfl
   clear ih hk hl hc hc2 hrd
   simp only []
   by_cases hr0:r.size=0
   ·rw [if_pos hr0]
    have m1:=str_nil hr0
    have m2:(r.toList== [])=true:=by rw [m1];rfl
    have m3:r.toList.isEmpty=true:=by rw [m1];rfl
    clear hr0 hp
    go_enter Try.func14,Try.ntmps14
    go_wp2_with (go_at_call 14;(with_reducible refine(IH.out (s.extract 1 s.size) _ HK.out).mono ?_);rintro e w2 ⟨hb,hm⟩;rw [HRD.out] at hm;obtain⟨p,rfl,hf⟩:=hm;have HB:=zqm hb;have HF:=zqm hf;clear hb hf)
    go_ret2
    exact⟨HB.out,rfl⟩
   rw [if_neg hr0]
   obtain⟨m1,m2⟩:=str_ne (s:=r) (by omega)
   have m3:decide (0<r.size)=true:=decide_eq_true (by omega)
   have m4:decide (1≤r.size)=true:=decide_eq_true (by omega)
   have m5:=eq_true (show 0<r.size by omega)
   have m7: ∀h:0<r.size,((r[0]'h).toNat:Int)=bt r 0:=fun h=>bt_at r 0 h
   have m6:decide ((1:Int)≤(r.size:Int))=true:=decide_eq_true (by omega);have m8:((1:Int)≤(r.size:Int))=True:=eq_true (by omega)
   have HK2:=zqm (show (r.extract 1 r.size).size≤k by rw [ext_size];have:=HRS.out;have:=HK.out;rw [ext_size] at*;omega)
   clear hr0 hp
   by_cases ho:bt r 0=38∨bt r 0=124
   ·rw [if_pos ho]
    have HO:=zqm ho
    have o1:((bt r 0 !=38)=false∨((bt r 0 !=38)=true∧(bt r 0 !=124)=false)):=by
     rcases ho with e|e
     ·left;rw [e];rfl
     ·right;rw [e];exact⟨rfl,rfl⟩
    clear ho
    have key: ∀(o:Option (Fm × ByteArray)),rdF k (r.extract 1 r.size)=o→Calls Try.prog 14 #[.string s] w (RdPost w s (match o with
     |none=>none
     |some (g,q)=>if q.size=0 then none else if bt q 0=41 then some (.bin (bt r 0) f g,q.extract 1 q.size) else none)):=by
     intro o ho
     have HO2:=zqm ho
     clear ho
     cases o with
     |none=>
      rcases o1 with o1|⟨o1,o2⟩
      all_goals
       go_enter Try.func14,Try.ntmps14
       go_wp2_with (first|(go_at_call 14;(with_reducible refine(IH.out (s.extract 1 s.size) _ HK.out).mono ?_);rintro e w2 ⟨hb,hm⟩;rw [HRD.out] at hm;obtain⟨p,rfl,hf⟩:=hm;have HB:=zqm hb;have HF:=zqm hf;clear hb hf)|(go_at_call 14;(with_reducible refine(IH.out (r.extract 1 r.size) _ HK2.out).mono ?_);rintro e w3 ⟨hb,hm⟩;rw [HO2.out] at hm;obtain rfl:=hm;have HB3:=zqm (below_step HB.out hb);clear hb))
       go_ret2
       exact⟨HB3.out,rfl⟩
     |some gq=>
      obtain⟨g,q2⟩:=gq
      simp only []
      by_cases hq0:q2.size=0
      ·rw [if_pos hq0]
       have u1:=str_nil hq0
       have u2:(q2.toList== [])=true:=by rw [u1];rfl
       have u3:q2.toList.isEmpty=true:=by rw [u1];rfl
       clear hq0
       rcases o1 with o1|⟨o1,o2⟩
       all_goals
        go_enter Try.func14,Try.ntmps14
        go_wp2_with (first|(go_at_call 14;(with_reducible refine(IH.out (s.extract 1 s.size) _ HK.out).mono ?_);rintro e w2 ⟨hb,hm⟩;rw [HRD.out] at hm;obtain⟨p,rfl,hf⟩:=hm;have HB:=zqm hb;have HF:=zqm hf;clear hb hf)|(go_at_call 14;(with_reducible refine(IH.out (r.extract 1 r.size) _ HK2.out).mono ?_);rintro e w3 ⟨hb,hm⟩;rw [HO2.out] at hm;obtain⟨q,rfl,hf⟩:=hm;have HB3:=zqm (below_step HB.out hb);clear hb hf))
        go_ret2
        exact⟨HB3.out,rfl⟩
      rw [if_neg hq0]
      obtain⟨u1,u2⟩:=str_ne (s:=q2) (by omega)
      have u3:decide (0<q2.size)=true:=decide_eq_true (by omega)
      have u4:decide (1≤q2.size)=true:=decide_eq_true (by omega)
      have u5:=eq_true (show 0<q2.size by omega)
      have u7: ∀h:0<q2.size,((q2[0]'h).toNat:Int)=bt q2 0:=fun h=>bt_at q2 0 h
      have u6:decide ((1:Int)≤(q2.size:Int))=true:=decide_eq_true (by omega);have u8:((1:Int)≤(q2.size:Int))=True:=eq_true (by omega)
      clear hq0
      by_cases hq:bt q2 0=41
      ·rw [if_pos hq]
       have v1:(bt q2 0 !=41)=false:=by rw [hq];rfl
       clear hq
       rcases o1 with o1|⟨o1,o2⟩
       all_goals
        go_enter Try.func14,Try.ntmps14
        go_wp2_with (first|(go_at_call 14;(with_reducible refine(IH.out (s.extract 1 s.size) _ HK.out).mono ?_);rintro e w2 ⟨hb,hm⟩;rw [HRD.out] at hm;obtain⟨p,rfl,hf⟩:=hm;have HB:=zqm hb;have HF:=zqm hf;clear hb hf)|(go_at_call 14;(with_reducible refine(IH.out (r.extract 1 r.size) _ HK2.out).mono ?_);rintro e w3 ⟨hb,hm⟩;rw [HO2.out] at hm;obtain⟨q,rfl,hf⟩:=hm;have HB3:=zqm (below_step HB.out hb);have HF3:=zqm (FAt.below hb f p HF.out);have HG3:=zqm hf;clear hb hf HB HF))
        refine start_ (n:=11) (S:=(fun _=>True)) (ds:= []) (zqb 11 0) zqk rfl rfl True.intro (fun hHeld=>?_)
        refine with_tabW impl_readFormula.tab22 impl_readFormula.bits22 (fun HT_ HW_=>?_)
        generalize hwd:w3.drew=wd at hHeld ⊢
        have HB4:=zqm (show Below w.heap.size w wd from hwd ▸ below_drew1 HB3.out)
        have HFf:=zqm (show FAt wd p f from hwd ▸ FAt.below (below_drew1 (Below.refl _ _)) f p HF3.out)
        have HFg:=zqm (show FAt wd q g from hwd ▸ FAt.below (below_drew1 (Below.refl _ _)) g q HG3.out)
        clear hwd HB3 HF3 HG3
        refine zqp 0 86 (zqb 11 1) HT_ ?_
        refine zqp 1 87 (zqb 11 3) HT_ ?_
        refine zqp 2 88 (zqb 11 7) HT_ ?_
        refine zqp 3 89 (zqb 11 15) HT_ ?_
        refine zqp 7 93 (zqb 11 143) HT_ ?_
        refine zqp 8 94 (zqb 11 399) HT_ ?_
        refine one_ (i:=4) (N:=some 90) (zqb 11 415) rfl rfl (one_of HT_.out zqk) (by decide) (fun K hK=>?_)
        refine event_step (w1:=World.alloc wd (.cells #[.pointer (some ⟨p,0,none⟩),.pointer (some ⟨q,0,none⟩)] 27)) (v:= .slice (some ⟨wd.heap.size,0,none⟩) 2 2) (by rfl) ?hr1 ?_
        case hr1=>first|(go_simp;done)|(go_simp;rfl)
        have HA:=zqm (MapKept.heap_alloc wd (.cells #[.pointer (some ⟨p,0,none⟩),.pointer (some ⟨q,0,none⟩)] 27)).1
        have HB5:=zqm (below_alloc HB4.out (.cells #[.pointer (some ⟨p,0,none⟩),.pointer (some ⟨q,0,none⟩)] 27))
        have HFf5:=zqm (FAt.below (below_alloc (Below.refl _ _) (.cells #[.pointer (some ⟨p,0,none⟩),.pointer (some ⟨q,0,none⟩)] 27)) f p HFf.out)
        have HFg5:=zqm (FAt.below (below_alloc (Below.refl _ _) (.cells #[.pointer (some ⟨p,0,none⟩),.pointer (some ⟨q,0,none⟩)] 27)) g q HFg.out)
        obtain⟨ag,hag⟩: ∃ag,ag=wd.heap.size:=⟨_,rfl⟩
        rw [← hag] at HA ⊢
        generalize World.alloc wd (.cells #[.pointer (some ⟨p,0,none⟩),.pointer (some ⟨q,0,none⟩)] 27)=w5 at HA HB5 HFf5 HFg5 ⊢
        clear hag HB4 HFf HFg
        refine hK.out _ _ True.intro (fun hHeld1=>?_)
        clear hK K
        refine norm_ (a':=?_) ?_ ?_
        rotate_left
        ·show Act.put _ (some 90) _=_
         simp only [Act.put,List.setIfInBounds_toArray,List.set_cons_zero,List.set_cons_succ,i64_w,i32_w]
         rfl
        refine zqp 5 91 (zqb 11 447) HT_ ?_
        refine one_ (i:=6) (N:=some 92) (zqb 11 511) rfl rfl (one_of HT_.out zqk) (by decide) (fun K hK=>?_)
        refine box_step (cs:= #[.int .u8 (bt r 0),.slice (some ⟨ag,0,none⟩) 2 2]) (t:=54) (N:=92) (by rfl) (by rfl) ?hr2 ?_
        case hr2=>first|(go_simp;done)|(go_simp;rfl)
        intro pp hp w6 hbox hb
        have HX:=zqm hbox
        have HB6:=zqm (below_step HB5.out hb)
        have HA6:=zqm (blk_below HA.out hb)
        have HFf6:=zqm (FAt.below hb f p HFf5.out)
        have HFg6:=zqm (FAt.below hb g q HFg5.out)
        refine hK.out _ _ True.intro (fun hHeld2=>?_)
        clear hK K hbox hb hp HB5 HA HFf5 HFg5
        refine norm_ (a':=?_) ?_ ?_
        rotate_left
        ·show Act.put _ (some 92) _=_
         simp only [Act.put,List.setIfInBounds_toArray,List.set_cons_zero,List.set_cons_succ,i64_w,i32_w]
         rfl
        refine zqp 9 2 (zqb 11 1023) HT_ ?_
        refine zqp 10 3 (zqb 11 2047) HT_ ?_
        refine done_ (done_of HT_.out zqk) ?_
        go_wp2
        go_ret2
        exact⟨by repeat(first|exact HB6.out|apply pw_below_drewN|apply below_drew1),pp,rfl,p,q,ag,2,HX.out,(blk_cell HA6.out 0).trans rfl,(blk_cell HA6.out 1).trans rfl,HFf6.out,HFg6.out⟩
      ·rw [if_neg hq]
       have v1:(bt q2 0 !=41)=true:=bne_iff_ne.2 hq
       clear hq
       rcases o1 with o1|⟨o1,o2⟩
       all_goals
        go_enter Try.func14,Try.ntmps14
        go_wp2_with (first|(go_at_call 14;(with_reducible refine(IH.out (s.extract 1 s.size) _ HK.out).mono ?_);rintro e w2 ⟨hb,hm⟩;rw [HRD.out] at hm;obtain⟨p,rfl,hf⟩:=hm;have HB:=zqm hb;have HF:=zqm hf;clear hb hf)|(go_at_call 14;(with_reducible refine(IH.out (r.extract 1 r.size) _ HK2.out).mono ?_);rintro e w3 ⟨hb,hm⟩;rw [HO2.out] at hm;obtain⟨q,rfl,hf⟩:=hm;have HB3:=zqm (below_step HB.out hb);clear hb hf))
        go_ret2
        exact⟨HB3.out,rfl⟩
    exact key _ rfl
   ·rw [if_neg ho]
    have o1:(bt r 0 !=38)=true:=bne_iff_ne.2 (fun e=>ho (.inl e))
    have o2:(bt r 0 !=124)=true:=bne_iff_ne.2 (fun e=>ho (.inr e))
    clear ho
    go_enter Try.func14,Try.ntmps14
    go_wp2_with (go_at_call 14;(with_reducible refine(IH.out (s.extract 1 s.size) _ HK.out).mono ?_);rintro e w2 ⟨hb,hm⟩;rw [HRD.out] at hm;obtain⟨p,rfl,hf⟩:=hm;have HB:=zqm hb;have HF:=zqm hf;clear hb hf)
    go_ret2
    exact⟨HB.out,rfl⟩
 ·have hr:rdF (k+1) s=none:=by simp only [rdF];rw [if_neg (by omega),if_neg hl,if_neg hc,if_neg hc2]
  rw [hr]
  unfold isLeaf at hl
  have z97:(bt s 0==97)=false:=beq_eq_false_iff_ne.2 (fun e=>by simp [e] at hl)
  have z98:(bt s 0==98)=false:=beq_eq_false_iff_ne.2 (fun e=>by simp [e] at hl)
  have z99:(bt s 0==99)=false:=beq_eq_false_iff_ne.2 (fun e=>by simp [e] at hl)
  have z48:(bt s 0==48)=false:=beq_eq_false_iff_ne.2 (fun e=>by simp [e] at hl)
  have z49:(bt s 0==49)=false:=beq_eq_false_iff_ne.2 (fun e=>by simp [e] at hl)
  have z33:(bt s 0==33)=false:=beq_eq_false_iff_ne.2 (fun e=>by simp [e] at hc)
  have z40:(bt s 0==40)=false:=beq_eq_false_iff_ne.2 (fun e=>by simp [e] at hc2)
  clear ih hk hl hc hc2 hr hp
  go_enter Try.func14,Try.ntmps14
  go_wp2_with fail
  go_ret2
  exact⟨Below.refl _ _,rfl⟩
theorem formulaOf_calls (s : ByteArray) (w : World) : Calls Try.prog 11 #[.string s] w fun e w' => Below w.heap.size w w' ∧ match fmOf s with
 |none=>e= .returned (.pointer none)
 |some f=> ∃p,e= .returned (.pointer (some ⟨p,0,none⟩))∧FAt w' p f:=by
 unfold fmOf
 by_cases h:60<s.size
 ·have d1:decide ((60:Int)<(s.size:Int))=true:=decide_eq_true (by omega)
  have d2:decide (60<s.size)=true:=decide_eq_true h
  rw [if_pos h]
  clear h
  go_enter Try.func11,Try.ntmps11
  go_wp2_with fail
  go_ret
  exact⟨Below.refl _ _,rfl⟩
 ·have d1:decide ((60:Int)<(s.size:Int))=false:=decide_eq_false (by omega)
  have d2:decide (60<s.size)=false:=decide_eq_false h
  rw [if_neg h]
  have HR:=zqm (read_calls s.size s w (Nat.le_refl _))
  clear h
  generalize rdF s.size s=o at HR ⊢
  cases o with
  |none=>
   have key: ∀x:ByteArray,x=s→Calls Try.prog 11 #[.string s] w fun e w'=>Below w.heap.size w w'∧e= .returned (.pointer none):=by
    intro x hx
    by_cases h0:s.size=0
    ·have m1:=str_nil h0
     have m2:(s.toList != [])=false:=by rw [m1];rfl
     have m3:s.toList.isEmpty=true:=by rw [m1];rfl
     clear h0
     go_enter Try.func11,Try.ntmps11
     go_wp2_with (go_at_call 14;(with_reducible refine HR.out.mono ?_);rintro e w2 ⟨hb,rfl⟩;have HB:=zqm hb;clear hb)
     go_ret
     exact⟨HB.out,rfl⟩
    ·obtain⟨m1,m2⟩:=str_ne (s:=s) (by omega)
     have m3:(s.toList != [])=true:=by rw [bne,m2];rfl
     clear h0
     go_enter Try.func11,Try.ntmps11
     go_wp2_with (go_at_call 14;(with_reducible refine HR.out.mono ?_);rintro e w2 ⟨hb,rfl⟩;have HB:=zqm hb;clear hb)
     go_ret
     exact⟨HB.out,rfl⟩
   exact key _ rfl
  |some fr=>
   obtain⟨f,r⟩:=fr
   simp only []
   by_cases h0:r.size=0
   ·rw [if_pos h0]
    have m1:=str_nil h0
    have m2:(r.toList != [])=false:=by rw [m1];rfl
    have m3:r.toList.isEmpty=true:=by rw [m1];rfl
    clear h0
    go_enter Try.func11,Try.ntmps11
    go_wp2_with (go_at_call 14;(with_reducible refine HR.out.mono ?_);rintro e w2 ⟨hb,p,rfl,hf⟩;have HB:=zqm hb;have HF:=zqm hf;clear hb hf)
    go_ret
    exact⟨HB.out,p,rfl,HF.out⟩
   ·rw [if_neg h0]
    obtain⟨m1,m2⟩:=str_ne (s:=r) (by omega)
    have m3:(r.toList != [])=true:=by rw [bne,m2];rfl
    clear h0
    go_enter Try.func11,Try.ntmps11
    go_wp2_with (go_at_call 14;(with_reducible refine HR.out.mono ?_);rintro e w2 ⟨hb,p,rfl,hf⟩;have HB:=zqm hb;clear hb hf)
    go_ret
    exact⟨HB.out,rfl⟩
def impl_FormulaOk.f (a0 : ByteArray) : Option (Bool) := some (fmOf a0).isSome
theorem impl_FormulaOk.calls (a0 : ByteArray) (r : Bool) (w : World) (h : impl_FormulaOk.f a0 = some r) :
 Calls Try.prog 7 #[.string a0] w fun e w'=>e= .returned (.bool r)∧Below w.heap.size w w':=by
 have HR:=zqm (formulaOf_calls a0 w)
 simp only [impl_FormulaOk.f,Option.some.injEq] at h
 generalize fmOf a0=o at HR h
 subst h
 cases o with
 |none=>
  go_enter Try.func7,Try.ntmps7
  go_wp2_with (go_at_call 11;(with_reducible refine HR.out.mono ?_);rintro e w2 ⟨hb,rfl⟩;have HB:=zqm hb;clear hb)
  go_ret
  exact⟨rfl,HB.out⟩
 |some f=>
  go_enter Try.func7,Try.ntmps7
  go_wp2_with (go_at_call 11;(with_reducible refine HR.out.mono ?_);rintro e w2 ⟨hb,p,rfl,hf⟩;have HB:=zqm hb;clear hb hf)
  go_ret
  exact⟨rfl,HB.out⟩
end Go.Proofs.Ytipjnmbkobofbaa.Print
end
