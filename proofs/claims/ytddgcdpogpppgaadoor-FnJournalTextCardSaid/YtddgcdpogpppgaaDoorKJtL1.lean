/- Part 1 of what this is proved by: Journals are read. ReadJournal of the text, if there is one, are the deeds, and the whole text. -/
import Derived.Test.YtddgcdpogpppgaaDoorLB9
import Derived.Below
import Derived.Deep.Draws
import Derived.Deep.AppendLies
import Derived.Maps.AppendAt
import Derived.OwnWalk
import Derived.Laws.BytesArg
import Derived.Laws.MakeOwn
import Derived.Laws.OwnMore
import Derived.Deep.OwnRows
import Derived.Tactics
import Derived.Lib.ConvBytes
import Derived.Laws.Slices
import Derived.WalkKit
import Derived.KernelRfl
import Derived.RowKit3
import Derived.Deep.LoopGhost
import Derived.Deep.QuietTactic
import Derived.BigQuiet
import Derived.WideLaws
import Derived.Deep.DeepCutAuto
import Derived.Deep.CutBlock
import Derived.Deep.RegionHeld3
import Derived.Laws.Rows
import Derived.Lib.AppendStr
import Derived.ArgAppend
import Derived.Laws.IdiomCopy
import Derived.RowKit
import Derived.Test.YtddgcdpogpppgaaDoorProg
import Derived.OrdersHeld
import Derived.Laws.BitsLemmas
import Derived.Shelf.Utf8.RuneCount
import Derived.Shelf.Strconv.Atoi
import Derived.Shelf.Strconv.Itoa0
import Derived.Shelf.Strconv.Itoa1
import Derived.Shelf.LaysM
import Derived.Shelf.Strconv.Itoa2
import Derived.Shelf.Strconv.Itoa3
import Derived.Shelf.Strconv.AtoiErrFast
import Derived.Shelf.Strconv.ParseIntEmpty
import Derived.Shelf.Strconv.AtoiFail
import Derived.Shelf.Strconv.Clone
import Derived.Shelf.Strconv.SyntaxError
import Derived.Shelf.LaysC
import Derived.Shelf.Strconv.ToError
import Derived.Shelf.Strconv.Lower
import Derived.Shelf.Strconv.ParseUint10
import Derived.Shelf.Strconv.ParseUint10Empty
import Derived.Shelf.Strconv.ParseUint10Any
import Derived.Shelf.Strconv.ParseInt10
import Derived.Shelf.Strconv.AtoiLong
import Derived.Shelf.Strconv.AtoiInnerAll
import Derived.Shelf.Strconv.RangeError
import Derived.Shelf.Strconv.ToErrorRange
import Derived.Shelf.Strconv.AtoiAll
import Derived.Shelf.Strconv.ErrVarAll
import Derived.Shelf.Strings.Search1
import Derived.Shelf.Strings.Search2
import Derived.Shelf.Strings.Search3
import Derived.Shelf.Strings.Cut
import Derived.Shelf.Strings.Count
import Derived.Shelf.Strings.Shaped
import Derived.Shelf.Strings.Split
import Derived.Shelf.Strings.SplitShaped
import Derived.Shelf.Unicode.Decode
import Derived.Shelf.Strings.RuneCount
import Derived.Shelf.Strings.Explode
import Derived.Shelf.Unicode.DecodeSlow
import Derived.Shelf.Unicode.DecodeAny
import Derived.Shelf.Slices.Turned
set_option linter.all false
section
namespace Go.Proofs.YtddgcdpogpppgaaDoorW.PrintWords
open Go.RowKit
section
theorem keep_cell {w W : World} {g : Nat} (h : KeepBut w W g none) {a : Addr} {v : Value} (hc : w.cell? a = some v) (hne : a.block ≠ g) : W.cell? a = some v := by
 have := h.2 a.block (World.block_lt_of_cell? w a hc) hne (by simp)
 simpa [World.cell?, this] using hc
theorem add_block (a : Addr) (i : Nat) : (a.add i).block = a.block := by unfold Addr.add; split <;> rfl
theorem ReadsOf.keep {α : Type} {enc : α → Value} {d : α} {w W : World} {A : Option Addr} {n g : Nat} {xs : List α} (h : ReadsOf enc d w A n xs) (hk : KeepBut w W g none) (hf : ∀ ad, A = some ad → 0 < n → ad.block ≠ g) : ReadsOf enc d W A n xs :=
 ⟨h.1, h.2.1, fun hn => by
  obtain⟨ad,e,hc⟩:=h.2.2 hn
  exact⟨ad,e,fun j hj=>keep_cell hk (hc j hj) (by rw [add_block];exact hf ad e hn)⟩⟩
namespace Kd
section
variable {α : Type} {enc : α → Value} {h1 : ∀ x, (enc x).oneCell' = true} {w W : World} {A : Option Addr} {n g : Nat} {xs : List α}
theorem C_keep (d : α) (h : (scalar enc h1).C w A n xs) (hk : KeepBut w W g none) (hf : ∀ ad, A = some ad → 0 < n → ad.block ≠ g) : (scalar enc h1).C W A n xs := C_of_reads (ReadsOf.keep (reads_of_C (d := d) h) hk hf)
end
end Kd
namespace Kd
section
variable {α : Type} {d : Kd α} {e base g : Nat} {ok : Nat → Prop} {w w1 : World} {v : Value} {xs : List α} {o : Obj}
theorem R_elderB (h : d.R e w base ok v xs) (a : Nat) (ha : w.heap.size ≤ a) : d.R e w base (fun k => ok k ∧ k ≠ a) v xs := R_mono (R_bound h) (fun k hk => ⟨hk.1, by have := hk.2.2.1; omega⟩)
end
end Kd
end
section
namespace Kd
section
variable {α : Type} {d : Kd α} {e base g n c : Nat} {ok : Nat → Prop} {w w0 W : World} {A : Option Addr} {xs : List α}
theorem C_foot_step (h : ∀ W', KeepBut w W' g none → d.C W' A n xs) (hk : KeepBut w W g none) : ∀ W', KeepBut W W' g none → d.C W' A n xs := fun W' hk' => h W' (hk.trans hk' (.inl rfl))
end
end Kd
end
end Go.Proofs.YtddgcdpogpppgaaDoorW.PrintWords
end
section
namespace Go.Proofs.YtddgcdpogpppgaaDoorW.PrintMore
open Go.RowKit Go.Proofs.YtddgcdpogpppgaaDoorW.PrintWords
namespace Kd
open Go.Proofs.YtddgcdpogpppgaaDoorW.PrintWords.Kd
section
variable {α : Type} {d : Kd α} {e base g N : Nat} {ok : Nat → Prop} {W w1 : World} {u v : Value} {xs : List α}
theorem R_oldK (hu : d.R e W base (fun k => ok k ∧ k ≠ g) u xs) (hk : KeepBut W w1 g none) : d.R e w1 base (fun k => ok k ∧ k < W.heap.size) u xs :=
 R_mono (R_keep (R_bound hu) hk (fun _ h => h.1.2)) (fun _ h => ⟨h.1.1, h.2.2.1⟩)
theorem R_told (h : d.R e w1 base (fun k => ok k ∧ k < N) u xs) (hbase : ∀ k, v.ownBlock = some k → N ≤ k) : d.R e w1 base (fun k => (ok k ∧ some k ≠ v.ownBlock) ∧ k < N) u xs :=
 R_mono h (fun k hk => ⟨⟨hk.1, fun e => Nat.lt_irrefl _ (Nat.lt_of_lt_of_le hk.2 (hbase k e.symm))⟩, hk.2⟩)
end
end Kd
end Go.Proofs.YtddgcdpogpppgaaDoorW.PrintMore

end
section
namespace Go.Proofs.YtddgcdpogpppgaaDoor
section
variable {p : Prop}
open Go.RowKit Go.Proofs.YtddgcdpogpppgaaDoorW.PrintWords Go.Proofs.YtddgcdpogpppgaaDoorW.PrintLast
theorem zq31 (h:p:=by repeat(first|(with_reducible first|exact HK.out|apply KeepBut.set_|apply keep_drewN|apply keep_drew|apply keep_alloc|refine keep_far ?_ a4.out _)|exact HK.out)):p:=h
theorem zq35 (h:p:=by repeat(first|(with_reducible first|exact a0.out|apply IsS78.alloc|apply IsS78.drewN|apply IsS78.drew|apply IsS78.set_1|refine IsS78.far ?_ a2.out _)|exact a0.out)):p:=h
theorem zq36 (h:p:=by repeat(first|(with_reducible first|exact HB.out|apply below_alloc|apply pw_below_drewN|apply below_drew1|refine below_set ?_ (IsS78.ge a0.out)|refine below_set ?_ a6.out)|exact HB.out)):p:=h
theorem zq124 (h:p:=by rw [← HJ2.out.1,List.append_nil];refine zqfR ?_;exact Kd.R_mono HO.out (fun _ _=>trivial)):p:=h
theorem zq131 (h:p:=by repeat(first|exact HB2.out|apply below_alloc|apply pw_below_drewN|apply below_drew1)):p:=h
end
end Go.Proofs.YtddgcdpogpppgaaDoor
end
section
namespace Go.Proofs
open Go.Shelf
section
def Tryd.lays145_ren : Go.Shelf.Ren := ⟨fun | 145 => 39 | 220 => 53 | 219 => 69 | 217 => 81 | 225 => 82 | 224 => 83 | 267 => 84 | 266 => 93 | 314 => 94 | n => n, fun | 9 => 9 | 4 => 4 | 59 => 59 | 3 => 3 | 5 => 5 | 46 => 105 | 146 => 120 | 51 => 112 | n => n, fun | 1 => 3 | n => n⟩
theorem Tryd.lays145 : Go.Proofs.Lays.n145 Tryd.prog Tryd.lays145_ren := {
  mixed := by kernel_rfl
  f145 := Tryd.func39.trans (congrArg some (by kernel_rfl))
  f217 := Tryd.func81.trans (congrArg some (by kernel_rfl))
  f219 := Tryd.func69.trans (congrArg some (by kernel_rfl))
  f220 := Tryd.func53.trans (congrArg some (by kernel_rfl))
  f224 := Tryd.func83.trans (congrArg some (by kernel_rfl))
  f225 := Tryd.func82.trans (congrArg some (by kernel_rfl))
  f266 := Tryd.func93.trans (congrArg some (by kernel_rfl))
  f267 := Tryd.func84.trans (congrArg some (by kernel_rfl))
  f314 := Tryd.func94.trans (congrArg some (by kernel_rfl))
  t3 := Tryd.underlying3
  a3 := Tryd.isAgg3
  z3 := Tryd.sizeOf3
  v3 := Tryd.zeroValue3
  t4 := Tryd.underlying4
  a4 := Tryd.isAgg4
  z4 := Tryd.sizeOf4
  v4 := Tryd.zeroValue4
  t5 := Tryd.underlying5
  a5 := Tryd.isAgg5
  z5 := Tryd.sizeOf5
  v5 := Tryd.zeroValue5
  t9 := Tryd.underlying9
  a9 := Tryd.isAgg9
  z9 := Tryd.sizeOf9
  v9 := Tryd.zeroValue9
  t46 := Tryd.underlying105
  a46 := Tryd.isAgg105
  z46 := Tryd.sizeOf105
  v46 := Tryd.zeroValue105
  t51 := Tryd.underlying112
  a51 := Tryd.isAgg112
  z51 := Tryd.sizeOf112
  v51 := Tryd.zeroValue112
  t59 := Tryd.underlying59
  a59 := Tryd.isAgg59
  z59 := Tryd.sizeOf59
  v59 := Tryd.zeroValue59
  t146 := Tryd.underlying120
  a146 := Tryd.isAgg120
  z146 := Tryd.sizeOf120
  v146 := Tryd.zeroValue120
  g1 := by kernel_rfl }
open Go.RowKit Go.Lib in
theorem Tryd.strings_Cut (s sep : ByteArray) (m : Int) (w : World) (hs : s.size < 4294967281) (hm : w.cell? ⟨3, 0, none⟩ = some (.int .i64 m)) :
    Calls Tryd.prog 39 #[.string s, .string sep] w fun e w' => e = .returned (.tuple #[.string ⟨(Lib.cut s.data.toList sep.data.toList).1.toArray⟩, .string ⟨(Lib.cut s.data.toList sep.data.toList).2.1.toArray⟩, .bool (Lib.cut s.data.toList sep.data.toList).2.2]) ∧ ∃ n, w' = w.drewN n := Any.strings_Cut Tryd.lays145 s sep m w hs hm
end
end Go.Proofs
end
section
namespace Go.Proofs.YtddgcdpogpppgaaDoor.Print
open Go.RowKit Go.Proofs.YtddgcdpogpppgaaDoorW.PrintWords Go.Proofs.YtddgcdpogpppgaaDoorW.PrintLast Go.Proofs.YtddgcdpogpppgaaDoorW.PrintMore
def spec_JournalText.l0 : Nat → List (S25) → ByteArray → Int → Option (ByteArray)
 | 0, _, _, _ => none
 | k + 1, x0, x3, x4 => if x4 < (x0.length : Int) then (if 0 ≤ x4 then ((spec_DeedText.f k ((rd_T25 x0 x4).f0) ((rd_T25 x0 x4).f1) ((rd_T25 x0 x4).f2)).bind fun t151 => (if t151.toList = ([] : List UInt8) then (some (⟨#[]⟩ : ByteArray)) else ((spec_DeedText.f k ((rd_T25 x0 x4).f0) ((rd_T25 x0 x4).f1) ((rd_T25 x0 x4).f2)).bind fun t153 => (if x3.size + t153.size ≤ 9223372036854775807 then (if (x3 ++ t153).size + 1 ≤ 9223372036854775807 then (spec_JournalText.l0 k x0 ((x3 ++ t153) ++ (⟨#[10]⟩ : ByteArray)) (wrap64 (x4 + 1))) else (none)) else (none))))) else (none)) else (some x3)
def spec_JournalText.f (k : Nat) (l0 : List (S25)) : Option (ByteArray) := spec_JournalText.l0 k l0 (⟨#[]⟩ : ByteArray) 0
set_option maxHeartbeats 8000000 in
set_option maxRecDepth 100000 in
theorem spec_JournalText.calls (k : Nat) (A0 : Option Addr) (c0 : Nat) (l0 : List (S25)) (r : ByteArray) (w : World) (hr0 : Kd.C k25 w A0 l0.length l0) (hc0 : l0.length ≤ c0) (h : spec_JournalText.f k l0 = some r) :
  Calls Tryd.prog 14 #[.slice A0 l0.length c0] w fun e w' => e = .returned (.string r) ∧ Below w.heap.size w w' := by
 have hu25:=Tryd.underlying25;have b6:=zqm hr0;have d9:=zqm hc0;clear hr0 hc0;have HB:=zqm (Below.refl w.heap.size w);have H:(spec_JournalText.l0 k l0 (⟨#[]⟩:ByteArray) 0)=some r:=h;clear h;have H':=zqm H;clear H
 go_enter Tryd.func14,Tryd.ntmps14
 go_wp2
 go_loopg [3,4] k (fun kq v3 v4 w'=> ∃(a4:ByteArray) (a0:Int),v3= .string a4∧v4= .int .i64 a0∧Aside0 (spec_JournalText.l0 kq l0 a4 a0=some r)∧Aside0 (kq≤k)∧Aside0 (Below w.heap.size w w'))
 case atStart=>exact⟨((⟨#[]⟩:ByteArray)),(0),zq15,zq15,H',⟨Nat.le_refl _⟩,⟨zq5⟩⟩
 case round=>
  clear H';(try clear c1);obtain⟨a4,a0,rfl,rfl,HA,c4,HB⟩:=hrel
  cases gk with
  |zero=>exact absurd HA.out (by simp [spec_JournalText.l0])
  |succ k1=>
   have H:=HA.out;clear HA;simp only [spec_JournalText.l0] at H
   by_cases c2:a0<(l0.length:Int)
   ·rw [if_pos c2] at H;have c6:decide (a0<(l0.length:Int))=true:=decide_eq_true c2;clear c2
    by_cases c3:0≤a0
    ·rw [if_pos c3] at H;have d2:decide (0≤a0)=true:=decide_eq_true c3;clear c3;replace H:=Option.bind_eq_some_iff.mp H;obtain⟨a8,b8,H⟩:=H;(try dsimp only at H);have A4:=zqm b8;clear b8
     by_cases c5:a8.toList=([]:List UInt8)
     ·rw [if_pos c5] at H;have c7:(a8.toList==([]:List UInt8))=true:=beq_iff_eq.mpr c5;have d0:(a8.toList !=([]:List UInt8))=false:=bne_eq_false_iff_eq.mpr c5;clear c5;obtain rfl:=Option.some.inj H;have a6:0≤(a0:Int):=zqo;have a7:a0<(l0.length:Int):=zqo;obtain⟨b5,b2,a1,a2,a3⟩:=at_T25 b6.out a0 a6 a7
      cases b2
      replace a1:=(HB.out.cell (World.block_lt_of_cell? w _ a1)).trans a1;replace a2:=(HB.out.cell (World.block_lt_of_cell? w _ a2)).trans a2;replace a3:=(HB.out.cell (World.block_lt_of_cell? w _ a3)).trans a3;replace a6:=eq_true a6;replace a7:=eq_true a7
      go_wp2_with (first|((with_reducible refine gate_callee (f:=10) rfl ?_);refine goesL_ (some 15) rfl rfl Tryd.func10 zqk rfl #[.agg #[.int .i64 ((rd_T25 l0 a0).f0),.int .i64 ((rd_T25 l0 a0).f1),.int .i64 ((rd_T25 l0 a0).f2)]] rfl zq2 ?_;(with_reducible refine(spec_DeedText.calls k1 ((rd_T25 l0 a0).f0) ((rd_T25 l0 a0).f1) ((rd_T25 l0 a0).f2) a8 _ A4.out).mono ?_);rintro e w6 ⟨rfl,hb⟩;refine⟨_,rfl,?_⟩;replace HB:=zqm (below_step zq5 hb);clear hb))
      go_ret
      exact⟨zq23,zq5⟩
     ·rw [if_neg c5] at H;have c7:(a8.toList==([]:List UInt8))=false:=beq_eq_false_iff_ne.mpr c5;have d0:(a8.toList !=([]:List UInt8))=true:=bne_iff_ne.mpr c5;replace H:=Option.bind_eq_some_iff.mp H;obtain⟨a5,b9,H⟩:=H;(try dsimp only at H);have A7:=zqm b9;clear b9
      by_cases c8:a4.size+a5.size≤9223372036854775807
      ·rw [if_pos c8] at H;have d3:=eq_true c8;have d4:decide (a4.size+a5.size≤9223372036854775807)=true:=decide_eq_true c8;try have d5:(9223372036854775807<a4.size+a5.size)=False:=eq_false (Nat.not_lt.2 c8)
       by_cases c9:(a4 ++ a5).size+1≤9223372036854775807
       ·rw [if_pos c9] at H;have d6:=eq_true c9;have d7:decide ((a4 ++ a5).size+1≤9223372036854775807)=true:=decide_eq_true c9;(try have d8:(9223372036854775807<(a4 ++ a5).size+1)=False:=eq_false (Nat.not_lt.2 c9));(try have c9bs:(9223372036854775807<a4.size+a5.size+1)=False:=eq_false (by have h_:=c9;rw [ByteArray.size_append] at h_;omega));have H':=zqm H;clear H;have a6:0≤(a0:Int):=zqo;have a7:a0<(l0.length:Int):=zqo;obtain⟨b5,b2,a1,a2,a3⟩:=at_T25 b6.out a0 a6 a7
        cases b2
        replace a1:=(HB.out.cell (World.block_lt_of_cell? w _ a1)).trans a1;replace a2:=(HB.out.cell (World.block_lt_of_cell? w _ a2)).trans a2;replace a3:=(HB.out.cell (World.block_lt_of_cell? w _ a3)).trans a3;replace a6:=eq_true a6;replace a7:=eq_true a7
        go_wp2_with (first|((with_reducible refine gate_callee (f:=10) rfl ?_);refine goesL_ (some 15) rfl rfl Tryd.func10 zqk rfl #[.agg #[.int .i64 ((rd_T25 l0 a0).f0),.int .i64 ((rd_T25 l0 a0).f1),.int .i64 ((rd_T25 l0 a0).f2)]] rfl zq2 ?_;(with_reducible refine(spec_DeedText.calls k1 ((rd_T25 l0 a0).f0) ((rd_T25 l0 a0).f1) ((rd_T25 l0 a0).f2) a8 _ A4.out).mono ?_);rintro e e0 ⟨rfl,hb⟩;refine⟨_,rfl,?_⟩;replace HB:=zqm (below_step zq5 hb);clear hb;have b3:0≤(a0:Int):=zqo;have b4:a0<(l0.length:Int):=zqo;obtain⟨b7,d1,a9,b0,b1⟩:=at_T25 b6.out a0 b3 b4;obtain rfl:b5=b7:=(by injection d1);replace a9:=(HB.out.cell (World.block_lt_of_cell? w _ a9)).trans a9;replace b0:=(HB.out.cell (World.block_lt_of_cell? w _ b0)).trans b0;replace b1:=(HB.out.cell (World.block_lt_of_cell? w _ b1)).trans b1;replace b3:=eq_true b3;replace b4:=eq_true b4)|((with_reducible refine gate_callee (f:=10) rfl ?_);refine goesL_ (some 22) rfl rfl Tryd.func10 zqk rfl #[.agg #[.int .i64 ((rd_T25 l0 a0).f0),.int .i64 ((rd_T25 l0 a0).f1),.int .i64 ((rd_T25 l0 a0).f2)]] rfl zq2 ?_;(with_reducible refine(spec_DeedText.calls k1 ((rd_T25 l0 a0).f0) ((rd_T25 l0 a0).f1) ((rd_T25 l0 a0).f2) a5 _ A7.out).mono ?_);rintro e e1 ⟨rfl,hb⟩;refine⟨_,rfl,?_⟩;replace HB:=zqm (below_step zq5 hb);clear hb))
        go_roundg k1
        (case measure=>have:=c4.out;omega);case rel=>exact⟨((a4 ++ a5) ++ (⟨#[10]⟩:ByteArray)),(wrap64 (a0+1)),zq15,zq15,H',⟨by have:=c4.out;omega⟩,⟨zq5⟩⟩
       ·rw [if_neg c9] at H;exact absurd H (by simp)
      ·rw [if_neg c8] at H;exact absurd H (by simp)
    ·rw [if_neg c3] at H;exact absurd H (by simp)
   ·rw [if_neg c2] at H;have c6:decide (a0<(l0.length:Int))=false:=decide_eq_false c2;clear c2;obtain rfl:=Option.some.inj H
    go_wp2
    go_ret
    exact⟨zq23,zq5⟩
end Go.Proofs.YtddgcdpogpppgaaDoor.Print
end
section
namespace Go.Proofs.YtddgcdpogpppgaaDoor.Print
open Go.RowKit Go.Proofs.YtddgcdpogpppgaaDoorW.PrintWords Go.Proofs.YtddgcdpogpppgaaDoorW.PrintLast Go.Proofs.YtddgcdpogpppgaaDoorW.PrintMore
open Oml
def dT (x : S25) : ByteArray := deedT x.f0 x.f1 x.f2
def dOk (x : S25) : Bool := deedV x.f0 x.f1 x.f2
def lineT (x : S25) : ByteArray := dT x ++ ⟨#[10]⟩
def jouB (l : List S25) (i : Nat) : ByteArray := (l.take i).foldl (fun s x => s ++ lineT x) ⟨#[]⟩
def jouT (l : List S25) : ByteArray := if l.all dOk = true then jouB l l.length else ⟨#[]⟩
theorem ba_assoc (a b c : ByteArray) : (a ++ b) ++ c = a ++ (b ++ c) := by apply ByteArray.ext; simp [ByteArray.data_append]
theorem rdT_nat (l : List S25) (i : Nat) : rd_T25 l (i : Int) = l.getD i z25 := by simp [rd_T25]
theorem dT_nil (x : S25) : (dT x).toList = [] ↔ dOk x = false := by
 rw [ba_toList]
 constructor
 ·intro h
  cases hv:dOk x with
  |false=>rfl
  |true=>exact absurd (show deedT x.f0 x.f1 x.f2=⟨#[]⟩ from ba_ext (show (dT x).data.toList=_ by rw [h])) (deedT_ne.2 hv)
 ·intro h
  unfold dT deedT
  unfold dOk at h
  rw [h,if_neg (by simp)]
theorem dT_size (x : S25) : (dT x).size ≤ 10 := deedT_size _ _ _
theorem lineT_size (x : S25) : (lineT x).size ≤ 11 := by
 have h := dT_size x
 unfold lineT
 rw [ByteArray.size_append]
 have : (⟨#[10]⟩ : ByteArray).size = 1 := rfl
 omega
theorem fold_size (l : List S25) (s : ByteArray) : (l.foldl (fun s x => s ++ lineT x) s).size ≤ s.size + 11 * l.length := by
 induction l generalizing s with
 |nil=>simp
 |cons x l ih=>
  have h1:=ih (s ++ lineT x)
  have h2:=lineT_size x
  rw [ByteArray.size_append] at h1
  rw [List.foldl_cons,List.length_cons]
  omega
theorem jouB_size (l : List S25) (i : Nat) : (jouB l i).size ≤ 11 * i := by
 have h:=fold_size (l.take i) ⟨#[]⟩
 have h2:(l.take i).length≤i:=by rw [List.length_take];omega
 have h3:(⟨#[]⟩:ByteArray).size=0:=rfl
 unfold jouB
 omega
theorem jouB_succ {l : List S25} {i : Nat} (hi : i < l.length) : jouB l (i + 1) = jouB l i ++ lineT (l.getD i z25) := by
 unfold jouB
 rw [List.take_add_one,List.foldl_append,List.getElem?_eq_getElem hi,List.getD_eq_getElem?_getD,List.getElem?_eq_getElem hi]
 rfl
theorem jouT_yes {l : List S25} (h : ∀ j, j < l.length → dOk (l.getD j z25) = true) : jouT l = jouB l l.length := by
 unfold jouT
 rw [if_pos]
 rw [List.all_eq_true]
 intro x hx
 obtain⟨j,hj,rfl⟩:=List.mem_iff_getElem.1 hx
 have:=h j hj
 rwa [List.getD_eq_getElem?_getD,List.getElem?_eq_getElem hj] at this
theorem jouT_no {l : List S25} {j : Nat} (hj : j < l.length) (h : dOk (l.getD j z25) = false) : jouT l = ⟨#[]⟩ := by
 unfold jouT
 rw [if_neg]
 rw [List.all_eq_true]
 intro h2
 have:=h2 (l[j]) (List.getElem_mem hj)
 rw [List.getD_eq_getElem?_getD,List.getElem?_eq_getElem hj] at h
 exact absurd (this.symm.trans h) (by simp)
theorem spec_JournalText.ev (l : List S25) (hl : l.length ≤ 1048576) : Ev (fun k => spec_JournalText.f k l) (jouT l) := by
 have key: ∀d i,i+d=l.length→(∀j,j<i→dOk (l.getD j z25)=true)→Ev (fun k=>spec_JournalText.l0 k l (jouB l i) (i:Int)) (jouT l):=by
  intro d
  induction d with
  |zero=>
   intro i hi h
   obtain rfl:i=l.length:=by omega
   refine Ev.succ ?_
   simp only [spec_JournalText.l0]
   exact Ev.ite_neg (by omega) (Ev.eq (Ev.now _) (jouT_yes h).symm)
  |succ d ih=>
   intro i hi h
   have hlt:i<l.length:=by omega
   refine Ev.succ ?_
   simp only [spec_JournalText.l0,rdT_nat]
   rw [wrap_nat (show i<4611686018427387904 by omega)]
   refine Ev.ite_pos (by omega) (Ev.ite_pos (by omega) (Ev.bind (spec_DeedText.ev _ _ _) ?_))
   have hd:deedT (l.getD i z25).f0 (l.getD i z25).f1 (l.getD i z25).f2=dT (l.getD i z25):=rfl
   rw [hd]
   have hb:=jouB_size l i
   have ht:=dT_size (l.getD i z25)
   cases ho:dOk (l.getD i z25) with
   |false=>exact Ev.ite_pos ((dT_nil _).2 ho) (Ev.eq (Ev.now _) (jouT_no hlt ho).symm)
   |true=>
    refine Ev.ite_neg (fun e=>by rw [(dT_nil _).1 e] at ho;exact absurd ho (by simp)) (Ev.bind (spec_DeedText.ev _ _ _) ?_)
    rw [hd]
    refine Ev.ite_pos (by omega) (Ev.ite_pos (by rw [ByteArray.size_append];omega) ?_)
    have e:(jouB l i ++ dT (l.getD i z25)) ++ (⟨#[10]⟩:ByteArray)=jouB l (i+1):=by rw [jouB_succ hlt,ba_assoc];rfl
    rw [e]
    exact ih (i+1) (by omega) fun j hj=>by
     by_cases e2:j=i
     ·rw [e2];exact ho
     ·exact h j (by omega)
 unfold spec_JournalText.f
 exact key l.length 0 (by omega) (fun j hj=>absurd hj (by omega))
theorem idc_pre (x : UInt8) (q : List UInt8) : ∀ (p : List UInt8), x ∉ p → Lib.index (p ++ x :: q) [x] = (p.length : Int) := by
 intro p
 rw [Lib.index_one]
 induction p with
 |nil=>intro _;simp [Lib.indexByte]
 |cons c r ih=>
  intro h
  have h1: ¬c=x:=fun e=>h (by rw [e];exact List.mem_cons_self)
  have h2:=ih (fun e=>h (List.mem_cons_of_mem _ e))
  rw [List.cons_append,Lib.indexByte,if_neg (by simpa using h1),h2,if_neg (by rw [beq_iff_eq];omega),List.length_cons]
  omega
theorem idc_none (x : UInt8) : ∀ (p : List UInt8), x ∉ p → Lib.index p [x] = -1 := by
 intro p
 rw [Lib.index_one]
 induction p with
 |nil=>intro _;simp [Lib.indexByte]
 |cons c r ih=>
  intro h
  have h1: ¬c=x:=fun e=>h (by rw [e];exact List.mem_cons_self)
  rw [Lib.indexByte,if_neg (by simpa using h1),ih (fun e=>h (List.mem_cons_of_mem _ e)),if_pos (by rfl)]
def dS (s : ByteArray) : S25 := ⟨(rdD s).1, (rdD s).2.1, (rdD s).2.2.1⟩
def okS (s : ByteArray) : Bool := (rdD s).2.2.2
def jrn : List UInt8 → List UInt8 → List S25 × Nat
 |_,[]=>([],0)
 |cur,c :: r=>if c=10 then(if okS ⟨cur.toArray⟩=true then(dS ⟨cur.toArray⟩ :: (jrn [] r).1,cur.length+1+(jrn [] r).2) else([],0)) else jrn (cur ++ [c]) r
theorem jrn_none : ∀ (p cur : List UInt8), (10 : UInt8) ∉ p → jrn cur p = ([], 0)
 | [],cur,_=>by rw [jrn]
 |c :: r,cur,h=>by
  have h1: ¬c=10:=fun e=>h (by rw [e];exact List.mem_cons_self)
  rw [jrn,if_neg h1,jrn_none r _ (fun e=>h (List.mem_cons_of_mem _ e))]
theorem jrn_pre (q : List UInt8) : ∀ (p cur : List UInt8), (10 : UInt8) ∉ p → jrn cur (p ++ 10 :: q) = if okS ⟨(cur ++ p).toArray⟩ = true then (dS ⟨(cur ++ p).toArray⟩ :: (jrn [] q).1, (cur ++ p).length + 1 + (jrn [] q).2) else ([], 0)
 | [],cur,_=>by rw [List.nil_append,jrn,if_pos rfl,List.append_nil]
 |c :: r,cur,h=>by
  have h1: ¬c=10:=fun e=>h (by rw [e];exact List.mem_cons_self)
  rw [List.cons_append,jrn,if_neg h1,jrn_pre q r _ (fun e=>h (List.mem_cons_of_mem _ e)),List.append_assoc];rfl
def rdJ (s : ByteArray) : List S25 × Int := ((jrn [] s.data.toList).1, ((jrn [] s.data.toList).2 : Int))
end Go.Proofs.YtddgcdpogpppgaaDoor.Print
end
section
namespace Go.Proofs.YtddgcdpogpppgaaDoor.Print
open Go.RowKit Go.Proofs.YtddgcdpogpppgaaDoorW.PrintWords Go.Proofs.YtddgcdpogpppgaaDoorW.PrintLast Go.Proofs.YtddgcdpogpppgaaDoorW.PrintMore
def spec_l20Deeds.l0 : Nat → List (S25) → Int → List Int → Int → List (List Int) → List Int → Option ((List (S25)) × Int)
 | 0, _, _, _, _, _, _ => none
 | k + 1, x5, x6, x1000, x1001, x650000, x650001 => if x6 > 0 then ((spec_l20Deed.f k x1000 x1001 x650000 x650001).bind fun bt655 => (if x5.length < 5864062014805 then (spec_l20Deeds.l0 k (x5 ++ [(⟨bt655.1, bt655.2.1, bt655.2.2.1⟩ : S25)]) (wrap64 (x6 - 1)) x1000 bt655.2.2.2 x650000 x650001) else (none))) else (some (x5, x1001))
def spec_l20Deeds.f (k : Nat) (s0_0 : List Int) (s0_1 : Int) (l1_0 : List (List Int)) (l1_1 : List Int) : Option ((List (S25)) × Int) := (spec_l20Rd_pick.f k s0_0 s0_1 6).bind fun bt653 => (spec_l20Deeds.l0 k (([] : List (S25))) bt653.1 s0_0 bt653.2 l1_0 l1_1)
set_option maxHeartbeats 8000000 in
set_option maxRecDepth 100000 in
theorem spec_l20Deeds.calls (k : Nat) (g : Nat) (s0_0 : List Int) (s0_1 : Int) (A1_0 : Option Addr) (c1_0 : Nat) (l1_0 : List (List Int)) (A1_1 : Option Addr) (c1_1 : Nat) (l1_1 : List Int) (r1 : List (S25)) (r2 : Int) (w0 w : World) (hI : IsS78 w0 w g s0_0 s0_1) (hB : Below w0.heap.size w0 w) (hr1_0 : ∀ W_, KeepBut w W_ g none → Kd.C (Kd.slice 3 (Kd.int .i64)) W_ A1_0 l1_0.length l1_0) (hc1_0 : l1_0.length ≤ c1_0) (hr1_1 : Kd.C (Kd.int .i64) w A1_1 l1_1.length l1_1) (hc1_1 : l1_1.length ≤ c1_1) (hf1_1 : ∀ ad, A1_1 = some ad → 0 < l1_1.length → ad.block ≠ g) (h : spec_l20Deeds.f k s0_0 s0_1 l1_0 l1_1 = some (r1, r2)) :
  Calls Tryd.prog 59 #[.pointer (some ⟨g, 0, none⟩), .agg #[.slice A1_0 l1_0.length c1_0, .slice A1_1 l1_1.length c1_1]] w fun e w' => ∃ v0_ : Value, e = .returned (v0_) ∧ Kd.R k25 25 w' w.heap.size (fun _ => True) v0_ r1 ∧ IsS78 w0 w' g s0_0 r2 ∧ Below w0.heap.size w0 w' ∧ KeepBut w w' g none := by
 have hu68:=Tryd.underlying68;have d0:=zqm hr1_0;have c6:=zqm hc1_0;clear hr1_0 hc1_0;have d1:=zqm hr1_1;have c7:=zqm hc1_1;clear hr1_1 hc1_1;have a0:=zqm hI;have HK:=zqm (KeepBut.refl w g none);have HL:=zqm hB.size;clear hI;have e2:=zqm hB.size;have HB:=zqm hB;clear hB;have H:((spec_l20Rd_pick.f k s0_0 s0_1 6).bind fun a9=>(spec_l20Deeds.l0 k (([]:List (S25))) a9.1 s0_0 a9.2 l1_0 l1_1))=some (r1,r2):=h;clear h;obtain⟨c2,b6⟩: ∃y_:List (S25),y_=(([]:List (S25))):=⟨_,rfl⟩;replace H:((spec_l20Rd_pick.f k s0_0 s0_1 6).bind fun a9=>(spec_l20Deeds.l0 k c2 a9.1 s0_0 a9.2 l1_0 l1_1))=some (r1,r2):=zqy b6 H;have c3:=zqm b6;clear b6;replace H:=Option.bind_eq_some_iff.mp H;obtain⟨⟨c0,c1⟩,d3,H⟩:=H;replace H:(spec_l20Deeds.l0 k c2 c0 s0_0 c1 l1_0 l1_1)=some (r1,r2):=H;have A3:=zqm d3;clear d3;have H':=zqm H;clear H
 go_enter Tryd.func59,Tryd.ntmps59
 go_wp2_with (first|((with_reducible refine gate_dst (N:=3) rfl ?_);refine box_event ?hg (N:=3) ?hd (cs:= #[.slice A1_0 l1_0.length c1_0,.slice A1_1 l1_1.length c1_1]) (t:=68) ?hr ?_;(case hd=>rfl);(case hg=>rfl);(case hr=> exact zq18);intro a3 hg w4 hbox hb;have d6:=zqm (IsS78.below zq17 hb);have b4:=zqm (KeepBut.trans zq14 (KeepBut.of_below hb g none) (.inl rfl));replace HB:=zqm (below_step zq16 hb);have a1:=zqm (hbox);have a4:=zqm ((by rw [hg];exact(keep_size (w:=w) (g:=g) (row:=none) zq14):w.heap.size≤a3));have a6:=zqm ((Nat.le_trans e2.out (by rw [hg];exact(keep_size (w:=w) (g:=g) (row:=none) zq14):w.heap.size≤a3):w0.heap.size≤a3));have a2:=zqm ((by rw [hg];exact Nat.ne_of_lt (IsS78.lt (show IsS78 w0 _ g s0_0 s0_1 from zq17)):g≠a3));have b0:=zqm ((by rw [hg];exact Nat.ne_of_gt (IsS78.lt (show IsS78 w0 _ g s0_0 s0_1 from zq17)):a3≠g));clear a0 HK;have a0:=d6;have HK:=b4;clear d6 b4 hb hbox hg)|((with_reducible refine gate_dst (N:=7) rfl ?_);refine Kd.R_lit k25 _ 25 ?hg (N:=7) ?hd (xs:=([]:List (S25))) (inner:= []) (ok:=fun _=>True) (okp:=fun _=>True) ?hr ?hp (fun _ hk=>hk) trivial (Below.refl _ _) (Nat.le_refl _) (by simp) ?_;(case hd=>rfl);(case hg=>rfl);(case hr=> exact zq18);(case hp=>exact(Reps.none _ _));intro e5 w5 b9 hb hg_ hnew_;clear hg_ hnew_;(first|rw [← c3.out] at b9|(simp only [Int.reduceToNat] at b9;rw [← c3.out] at b9));have b5:=zqm (Kd.R_lower b9 (keep_size (w:=w) (g:=g) (row:=none) zq31));have b4:=zqm (IsS78.below zq35 hb);replace a1:=zqm (blk_below (g:=a3) (o:= .cells #[.slice A1_0 l1_0.length c1_0,.slice A1_1 l1_1.length c1_1] 68 (0,0)) (zqe a1.out) hb);replace HK:=zqm (KeepBut.trans zq31 (KeepBut.of_below hb g none) (.inl rfl));replace HB:=zqm (below_step zq36 hb);clear a0;have a0:=b4;clear b4 hb b9)|((with_reducible refine gate_callee (f:=45) rfl ?_);refine goesL_ (some 9) rfl rfl Tryd.func45 zqk rfl #[.pointer (some ⟨g,0,none⟩),.int .i64 6] rfl zq2 ?_;(with_reducible refine(spec_l20Rd_pick.calls k g s0_0 s0_1 6 c0 c1 w0 _ ?side1 ?side2 A3.out).mono ?_);(case side1=> exact zq35);(case side2=> exact zq36);rintro e w7 ⟨rfl,hi,hb,hk⟩;refine⟨_,rfl,?_⟩;replace a1:=zqm (KeepBut.blk hk (g':=a3) (o:= .cells #[.slice A1_0 l1_0.length c1_0,.slice A1_1 l1_1.length c1_1] 68 (0,0)) (zqe a1.out) b0.out (by simp));replace b5:=zqm (Kd.R_mono (Kd.R_keep (IsS78.apart (show IsS78 w0 _ g s0_0 s0_1 from zq35) (zqfR b5.out) (by decide)) hk (fun _ h=>h.2)) (fun _ h=>h.1));replace HK:=zqm (KeepBut.trans zq31 hk (.inl rfl));replace HB:=zqm (hb);replace a0:=zqm (hi);clear hb hk hi))
 go_loopg [5,6] k (fun kq v5 v6 w'=> ∃(a8:List (S25)) (a7:Int) (a5:Int),v6= .int .i64 a7∧Aside0 (spec_l20Deeds.l0 kq a8 a7 s0_0 a5 l1_0 l1_1=some (r1,r2))∧Aside0 (kq≤k)∧Aside0 (Kd.R k25 25 w' w.heap.size (fun _=>True) v5 a8)∧Aside0 (w'.heap[a3]? =some (.cells #[(.slice A1_0 l1_0.length c1_0),(.slice A1_1 l1_1.length c1_1)] 68 (0,0)))∧Aside0 (IsS78 w0 w' g s0_0 a5)∧Aside0 (KeepBut w w' g none)∧Aside0 (Below w0.heap.size w0 w'))
 case atStart=>exact⟨(c2),(c0),(c1),zq15,H',⟨Nat.le_refl _⟩,⟨zqfR b5.out⟩,⟨zqe a1.out⟩,⟨zq35⟩,⟨zq31⟩,⟨zq36⟩⟩
 case round=>
  clear H';obtain⟨a8,a7,a5,rfl,HA,d5,HO_5,a1,a0,HK,HB⟩:=hrel
  cases gk with
  |zero=>exact absurd HA.out (by simp [spec_l20Deeds.l0])
  |succ k1=>
   have H:=HA.out;clear HA;simp only [spec_l20Deeds.l0] at H
   by_cases c8:a7>0
   ·rw [if_pos c8] at H;have d7:decide (0<a7)=true:=decide_eq_true c8;clear c8;replace H:=Option.bind_eq_some_iff.mp H;obtain⟨⟨b1,b2,b3,b8⟩,d4,H⟩:=H;replace H:(if a8.length<5864062014805 then(spec_l20Deeds.l0 k1 (a8 ++ [(⟨b1,b2,b3⟩:S25)]) (wrap64 (a7 - 1)) s0_0 b8 l1_0 l1_1) else(none))=some (r1,r2):=H;have A9:=zqm d4;clear d4
    by_cases c4:a8.length<5864062014805
    ·rw [if_pos c4] at H;have LMc10:=zqm c4;clear c4;obtain⟨c5,b7⟩: ∃y_:List (S25),y_=(a8 ++ [(⟨b1,b2,b3⟩:S25)]):=⟨_,rfl⟩;replace H:(spec_l20Deeds.l0 k1 c5 (wrap64 (a7 - 1)) s0_0 b8 l1_0 l1_1)=some (r1,r2):=zqy b7 H;have d2:=zqm b7;clear b7;have H':=zqm H;clear H;have e3:=b0.out;have e4:=a2.out;have d8:wr.cell? ⟨a3,0,none⟩=some (.slice A1_0 l1_0.length c1_0):=(blk_cell a1.out 0).trans rfl;have d9:wr.cell? ⟨a3,1,none⟩=some (.slice A1_1 l1_1.length c1_1):=(blk_cell a1.out 1).trans rfl;have e0:=blk_frozen a1.out 0;have e1:=blk_frozen a1.out 1
     go_wp2_with (first|((with_reducible refine gate_callee (f:=42) rfl ?_);refine goesL_ (some 17) rfl rfl Tryd.func42 zqk rfl #[.pointer (some ⟨g,0,none⟩),.agg #[.slice A1_0 l1_0.length c1_0,.slice A1_1 l1_1.length c1_1]] rfl zq2 ?_;(with_reducible refine(spec_l20Deed.calls k1 g s0_0 a5 _ _ l1_0 _ _ l1_1 b1 b2 b3 b8 w0 _ ?side1 ?side2 ?side3 ?side4 ?side5 ?side6 ?side7 A9.out).mono ?_);(case side1=> exact zq35);(case side2=> exact zq36);(case side3=>exact Kd.C_foot_step d0.out zq31);(case side4=>exact c6.out);(case side5=>exact Kd.C_keep 0 d1.out zq31 hf1_1);(case side6=>exact c7.out);(case side7=>exact hf1_1);rintro e e7 ⟨rfl,hi,hb,hk⟩;refine⟨_,rfl,?_⟩;replace HO_5:=zqm (Kd.R_mono (Kd.R_keep (IsS78.apart (show IsS78 w0 _ g s0_0 a5 from zq35) (zqfR HO_5.out) (by decide)) hk (fun _ h=>h.2)) (fun _ h=>h.1));replace a1:=zqm (KeepBut.blk hk (g':=a3) (o:= .cells #[.slice A1_0 l1_0.length c1_0,.slice A1_1 l1_1.length c1_1] 68 (0,0)) (zqe a1.out) b0.out (by simp));replace HK:=zqm (KeepBut.trans zq31 hk (.inl rfl));replace HB:=zqm (hb);replace a0:=zqm (hi);clear hb hk hi)|((with_reducible refine gate_builtin (b:= .append) (xs:= #[.tmp 14,.tmp 18]) rfl ?_);at_builtin;refine Kd.R_append k25 w.heap.size rfl (.tmp 14) (.tmp 18) 31 25 (.agg #[(.int .i64 0),(.int .i64 0),(.int .i64 0)]) 24 rfl Tryd.underlying31 info25 rfl (by decide) (by omega) u5 a8 (⟨b1,b2,b3⟩:S25) [.int .i64 b1,.int .i64 b2,.int .i64 b3] (fun _=>True) (fun _=>False) rfl rfl ?aP (fun _ hk=>hk.elim) ?aF ?aO (Below.refl _ _) ?aS ?aL ?_;(case aP=>exact k25_mkM _ _ _ (⟨b1,b2,b3⟩:S25));(case aF=>exact(fun _ _=>trivial));(case aO=>exact(zqfR HO_5.out));(case aS=>exact(keep_size (w:=w) (g:=g) (row:=none) zq31));(case aL=>have:=LMc10.out;omega);intro e6 e8 ho hb hg hat;rw [← d2.out] at ho;replace a1:=zqm (blk_grown (g:=a3) (o:= .cells #[.slice A1_0 l1_0.length c1_0,.slice A1_1 l1_1.length c1_1] 68 (0,0)) (zqe a1.out) hg (Kd.R_ne HO_5.out a1.out (by decide)));have b4:=zqm (IsS78.grown zq35 hg (IsS78.own_ne a0.out HO_5.out (by decide)));replace HB:=zqm (below_weaken zq36 HL.out hb);replace HK:=zqm (KeepBut.trans zq31 (KeepBut.of_grown hg g) (Kd.R_base2 HO_5.out));have c9:=zqm (ho);clear a0 HO_5;have a0:=b4;clear b4 ho hb hg hat))
     go_roundg k1
     (case measure=>have:=d5.out;omega);case rel=>exact⟨(c5),(wrap64 (a7 - 1)),(b8),zq15,H',⟨by have:=d5.out;omega⟩,⟨zqfR c9.out⟩,⟨zqe a1.out⟩,⟨zq35⟩,⟨zq31⟩,⟨zq36⟩⟩
    ·rw [if_neg c4] at H;exact absurd H (by simp)
   ·rw [if_neg c8] at H;have d7:decide (0<a7)=false:=decide_eq_false c8;clear c8;simp only [Option.some.injEq,Prod.mk.injEq] at H;obtain⟨rfl,rfl⟩:=H
    go_wp2
    go_ret
    exact⟨_,zq23,zqfR HO_5.out,zq35,zq36,zq31⟩
def spec_l20Written.l0 : Nat → List (S25) → List (S25) → Int → List Int → Int → Option ((List (S25)) × Int)
 | 0, _, _, _, _, _ => none
 | k + 1, x3, x4, x5, x1000, x1001 => if x5 < (x4.length : Int) then (if 0 ≤ x5 then ((spec_DeedText.f k ((rd_T25 x4 x5).f0) ((rd_T25 x4 x5).f1) ((rd_T25 x4 x5).f2)).bind fun t677 => (if t677.toList = ([] : List UInt8) then (spec_l20Written.l0 k x3 x4 (wrap64 (x5 + 1)) x1000 x1001) else (if x3.length < 5864062014805 then (spec_l20Written.l0 k (x3 ++ [(⟨(rd_T25 x4 x5).f0, (rd_T25 x4 x5).f1, (rd_T25 x4 x5).f2⟩ : S25)]) x4 (wrap64 (x5 + 1)) x1000 x1001) else (none)))) else (none)) else (some (x3, x1001))
def spec_l20Written.f (k : Nat) (s0_0 : List Int) (s0_1 : Int) : Option ((List (S25)) × Int) := (spec_l20Logic.f k s0_0 s0_1 0).bind fun bt665 => ((spec_l20Deeds.f k s0_0 bt665.2.2 bt665.1 bt665.2.1).bind fun bt672 => (spec_l20Written.l0 k (([] : List (S25))) bt672.1 0 s0_0 bt672.2))
set_option maxHeartbeats 8000000 in
set_option maxRecDepth 100000 in
theorem spec_l20Written.calls (k : Nat) (g : Nat) (s0_0 : List Int) (s0_1 : Int) (r1 : List (S25)) (r2 : Int) (w0 w : World) (hI : IsS78 w0 w g s0_0 s0_1) (hB : Below w0.heap.size w0 w) (h : spec_l20Written.f k s0_0 s0_1 = some (r1, r2)) :
  Calls Tryd.prog 47 #[.pointer (some ⟨g, 0, none⟩)] w fun e w' => ∃ v0_ : Value, e = .returned (v0_) ∧ Kd.R k25 25 w' w.heap.size (fun _ => True) v0_ r1 ∧ IsS78 w0 w' g s0_0 r2 ∧ Below w0.heap.size w0 w' ∧ KeepBut w w' g none := by
 have hu25:=Tryd.underlying25;have a2:=zqm hI;have HK:=zqm (KeepBut.refl w g none);have HL:=zqm hB.size;clear hI;have h8:=zqm hB.size;have HB:=zqm hB;clear hB;have H:((spec_l20Logic.f k s0_0 s0_1 0).bind fun a6=>((spec_l20Deeds.f k s0_0 a6.2.2 a6.1 a6.2.1).bind fun a3=>(spec_l20Written.l0 k (([]:List (S25))) a3.1 0 s0_0 a3.2)))=some (r1,r2):=h;clear h;obtain⟨c2,b8⟩: ∃y_:List (S25),y_=(([]:List (S25))):=⟨_,rfl⟩;replace H:((spec_l20Logic.f k s0_0 s0_1 0).bind fun a6=>((spec_l20Deeds.f k s0_0 a6.2.2 a6.1 a6.2.1).bind fun a3=>(spec_l20Written.l0 k c2 a3.1 0 s0_0 a3.2)))=some (r1,r2):=zqy b8 H;have d0:=zqm b8;clear b8;replace H:=Option.bind_eq_some_iff.mp H;obtain⟨⟨c0,c1,b1⟩,e7,H⟩:=H;replace H:((spec_l20Deeds.f k s0_0 b1 c0 c1).bind fun a3=>(spec_l20Written.l0 k c2 a3.1 0 s0_0 a3.2))=some (r1,r2):=H;have A2:=zqm e7;clear e7;replace H:=Option.bind_eq_some_iff.mp H;obtain⟨⟨a1,b2⟩,e8,H⟩:=H;replace H:(spec_l20Written.l0 k c2 a1 0 s0_0 b2)=some (r1,r2):=H;have A3:=zqm e8;clear e8;have H':=zqm H;clear H
 go_enter Tryd.func47,Tryd.ntmps47
 go_wp2_with (first|((with_reducible refine gate_dst (N:=6) rfl ?_);refine Kd.R_lit k25 _ 25 ?hg (N:=6) ?hd (xs:=([]:List (S25))) (inner:= []) (ok:=fun _=>True) (okp:=fun _=>True) ?hr ?hp (fun _ hk=>hk) trivial (Below.refl _ _) (Nat.le_refl _) (by simp) ?_;(case hd=>rfl);(case hg=>rfl);(case hr=> exact zq18);(case hp=>exact(Reps.none _ _));intro h4 w4 c3 hb hg_ hnew_;clear hg_ hnew_;(first|rw [← d0.out] at c3|(simp only [Int.reduceToNat] at c3;rw [← d0.out] at c3));have a5:=zqm (Kd.R_lower c3 (keep_size (w:=w) (g:=g) (row:=none) zq14));have c4:=zqm (IsS78.below zq27 hb);replace HK:=zqm (KeepBut.trans zq14 (KeepBut.of_below hb g none) (.inl rfl));replace HB:=zqm (below_step zq33 hb);clear a2;have a2:=c4;clear c4 hb c3)|((with_reducible refine gate_callee (f:=43) rfl ?_);refine goesL_ (some 9) rfl rfl Tryd.func43 zqk rfl #[.pointer (some ⟨g,0,none⟩),.int .i64 0] rfl zq2 ?_;(with_reducible refine(spec_l20Logic.calls k g s0_0 s0_1 0 c0 c1 b1 w0 _ ?side1 ?side2 A2.out).mono ?_);(case side1=> exact zq27);(case side2=> exact zq33);rintro e w6 ⟨h5,h6,rfl,b6,e9,hi,hb,hk⟩;refine⟨_,rfl,?_⟩;replace a5:=zqm (Kd.R_mono (Kd.R_keep (IsS78.apart (show IsS78 w0 _ g s0_0 s0_1 from zq27) (zqfR a5.out) (by decide)) hk (fun _ h=>h.2)) (fun _ h=>h.1));have b3:=zqm (Kd.S_lower b6 (keep_size (w:=w) (g:=g) (row:=none) zq14));have a8:=zqm (Kd.Q_lower e9 (keep_size (w:=w) (g:=g) (row:=none) zq14));replace HK:=zqm (KeepBut.trans zq14 hk (.inl rfl));replace HB:=zqm (hb);replace a2:=zqm (hi);clear hb hk hi b6 e9;obtain⟨g2,g4,g6⟩:=Kd.S_slice b3.out;subst g6;obtain⟨g3,g5,g7,_⟩:=Kd.Q_slice a8.out;subst g7)|((with_reducible refine gate_callee (f:=59) rfl ?_);refine goesL_ (some 10) rfl rfl Tryd.func59 zqk rfl #[.pointer (some ⟨g,0,none⟩),.agg #[.slice g2 c0.length g4,.slice g3 c1.length g5]] rfl zq2 ?_;(with_reducible refine(spec_l20Deeds.calls k g s0_0 b1 _ _ c0 _ _ c1 a1 b2 w0 _ ?side1 ?side2 ?side3 ?side4 ?side5 ?side6 ?side7 A3.out).mono ?_);(case side1=> exact zq27);(case side2=> exact zq33);(case side3=>exact Kd.C_foot_own ((Kd.S_R (IsS78.apartS (show IsS78 w0 _ g s0_0 b1 from zq27) (zqfS b3.out) (by decide)))) (fun _ h_=>h_.2));(case side4=>exact(Kd.S_reads' b3.out).2.1);(case side5=>repeat(first|exact(Kd.Q_reads' a8.out).2.2|(with_reducible refine Kd.C_alloc ?_ _)|(with_reducible refine Kd.C_drewN ?_ _)|(with_reducible refine Kd.C_drew ?_)));(case side6=>exact(Kd.Q_reads' a8.out).2.1);(case side7=>exact far_slice (IsS78.own_neQ a2.out a8.out (by decide)));rintro e w9 ⟨d7,rfl,b6,hi,hb,hk⟩;refine⟨_,rfl,?_⟩;have f3:=zqm (Kd.R_mono (Kd.R_told (Kd.R_oldK (IsS78.apart (show IsS78 w0 _ g s0_0 b1 from zq27) (zqfR a5.out) (by decide)) hk) (Kd.R_base b6)) (fun _ h_=>h_.1));replace b3:=zqm (Kd.S_mono (Kd.S_keep (IsS78.apartS (show IsS78 w0 _ g s0_0 b1 from zq27) (zqfS b3.out) (by decide)) hk (fun _ h=>h.2)) (fun _ h=>h.1));replace a8:=zqm (Kd.Q_mono (Kd.Q_keep (IsS78.apartQ (show IsS78 w0 _ g s0_0 b1 from zq27) (zqfQ a8.out) (by decide)) hk (fun _ h=>h.2)) (fun _ h=>h.1));have d9:=zqm (Kd.R_lower (Kd.R_new' b6 (Kd.R_lt (zqfR a5.out))) (keep_size (w:=w) (g:=g) (row:=none) zq14));replace HK:=zqm (KeepBut.trans zq14 hk (.inl rfl));replace HB:=zqm (hb);replace a2:=zqm (hi);clear a5;have a5:=f3;clear f3 hb hk hi b6))
 go_loopg [3,5] k (fun kq v3 v5 w'=> ∃(a4:List (S25)) (a0:Int),v5= .int .i64 a0∧Aside0 (spec_l20Written.l0 kq a4 a1 a0 s0_0 b2=some (r1,r2))∧Aside0 (kq≤k)∧Aside0 (Kd.R k25 25 w' w.heap.size (fun k_=>some k_≠(d7:Value).ownBlock) v3 a4)∧Aside0 (Kd.R k25 25 w' w.heap.size (fun k_=>some k_≠(v3:Value).ownBlock) d7 a1)∧Aside0 (IsS78 w0 w' g s0_0 b2)∧Aside0 (KeepBut w w' g none)∧Aside0 (Below w0.heap.size w0 w'))
 case atStart=>exact⟨(c2),(0),zq15,H',⟨Nat.le_refl _⟩,⟨by refine zqfR ?_;exact Kd.R_mono a5.out (fun _ hk=>hk.2)⟩,⟨by refine zqfR ?_;exact Kd.R_mono d9.out (fun _ hk=>hk.2)⟩,⟨zq27⟩,⟨zq14⟩,⟨zq33⟩⟩
 case round=>
  clear H';obtain⟨a4,a0,rfl,HA,c9,HO_3,HO_4,a2,HK,HB⟩:=hrel
  cases gk with
  |zero=>exact absurd HA.out (by simp [spec_l20Written.l0])
  |succ k1=>
   have H:=HA.out;clear HA;simp only [spec_l20Written.l0] at H
   by_cases b5:a0<(a1.length:Int)
   ·rw [if_pos b5] at H;have e3:decide (a0<(a1.length:Int))=true:=decide_eq_true b5;clear b5
    by_cases d1:0≤a0
    ·rw [if_pos d1] at H;have g8:decide (0≤a0)=true:=decide_eq_true d1;clear d1;replace H:=Option.bind_eq_some_iff.mp H;obtain⟨a7,d6,H⟩:=H;replace H:(if a7.toList=([]:List UInt8) then(spec_l20Written.l0 k1 a4 a1 (wrap64 (a0+1)) s0_0 b2) else(if a4.length<5864062014805 then(spec_l20Written.l0 k1 (a4 ++ [(⟨(rd_T25 a1 a0).f0,(rd_T25 a1 a0).f1,(rd_T25 a1 a0).f2⟩:S25)]) a1 (wrap64 (a0+1)) s0_0 b2) else(none)))=some (r1,r2):=H;have e6:=zqm d6;clear d6
     by_cases b4:a7.toList=([]:List UInt8)
     ·rw [if_pos b4] at H;have e4:(a7.toList==([]:List UInt8))=true:=beq_iff_eq.mpr b4;have e5:(a7.toList !=([]:List UInt8))=false:=bne_eq_false_iff_eq.mpr b4;clear b4;have H':=zqm H;clear H;obtain⟨g9,h2,f6⟩:=Kd.R_slice HO_4.out;subst f6;have a9:0≤(a0:Int):=zqo;have b0:a0<(a1.length:Int):=zqo;obtain⟨b7,c6,d3,d4,d5⟩:=at_T25 (Kd.R_reads' HO_4.out).2.2 a0 a9 b0
      cases c6
      replace a9:=eq_true a9;replace b0:=eq_true b0
      go_wp2_with (first|((with_reducible refine gate_callee (f:=10) rfl ?_);refine goesL_ (some 21) rfl rfl Tryd.func10 zqk rfl #[.agg #[.int .i64 ((rd_T25 a1 a0).f0),.int .i64 ((rd_T25 a1 a0).f1),.int .i64 ((rd_T25 a1 a0).f2)]] rfl zq2 ?_;(with_reducible refine(spec_DeedText.calls k1 ((rd_T25 a1 a0).f0) ((rd_T25 a1 a0).f1) ((rd_T25 a1 a0).f2) a7 _ e6.out).mono ?_);rintro e h9 ⟨rfl,hb⟩;refine⟨_,rfl,?_⟩;replace HO_3:=zqm (Kd.R_below (zqfR HO_3.out) hb);replace HO_4:=zqm (Kd.R_below (zqfR HO_4.out) hb);have c5:=zqm (IsS78.below zq27 hb);replace HK:=zqm (KeepBut.trans zq14 (KeepBut.of_below hb g none) (.inl rfl));replace HB:=zqm (below_step zq33 hb);clear a2;have a2:=c5;clear c5 hb))
      go_roundg k1
      (case measure=>have:=c9.out;omega);case rel=>exact⟨(a4),(wrap64 (a0+1)),zq15,H',⟨by have:=c9.out;omega⟩,⟨zqfR HO_3.out⟩,⟨zqfR HO_4.out⟩,⟨zq27⟩,⟨zq14⟩,⟨zq33⟩⟩
     ·rw [if_neg b4] at H;have e4:(a7.toList==([]:List UInt8))=false:=beq_eq_false_iff_ne.mpr b4;have e5:(a7.toList !=([]:List UInt8))=true:=bne_iff_ne.mpr b4
      by_cases d2:a4.length<5864062014805
      ·rw [if_pos d2] at H;have LMc16:=zqm d2;clear d2;obtain⟨d8,b9⟩: ∃y_:List (S25),y_=(a4 ++ [(⟨(rd_T25 a1 a0).f0,(rd_T25 a1 a0).f1,(rd_T25 a1 a0).f2⟩:S25)]):=⟨_,rfl⟩;replace H:(spec_l20Written.l0 k1 d8 a1 (wrap64 (a0+1)) s0_0 b2)=some (r1,r2):=zqy b9 H;have e1:=zqm b9;clear b9;have H':=zqm H;clear H;obtain⟨h0,f4,f7⟩:=Kd.R_slice HO_4.out;subst f7;have a9:0≤(a0:Int):=zqo;have b0:a0<(a1.length:Int):=zqo;obtain⟨b7,c6,d3,d4,d5⟩:=at_T25 (Kd.R_reads' HO_4.out).2.2 a0 a9 b0
       cases c6
       replace a9:=eq_true a9;replace b0:=eq_true b0
       go_wp2_with (first|((with_reducible refine gate_callee (f:=10) rfl ?_);refine goesL_ (some 21) rfl rfl Tryd.func10 zqk rfl #[.agg #[.int .i64 ((rd_T25 a1 a0).f0),.int .i64 ((rd_T25 a1 a0).f1),.int .i64 ((rd_T25 a1 a0).f2)]] rfl zq2 ?_;(with_reducible refine(spec_DeedText.calls k1 ((rd_T25 a1 a0).f0) ((rd_T25 a1 a0).f1) ((rd_T25 a1 a0).f2) a7 _ e6.out).mono ?_);rintro e i0 ⟨rfl,hb⟩;refine⟨_,rfl,?_⟩;replace HO_3:=zqm (Kd.R_below (zqfR HO_3.out) hb);replace HO_4:=zqm (Kd.R_below (zqfR HO_4.out) hb);have c5:=zqm (IsS78.below zq27 hb);replace HK:=zqm (KeepBut.trans zq14 (KeepBut.of_below hb g none) (.inl rfl));replace HB:=zqm (below_step zq33 hb);clear a2;have a2:=c5;clear c5 hb;have c7:0≤(a0:Int):=zqo;have c8:a0<(a1.length:Int):=zqo;obtain⟨e2,f5,f9,g0,g1⟩:=at_T25 (Kd.R_reads' HO_4.out).2.2 a0 c7 c8;obtain rfl:b7=e2:=(by injection f5);replace c7:=eq_true c7;replace c8:=eq_true c8)|((with_reducible refine gate_builtin (b:= .append) (xs:= #[.tmp 23,.tmp 28]) rfl ?_);at_builtin;refine Kd.R_append k25 w.heap.size rfl (.tmp 23) (.tmp 28) 31 25 (.agg #[(.int .i64 0),(.int .i64 0),(.int .i64 0)]) 24 rfl Tryd.underlying31 info25 rfl (by decide) (by omega) u3 a4 (⟨(rd_T25 a1 a0).f0,(rd_T25 a1 a0).f1,(rd_T25 a1 a0).f2⟩:S25) [.int .i64 ((rd_T25 a1 a0).f0),.int .i64 ((rd_T25 a1 a0).f1),.int .i64 ((rd_T25 a1 a0).f2)] (fun k_=>some k_≠(.slice (some b7) a1.length f4:Value).ownBlock) (fun _=>False) rfl rfl ?aP (fun _ hk=>hk.elim) ?aF ?aO (Below.refl _ _) ?aS ?aL ?_;(case aP=>exact k25_mkM _ _ _ (⟨(rd_T25 a1 a0).f0,(rd_T25 a1 a0).f1,(rd_T25 a1 a0).f2⟩:S25));(case aF=>exact(fun k_ hk=>Kd.fresh' (Kd.R_lt (zqfR HO_4.out)) k_ hk));(case aO=>exact(zqfR HO_3.out));(case aS=>exact(keep_size (w:=w) (g:=g) (row:=none) zq14));(case aL=>have:=LMc16.out;omega);intro h7 i1 ho hb hg hat;rw [← e1.out] at ho;replace HO_4:=zqm (Kd.R_after (ok:=(fun _=>True)) (by refine zqfR ?_;exact Kd.R_mono HO_4.out (fun _ hk=>⟨trivial,hk⟩)) hg hat);have c4:=zqm (IsS78.grown zq27 hg (IsS78.own_ne a2.out HO_3.out (by decide)));replace HB:=zqm (below_weaken zq33 HL.out hb);replace HK:=zqm (KeepBut.trans zq14 (KeepBut.of_grown hg g) (Kd.R_base2 HO_3.out));have e0:=zqm (ho);clear a2 HO_3;have a2:=c4;clear c4 ho hb hg hat))
       go_roundg k1
       (case measure=>have:=c9.out;omega);case rel=>exact⟨(d8),(wrap64 (a0+1)),zq15,H',⟨by have:=c9.out;omega⟩,⟨zqfR e0.out⟩,⟨by refine zqfR ?_;exact Kd.R_mono HO_4.out (fun _ hk=>hk.2)⟩,⟨zq27⟩,⟨zq14⟩,⟨zq33⟩⟩
      ·rw [if_neg d2] at H;exact absurd H (by simp)
    ·rw [if_neg d1] at H;exact absurd H (by simp)
   ·rw [if_neg b5] at H;have e3:decide (a0<(a1.length:Int))=false:=decide_eq_false b5;clear b5;simp only [Option.some.injEq,Prod.mk.injEq] at H;obtain⟨rfl,rfl⟩:=H;obtain⟨h1,h3,f8⟩:=Kd.R_slice HO_4.out;subst f8
    go_wp2
    go_ret
    exact⟨_,zq23,by refine zqfR ?_;exact Kd.R_mono HO_3.out (fun _ hk=>trivial),zq27,zq33,zq14⟩
def spec_DrawJournalText.f (k : Nat) (l0 : List Int) : Option ((List (S25))) := (spec_l20Open.f l0).bind fun bt682 => ((spec_l20Written.f k bt682.1 bt682.2).bind fun bt685 => ((spec_l20Rd_odd.f k bt682.1 bt685.2 12).bind fun bt689 => (if bt689.1 = true then (if bt685.1.length < 5864062014805 then (some (bt685.1 ++ [(⟨9, 0, 0⟩ : S25)])) else (none)) else (some bt685.1))))
set_option maxHeartbeats 8000000 in
set_option maxRecDepth 100000 in
theorem spec_DrawJournalText.calls (k : Nat) (A0 : Option Addr) (c0 : Nat) (l0 : List Int) (r : List (S25)) (w : World) (hr0 : Kd.C (Kd.int .u8) w A0 l0.length l0) (hc0 : l0.length ≤ c0) (h : spec_DrawJournalText.f k l0 = some r) :
  Calls Tryd.prog 28 #[.slice A0 l0.length c0] w fun e w' => ∃ v0_ : Value, e = .returned (v0_) ∧ Kd.R k25 25 w' w.heap.size (fun _ => True) v0_ r ∧ Below w.heap.size w w' := by
 have hu25:=Tryd.underlying25;have b9:=zqm hr0;have b8:=zqm hc0;clear hr0 hc0;have HB:=zqm (Below.refl w.heap.size w);have H:((spec_l20Open.f l0).bind fun a6=>((spec_l20Written.f k a6.1 a6.2).bind fun a4=>((spec_l20Rd_odd.f k a6.1 a4.2 12).bind fun b4=>(if b4.1=true then(if a4.1.length<5864062014805 then(some (a4.1 ++ [(⟨9,0,0⟩:S25)])) else(none)) else(some a4.1)))))=some r:=h;clear h;replace H:=Option.bind_eq_some_iff.mp H;obtain⟨⟨a2,a8⟩,b5,H⟩:=H;(try dsimp only at H);have A2:=zqm b5;clear b5;replace H:=Option.bind_eq_some_iff.mp H;obtain⟨⟨a5,a3⟩,b6,H⟩:=H;(try dsimp only at H);have A3:=zqm b6;clear b6;replace H:=Option.bind_eq_some_iff.mp H;obtain⟨⟨c1,b0⟩,b7,H⟩:=H;(try dsimp only at H);have A4:=zqm b7;clear b7
 by_cases c5:c1=true
 ·subst c5;rw [if_pos rfl] at H
  by_cases c6:a5.length<5864062014805
  ·rw [if_pos c6] at H;have LMc6:=zqm c6;clear c6;obtain⟨c2,a7⟩: ∃y_:List (S25),y_=(a5 ++ [(⟨9,0,0⟩:S25)]):=⟨_,rfl⟩;replace H:(some c2)=some r:=zqy a7 H;have b3:=zqm a7;clear a7;obtain rfl:=Option.some.inj H
   go_enter Tryd.func28,Tryd.ntmps28
   go_wp2_with (first|((with_reducible refine gate_callee (f:=41) rfl ?_);refine goesL_ (some 6) rfl rfl Tryd.func41 zqk rfl #[.slice A0 l0.length c0] rfl zq2 ?_;(with_reducible refine(spec_l20Open.calls _ _ l0 a2 a8 w _ ?side1 ?side2 ?side3 A2.out).mono ?_);(case side1=> exact zq5);(case side2=>exact b9.out);(case side3=>exact b8.out);rintro e w7 ⟨g684,rfl,hi,hb,hb2⟩;refine⟨_,rfl,?_⟩;replace HB:=zqm (hb);have a0:=zqm (hi);clear hb hb2 hi)|((with_reducible refine gate_callee (f:=47) rfl ?_);refine goesL_ (some 8) rfl rfl Tryd.func47 zqk rfl #[.pointer (some ⟨g684,0,none⟩)] rfl zq2 ?_;(with_reducible refine(spec_l20Written.calls k g684 a2 a8 a5 a3 w _ ?side1 ?side2 A3.out).mono ?_);(case side1=> exact zq17);(case side2=> exact zq16);rintro e w8 ⟨b1,rfl,a9,hi,hb,hk⟩;refine⟨_,rfl,?_⟩;have a1:=zqm (Kd.R_lower a9 (below_size zq16));replace HB:=zqm (hb);replace a0:=zqm (hi);clear hb hk hi a9)|((with_reducible refine gate_callee (f:=48) rfl ?_);refine goesL_ (some 10) rfl rfl Tryd.func48 zqk rfl #[.pointer (some ⟨g684,0,none⟩),.int .i64 12] rfl zq2 ?_;(with_reducible refine(spec_l20Rd_odd.calls k g684 a2 a3 12 true b0 w _ ?side1 ?side2 A4.out).mono ?_);(case side1=> exact zq17);(case side2=> exact zq16);rintro e w9 ⟨rfl,hi,hb,hk⟩;refine⟨_,rfl,?_⟩;replace a1:=zqm (Kd.R_mono (Kd.R_keep (IsS78.apart (show IsS78 w _ g684 a2 a3 from zq17) (zqfR a1.out) (by decide)) hk (fun _ h=>h.2)) (fun _ h=>h.1));replace HB:=zqm (hb);replace a0:=zqm (hi);clear hb hk hi)|((with_reducible refine gate_builtin (b:= .append) (xs:= #[.tmp 11,.tmp 13]) rfl ?_);at_builtin;refine Kd.R_append k25 (w0:=w) w.heap.size rfl (.tmp 11) (.tmp 13) 31 25 (.agg #[(.int .i64 0),(.int .i64 0),(.int .i64 0)]) 24 rfl Tryd.underlying31 info25 rfl (by decide) (by omega) b1 a5 (⟨9,0,0⟩:S25) [.int .i64 9,.int .i64 0,.int .i64 0] (fun _=>True) (fun _=>False) rfl rfl ?aP (fun _ hk=>hk.elim) ?aF ?aO ?aB ?aS ?aL ?_;(case aP=>exact k25_mkM _ _ _ (⟨9,0,0⟩:S25));(case aB=>exact zq16);(case aF=>exact(fun _ _=>trivial));(case aO=>exact(zqfR a1.out));(case aS=>exact(below_size zq16));(case aL=>have:=LMc6.out;omega);intro c3 c4 ho hb hg hat;rw [← b3.out] at ho;replace a0:=zqm (IsS78.grown zq17 hg (IsS78.own_ne a0.out a1.out (by decide)));replace HB:=zqm (hb);have b2:=zqm (ho);clear a1;clear ho hb hg hat))
   go_ret
   exact⟨_,zq23,zqfR b2.out,zq16⟩
  ·rw [if_neg c6] at H;exact absurd H (by simp)
 ·replace c5:=Bool.eq_false_iff.mpr c5;subst c5;rw [if_neg (show¬(false=true) by decide)] at H;obtain rfl:=Option.some.inj H
  go_enter Tryd.func28,Tryd.ntmps28
  go_wp2_with (first|((with_reducible refine gate_callee (f:=41) rfl ?_);refine goesL_ (some 6) rfl rfl Tryd.func41 zqk rfl #[.slice A0 l0.length c0] rfl zq2 ?_;(with_reducible refine(spec_l20Open.calls _ _ l0 a2 a8 w _ ?side1 ?side2 ?side3 A2.out).mono ?_);(case side1=> exact zq5);(case side2=>exact b9.out);(case side3=>exact b8.out);rintro e c7 ⟨g684,rfl,hi,hb,hb2⟩;refine⟨_,rfl,?_⟩;replace HB:=zqm (hb);have a0:=zqm (hi);clear hb hb2 hi)|((with_reducible refine gate_callee (f:=47) rfl ?_);refine goesL_ (some 8) rfl rfl Tryd.func47 zqk rfl #[.pointer (some ⟨g684,0,none⟩)] rfl zq2 ?_;(with_reducible refine(spec_l20Written.calls k g684 a2 a8 a5 a3 w _ ?side1 ?side2 A3.out).mono ?_);(case side1=> exact zq17);(case side2=> exact zq16);rintro e c8 ⟨b1,rfl,a9,hi,hb,hk⟩;refine⟨_,rfl,?_⟩;have a1:=zqm (Kd.R_lower a9 (below_size zq16));replace HB:=zqm (hb);replace a0:=zqm (hi);clear hb hk hi a9)|((with_reducible refine gate_callee (f:=48) rfl ?_);refine goesL_ (some 10) rfl rfl Tryd.func48 zqk rfl #[.pointer (some ⟨g684,0,none⟩),.int .i64 12] rfl zq2 ?_;(with_reducible refine(spec_l20Rd_odd.calls k g684 a2 a3 12 false b0 w _ ?side1 ?side2 A4.out).mono ?_);(case side1=> exact zq17);(case side2=> exact zq16);rintro e c9 ⟨rfl,hi,hb,hk⟩;refine⟨_,rfl,?_⟩;replace a1:=zqm (Kd.R_mono (Kd.R_keep (IsS78.apart (show IsS78 w _ g684 a2 a3 from zq17) (zqfR a1.out) (by decide)) hk (fun _ h=>h.2)) (fun _ h=>h.1));replace HB:=zqm (hb);replace a0:=zqm (hi);clear hb hk hi))
  go_ret
  exact⟨_,zq23,zqfR a1.out,zq16⟩
def laws_sameDeeds.l0 : Nat → List (S25) → List (S25) → Int → Option (Bool)
 | 0, _, _, _ => none
 | k + 1, x0, x1, x5 => if x5 < (x0.length : Int) then (if 0 ≤ x5 then (if x5 < (x1.length : Int) then (if (!(((rd_T25 x0 x5).f0) == ((rd_T25 x1 x5).f0)) || (!(((rd_T25 x0 x5).f1) == ((rd_T25 x1 x5).f1)) || (!(((rd_T25 x0 x5).f2) == ((rd_T25 x1 x5).f2))))) = true then (some false) else (laws_sameDeeds.l0 k x0 x1 (wrap64 (x5 + 1)))) else (none)) else (none)) else (some true)
def laws_sameDeeds.f (k : Nat) (l0 : List (S25)) (l1 : List (S25)) : Option (Bool) := if (l0.length : Int) = (l1.length : Int) then (laws_sameDeeds.l0 k l0 l1 0) else (some false)
attribute [local go_sem high] eqA25
set_option maxHeartbeats 8000000 in
set_option maxRecDepth 100000 in
theorem laws_sameDeeds.calls (k : Nat) (A0 : Option Addr) (c0 : Nat) (l0 : List (S25)) (A1 : Option Addr) (c1 : Nat) (l1 : List (S25)) (r : Bool) (w : World) (hr0 : Kd.C k25 w A0 l0.length l0) (hc0 : l0.length ≤ c0) (hr1 : Kd.C k25 w A1 l1.length l1) (hc1 : l1.length ≤ c1) (h : laws_sameDeeds.f k l0 l1 = some r) :
  Calls Tryd.prog 29 #[.slice A0 l0.length c0, .slice A1 l1.length c1] w fun e w' => e = .returned (.bool r) ∧ Drawn0 w w' := by
 have hu25:=Tryd.underlying25;have b9:=zqm hr0;have d3:=zqm hc0;clear hr0 hc0;have c8:=zqm hr1;have d4:=zqm hc1;clear hr1 hc1;have H:(if(l0.length:Int)=(l1.length:Int) then(laws_sameDeeds.l0 k l0 l1 0) else(some false))=some r:=h;clear h
 by_cases c3:(l0.length:Int)=(l1.length:Int)
 ·rw [if_pos c3] at H;have b3:((l0.length:Int)==(l1.length:Int))=true:=beq_iff_eq.mpr c3;have b4:((l0.length:Int) !=(l1.length:Int))=false:=bne_eq_false_iff_eq.mpr c3;(have b5:(l0.length==l1.length)=true:=by first|simpa using c3|(simp at c3 ⊢;omega));clear c3;have H':=zqm H;clear H
  go_enter Tryd.func29,Tryd.ntmps29
  go_wp2
  repeat(go_quiet (fail);try go_wp2)
  go_loopg [5] k (fun kq v5 w'=> ∃(a0:Int),v5= .int .i64 a0∧Aside0 (laws_sameDeeds.l0 kq l0 l1 a0=some r)∧Aside0 (kq≤k)∧Drawn0 w w')
  case atStart=>exact⟨(0),zq15,H',⟨Nat.le_refl _⟩,zq28⟩
  case round=>
   clear H';(try clear c1);(try clear c2);(try clear p2);(try clear c3);(try clear b3);(try clear b4);(try clear b5);obtain⟨a0,rfl,HA,b8,⟨m1,rfl⟩⟩:=hrel
   cases gk with
   |zero=>exact absurd HA.out (by simp [laws_sameDeeds.l0])
   |succ k1=>
    have H:=HA.out;clear HA;simp only [laws_sameDeeds.l0] at H
    by_cases c4:a0<(l0.length:Int)
    ·rw [if_pos c4] at H;have c9:decide (a0<(l0.length:Int))=true:=decide_eq_true c4;clear c4
     by_cases c5:0≤a0
     ·rw [if_pos c5] at H;have d1:decide (0≤a0)=true:=decide_eq_true c5;clear c5
      by_cases c6:a0<(l1.length:Int)
      ·rw [if_pos c6] at H;have d2:decide (a0<(l1.length:Int))=true:=decide_eq_true c6;clear c6
       by_cases c7:(!(((rd_T25 l0 a0).f0)==((rd_T25 l1 a0).f0))||(!(((rd_T25 l0 a0).f1)==((rd_T25 l1 a0).f1))||(!(((rd_T25 l0 a0).f2)==((rd_T25 l1 a0).f2)))))=true
       ·rw [if_pos c7] at H;have d0:(!(((rd_T25 l0 a0).f0)==((rd_T25 l1 a0).f0))||(!(((rd_T25 l0 a0).f1)==((rd_T25 l1 a0).f1))||(!(((rd_T25 l0 a0).f2)==((rd_T25 l1 a0).f2)))))=true:=c7;clear c7;obtain rfl:=Option.some.inj H;have a1:0≤(a0:Int):=zqo;have a3:a0<(l0.length:Int):=zqo;obtain⟨b6,a5,a7,a8,a9⟩:=at_T25 b9.out a0 a1 a3
        cases a5
        replace a1:=eq_true a1;replace a3:=eq_true a3;have a2:0≤(a0:Int):=zqo;have a4:a0<(l1.length:Int):=zqo;obtain⟨b7,a6,b0,b1,b2⟩:=at_T25 c8.out a0 a2 a4
        cases a6
        replace a2:=eq_true a2;replace a4:=eq_true a4
        go_wp2
        repeat(go_quiet (fail);try go_wp2)
        go_ret
        exact⟨zq15,zq28⟩
       ·rw [if_neg c7] at H;(have d0:(!(((rd_T25 l0 a0).f0)==((rd_T25 l1 a0).f0))||(!(((rd_T25 l0 a0).f1)==((rd_T25 l1 a0).f1))||(!(((rd_T25 l0 a0).f2)==((rd_T25 l1 a0).f2)))))=false:=by simpa using c7);clear c7;have H':=zqm H;clear H;have a1:0≤(a0:Int):=zqo;have a3:a0<(l0.length:Int):=zqo;obtain⟨b6,a5,a7,a8,a9⟩:=at_T25 b9.out a0 a1 a3
        cases a5
        replace a1:=eq_true a1;replace a3:=eq_true a3;have a2:0≤(a0:Int):=zqo;have a4:a0<(l1.length:Int):=zqo;obtain⟨b7,a6,b0,b1,b2⟩:=at_T25 c8.out a0 a2 a4
        cases a6
        replace a2:=eq_true a2;replace a4:=eq_true a4
        go_wp2
        repeat(go_quiet (fail);try go_wp2)
        go_roundg k1
        (case measure=>have:=b8.out;omega);case rel=>exact⟨(wrap64 (a0+1)),zq15,H',⟨by have:=b8.out;omega⟩,zq28⟩
      ·rw [if_neg c6] at H;exact absurd H (by simp)
     ·rw [if_neg c5] at H;exact absurd H (by simp)
    ·rw [if_neg c4] at H;have c9:decide (a0<(l0.length:Int))=false:=decide_eq_false c4;clear c4;obtain rfl:=Option.some.inj H
     go_wp2
     repeat(go_quiet (fail);try go_wp2)
     go_ret
     exact⟨zq15,zq28⟩
 ·rw [if_neg c3] at H;have b3:((l0.length:Int)==(l1.length:Int))=false:=beq_eq_false_iff_ne.mpr c3;have b4:((l0.length:Int) !=(l1.length:Int))=true:=bne_iff_ne.mpr c3;(have b5:(l0.length==l1.length)=false:=by first|simpa using c3|(simp at c3 ⊢;omega));obtain rfl:=Option.some.inj H
  go_enter Tryd.func29,Tryd.ntmps29
  go_wp2
  repeat(go_quiet (fail);try go_wp2)
  go_ret
  exact⟨zq15,zq28⟩
end Go.Proofs.YtddgcdpogpppgaaDoor.Print
end
section
namespace Go.Proofs.YtddgcdpogpppgaaDoor.Print
open Go.RowKit Go.Proofs.YtddgcdpogpppgaaDoorW.PrintWords Go.Proofs.YtddgcdpogpppgaaDoorW.PrintLast Go.Proofs.YtddgcdpogpppgaaDoorW.PrintMore
open Oml
section
section
variable {b : List Int} (hb : Bytes b) (hl : b.length ≤ 2000)
include hb hl
theorem deeds_run (U : List (List Int)) (N : List Int) : ∀ (d : Nat) (out : List S25) (q : Int), 0 ≤ q → q + 6 * d ≤ 999999600 → out.length + d ≤ 100 → ∃ xs q', Ev (fun m => spec_l20Deeds.l0 m out (d : Int) b q U N) (xs, q') ∧ xs.length ≤ out.length + d ∧ q ≤ q' ∧ q' ≤ q + 6 * d := by
 intro d
 induction d with
 |zero=>
  intro out q h0 h1 h2
  refine⟨out,q,Ev.succ ?_,by omega,by omega,by omega⟩
  simp only [spec_l20Deeds.l0]
  exact Ev.ite_neg (by omega) (Ev.now _)
 |succ d ih=>
  intro out q h0 h1 h2
  obtain⟨k,a,c,q1,e,h3,h4⟩:=deed_draw hb hl (p:=q) h0 (by omega) U N
  obtain⟨xs,q2,e2,h5,h6,h7⟩:=ih (out ++ [⟨k,a,c⟩]) q1 (by omega) (by omega) (by simp only [List.length_append,List.length_cons,List.length_nil];omega)
  have w1:wrap64 (((d+1:Nat):Int) - 1)=(d:Int):=by unfold wrap64;omega
  refine⟨xs,q2,Ev.succ ?_,by simp only [List.length_append,List.length_cons,List.length_nil] at h5;omega,by omega,by omega⟩
  simp only [spec_l20Deeds.l0]
  refine Ev.ite_pos (by omega) (Ev.bind e (Ev.ite_pos (by omega) ?_))
  simp only [w1]
  exact e2
theorem deeds_ev {q : Int} (h0 : 0 ≤ q) (h1 : q ≤ 999999500) (U : List (List Int)) (N : List Int) : ∃ xs q', Ev (fun m => spec_l20Deeds.f m b q U N) (xs, q') ∧ xs.length ≤ 6 ∧ q ≤ q' ∧ q' ≤ q + 40 := by
 obtain⟨v,e,a1,b1⟩:=pick_ev hb hl (p:=q) h0 (by omega) 6
 have c1:=b1 (by decide)
 obtain⟨d,rfl⟩: ∃d:Nat,v=(d:Int):=⟨v.toNat,by omega⟩
 obtain⟨xs,q',e2,h2,h3,h4⟩:=deeds_run hb hl U N d [] (q+1) (by omega) (by omega) (by simp only [List.length_nil];omega)
 refine⟨xs,q',?_,by simp only [List.length_nil] at h2;omega,by omega,by omega⟩
 unfold spec_l20Deeds.f
 exact Ev.bind e e2
theorem written_run (l : List S25) (hll : l.length ≤ 100) (q : Int) : ∀ m i (out : List S25), i + m = l.length → out.length ≤ i → ∃ xs, Ev (fun k => spec_l20Written.l0 k out l (i : Int) b q) (xs, q) ∧ xs.length ≤ l.length := by
 intro m
 induction m with
 |zero=>
  intro i out h ho
  refine⟨out,Ev.succ ?_,by omega⟩
  simp only [spec_l20Written.l0]
  exact Ev.ite_neg (by omega) (Ev.now _)
 |succ m ih=>
  intro i out h ho
  have e1:wrap64 ((i:Int)+1)=((i+1:Nat):Int):=wrap_nat (by omega)
  obtain⟨x,hx⟩: ∃x,rd_T25 l (i:Int)=x:=⟨_,rfl⟩
  by_cases ht:(deedT x.f0 x.f1 x.f2).toList=([]:List UInt8)
  ·obtain⟨xs,e2,h2⟩:=ih (i+1) out (by omega) (by omega)
   refine⟨xs,Ev.succ ?_,h2⟩
   simp only [spec_l20Written.l0,e1,hx]
   exact Ev.ite_pos (by omega) (Ev.ite_pos (by omega) (Ev.bind (spec_DeedText.ev _ _ _) (Ev.ite_pos ht e2)))
  ·obtain⟨xs,e2,h2⟩:=ih (i+1) (out ++ [⟨x.f0,x.f1,x.f2⟩]) (by omega) (by simp only [List.length_append,List.length_cons,List.length_nil];omega)
   refine⟨xs,Ev.succ ?_,h2⟩
   simp only [spec_l20Written.l0,e1,hx]
   exact Ev.ite_pos (by omega) (Ev.ite_pos (by omega) (Ev.bind (spec_DeedText.ev _ _ _) (Ev.ite_neg ht (Ev.ite_pos (by omega) e2))))
theorem written_ev {q : Int} (h0 : 0 ≤ q) (h1 : q ≤ 999999300) : ∃ xs q', Ev (fun m => spec_l20Written.f m b q) (xs, q') ∧ xs.length ≤ 6 ∧ q ≤ q' ∧ q' ≤ q + 160 := by
 obtain⟨U,N,q1,e2,h2,h3⟩:=logic_ev hb hl (p:=q) h0 (by omega) 0
 obtain⟨ys,q2,e3,h4,h5,h6⟩:=deeds_ev hb hl (q:=q1) (by omega) (by omega) U N
 obtain⟨xs,e4,h7⟩:=written_run hb hl ys (by omega) q2 ys.length 0 [] (by omega) (Nat.le_refl _)
 refine⟨xs,q2,?_,by omega,by omega,by omega⟩
 unfold spec_l20Written.f
 exact Ev.bind e2 (Ev.bind e3 e4)
end
theorem drawn_journal {l : List Int} (h : Bytes l) : ∃ xs, Ev (fun m => spec_DrawJournalText.f m l) xs ∧ xs.length ≤ 7 := by
 obtain⟨b,hb,hl,e⟩:=open_ev h
 obtain⟨xs,q,e2,h2,h3,h4⟩:=written_ev hb hl (q:=0) (by omega) (by omega)
 obtain⟨v,q2,e3,_⟩:=odd_ev hb hl (p:=q) (by omega) (by omega) 12
 unfold spec_DrawJournalText.f
 cases v with
 |true=>exact⟨xs ++ [⟨9,0,0⟩],Ev.pbind e (Ev.bind e2 (Ev.bind e3 (Ev.ite_pos rfl (Ev.ite_pos (by show xs.length<_;omega) (Ev.now _))))),by simp only [List.length_append,List.length_cons,List.length_nil];omega⟩
 |false=>exact⟨xs,Ev.pbind e (Ev.bind e2 (Ev.bind e3 (Ev.ite_neg (by simp) (Ev.now _)))),by omega⟩
theorem nl_tab : ∀ n : Fin 100, (10 : UInt8) ∉ numL n.1 := by decide +kernel
theorem dT_nl {x : S25} (h : dOk x = true) : (10 : UInt8) ∉ (dT x).data.toList := by
 unfold dT deedT
 unfold dOk at h
 rw [if_pos h]
 show (10:UInt8) ∉ deedL x.f0 x.f1 x.f2
 unfold deedL
 rcases deedV_iff.1 h with ⟨e,h4,_⟩|⟨e,h4,_⟩|⟨e,_,_⟩|⟨e,h4,h5⟩|⟨e,_,_⟩
 ·rw [e,if_pos rfl,List.mem_append]
  exact fun hm=>hm.elim (by decide) (nl_tab ⟨x.f1.toNat,by omega⟩)
 ·rw [e,if_neg (by decide),if_pos rfl,List.mem_append]
  exact fun hm=>hm.elim (by decide) (nl_tab ⟨x.f1.toNat,by omega⟩)
 ·rw [e,if_neg (by decide),if_neg (by decide),if_pos rfl];decide
 ·rw [e,if_neg (by decide),if_neg (by decide),if_neg (by decide),if_pos rfl,List.mem_append,List.mem_append,List.mem_append]
  exact fun hm=>hm.elim (fun hm=>hm.elim (fun hm=>hm.elim (by decide) (nl_tab ⟨x.f1.toNat,by omega⟩)) (by decide)) (nl_tab ⟨x.f2.toNat,by omega⟩)
 ·rw [e,if_neg (by decide),if_neg (by decide),if_neg (by decide),if_neg (by decide)];decide
def linesL (l : List S25) : List UInt8 := l.flatMap fun x => (dT x).data.toList ++ [10]
theorem fold_data : ∀ (l : List S25) (s : ByteArray), (l.foldl (fun s x => s ++ lineT x) s).data.toList = s.data.toList ++ linesL l
 | [],s=>by simp [linesL]
 |x :: l,s=>by
  rw [List.foldl_cons,fold_data l]
  simp [linesL,lineT,ByteArray.data_append]
theorem jrn_lines : ∀ (l : List S25), (∀ x ∈ l, dOk x = true) → jrn [] (linesL l) = (l, (linesL l).length)
 | [],_=>by simp [linesL,jrn]
 |x :: l,h=>by
  have hx:=h x List.mem_cons_self
  have ih:=jrn_lines l (fun y hy=>h y (List.mem_cons_of_mem _ hy))
  have e:linesL (x :: l)=(dT x).data.toList ++ 10 :: linesL l:=by simp [linesL]
  have hr:rdD (dT x)=(x.f0,x.f1,x.f2,true):=rd_hit hx rfl
  rw [e,jrn_pre _ _ _ (dT_nl hx),List.nil_append,← ba_mk (dT x),ih]
  unfold okS dS
  rw [hr,if_pos rfl]
  refine Prod.ext rfl ?_
  simp only [List.length_append,List.length_cons]
  omega
theorem rdJ_jou {l : List S25} (h : ¬ (jouT l).toList = []) : rdJ (jouT l) = (l, ((jouT l).size : Int)) := by
 have ha:l.all dOk=true:=by
  cases hc:l.all dOk with
  |true=>rfl
  |false=>exact absurd (by unfold jouT;rw [hc,if_neg (by simp),ba_toList]) h
 have hd:(jouT l).data.toList=linesL l:=by
  unfold jouT
  rw [if_pos ha]
  unfold jouB
  rw [List.take_length,fold_data];rfl
 unfold rdJ
 rw [hd,jrn_lines l (fun x hx=>List.all_eq_true.1 ha x hx),Lib.size_eq,hd]
theorem same_ev (l : List S25) (hl : l.length < 4611686018427387904) : Ev (fun k => laws_sameDeeds.f k l l) true := by
 unfold laws_sameDeeds.f
 refine Ev.ite_pos rfl ?_
 refine Ev.loop (g:=fun k (_:Unit) i=>laws_sameDeeds.l0 k l l i) l.length (fun _ _=>True) hl (fun _ _=>?_) (fun i _ hi _=>⟨(),trivial,fun K=>?_⟩) () trivial
 ·refine Ev.succ ?_
  simp only [laws_sameDeeds.l0]
  exact Ev.ite_neg (by omega) (Ev.now _)
 ·refine Ev.succ ?_
  simp only [laws_sameDeeds.l0]
  exact Ev.ite_pos (by omega) (Ev.ite_pos (by omega) (Ev.ite_pos (by omega) (Ev.ite_neg (by simp) K)))
end
set_option maxHeartbeats 2000000 in
set_option maxRecDepth 100000 in
theorem jou_calls (A : Option Addr) (c : Nat) (l : List S25) (w : World) (ad : Addr) (cw : Nat) (hW : WordsAt w ad cw) (hr : Kd.C k25 w A l.length l) (hl : l.length ≤ 1048576) :
 Calls Tryd.prog 16 #[.slice A l.length c] w fun e w'=>e= .returned (.string (jouT l))∧Below w.heap.size w w':=by
 have hu25:=Tryd.underlying25
 have HW:=zqm hW
 have HR:=zqm hr
 have HS:=zqm hl
 clear hW hr hl
 go_enter Tryd.func16,Tryd.ntmps16
 go_wp2_with fail
 go_loopg [3,9] (l.length+1) (fun kq v3 v9 W=> ∃(i:Nat) (s:ByteArray),v3= .string s∧v9= .int .i64 i∧Aside0 (s=jouB l i)∧Aside0 (i+kq=l.length+1)∧Aside0 (i≤l.length)∧Aside0 (∀j,j<i→dOk (l.getD j z25)=true)∧Aside0 (Below w.heap.size w W))
 case atStart=>exact⟨0,⟨#[]⟩,rfl,rfl,⟨rfl⟩,⟨by omega⟩,⟨by omega⟩,⟨fun j hj=>absurd hj (Nat.not_lt_zero _)⟩,⟨by repeat(first|exact Below.refl _ _|apply below_alloc|apply pw_below_drewN|apply below_drew1)⟩⟩
 case round=>
  obtain⟨i,s,rfl,rfl,HSB,HK,HK2,HN,HB⟩:=hrel
  cases gk with
  |zero=>exact absurd HK.out (by have:=HK2.out;omega)
  |succ kn=>
  by_cases hlt:i<l.length
  ·have hlt':decide (i<l.length)=true:=decide_eq_true hlt
   have p1:(i<l.length)=True:=eq_true hlt
   have HLT:=zqm hlt
   obtain⟨a,e,hx0,hx1,hx2⟩:=at_T25 (Kd.C_below HR.out HB.out) (i:Int) (by omega) (by omega)
   subst e
   rw [Int.toNat_natCast,rdT_nat] at hx0 hx1 hx2
   have hdc:=fun W (h:WordsAt W ad cw)=>deed_calls (l.getD i z25).f0 (l.getD i z25).f1 (l.getD i z25).f2 W ad cw h
   obtain⟨t,ht⟩: ∃t,t=dT (l.getD i z25):=⟨_,rfl⟩
   have hdc2: ∀W,WordsAt W ad cw→Calls Tryd.prog 12 #[.agg #[.int .i64 (l.getD i z25).f0,.int .i64 (l.getD i z25).f1,.int .i64 (l.getD i z25).f2]] W fun e w'=>e= .returned (.string t)∧Below W.heap.size W w':=by rw [ht];exact hdc
   have HD:=zqm hdc2
   have HT:=zqm ht
   have hts:t.size≤10:=by rw [ht];exact dT_size _
   have hss:s.size≤11534336:=by rw [HSB.out];have:=jouB_size l i;have:=HS.out;omega
   have sz1:(9223372036854775807<t.size+1)=False:=eq_false (by omega)
   have sz2:(9223372036854775807<s.size+(t.size+1))=False:=eq_false (by omega)
   generalize hk:(l.getD i z25).f0=xk at hx0 HD
   generalize ha:(l.getD i z25).f1=xa at hx1 HD
   generalize hb:(l.getD i z25).f2=xb at hx2 HD
   cases ho:dOk (l.getD i z25) with
   |false=>
    have HO:=zqm ho
    have q1:(t.toList==([]:List UInt8))=true:=beq_iff_eq.mpr (by rw [ht];exact(dT_nil _).2 ho)
    have q2:(t.toList !=([]:List UInt8))=false:=bne_eq_false_iff_eq.mpr (by rw [ht];exact(dT_nil _).2 ho)
    have q3:t.toList.isEmpty=true:=by rw [List.isEmpty_iff,ht];exact(dT_nil _).2 ho
    have q0:(t.toList= [])=True:=eq_true (by rw [ht];exact(dT_nil _).2 ho)
    clear hlt ht hdc hdc2 ho hts hss hk ha hb
    go_wp2_with (go_at_call 12;(with_reducible refine(HD.out _ (HW.out.below zq32)).mono ?_);rintro e w2 ⟨rfl,hb⟩;have HB2:=zqm (below_step zq32 hb);clear hb)
    go_ret
    exact⟨by rw [jouT_no HLT.out HO.out];rfl,zq131⟩
   |true=>
    have HO:=zqm ho
    have hne: ¬t.toList= []:=fun e=>by rw [ht] at e;rw [(dT_nil _).1 e] at ho;exact absurd ho (by simp)
    have q1:(t.toList==([]:List UInt8))=false:=beq_eq_false_iff_ne.mpr hne
    have q2:(t.toList !=([]:List UInt8))=true:=bne_iff_ne.mpr hne
    have q3:t.toList.isEmpty=false:=by rw [List.isEmpty_eq_false_iff];exact hne
    have q0:(t.toList= [])=False:=eq_false hne
    clear hlt ht hdc hdc2 ho hts hss hk ha hb hne
    go_wp2_with (go_at_call 12;(with_reducible refine(HD.out _ (HW.out.below zq32)).mono ?_);rintro e w2 ⟨rfl,hb⟩;have HB2:=zqm (below_step zq32 hb);clear hb)
    go_roundg kn
    case measure=>omega
    case rel=>exact⟨i+1,_,rfl,by first|go_num|(rw [wrap_nat (show i<4611686018427387904 by have:=HLT.out;have:=HS.out;omega)] <;> go_num),⟨by rw [jouB_succ HLT.out,← HSB.out];unfold lineT;rw [← HT.out]⟩,⟨by have:=HK.out;omega⟩,⟨by have:=HLT.out;omega⟩,⟨fun j hj=>by
     by_cases e:j=i
     ·rw [e];exact HO.out
     ·exact HN.out j (by omega)⟩,⟨zq131⟩⟩
  ·have hlt':decide (i<l.length)=false:=decide_eq_false hlt
   have p1:(i<l.length)=False:=eq_false hlt
   obtain rfl:i=l.length:=by have:=HK2.out;omega
   clear hlt
   go_wp2_with fail
   go_ret
   exact⟨by rw [jouT_yes HN.out,HSB.out];rfl,zq32⟩
theorem clip_calls (A : Option Addr) (n c : Nat) (hn : n ≤ c) (w : World) (hA : A = none → n = 0 ∧ c = 0) : Calls Tryd.prog 40 #[.slice A n c] w fun e w' => e = .returned (.slice A n n) ∧ w' = w := by
 have p1:((n:Int)<0)=False:=eq_false (by omega)
 have p2:(c<n)=False:=eq_false (by omega)
 have p3:(n≤c)=True:=eq_true hn
 have hN:=zqm hn
 clear hn
 cases A with
 |none=>
  obtain⟨rfl,rfl⟩:=hA rfl
  go_enter Tryd.func40,Tryd.ntmps40
  go_wp2_with fail
  go_ret
  exact⟨rfl,rfl⟩
 |some a=>
  clear hA
  go_enter Tryd.func40,Tryd.ntmps40
  go_wp2_with fail
  go_ret
  exact⟨rfl,rfl⟩
theorem cut_hit (t : ByteArray) (p q : List UInt8) (hp : (10 : UInt8) ∉ p) (ht : t.data.toList = p ++ 10 :: q) (hs : t.size < 4294967281) (w : World) (hE : ErrsAt w) : Calls Tryd.prog 39 #[.string t, .string ⟨#[10]⟩] w fun e w' => ∃ after, e = .returned (.tuple #[.string ⟨p.toArray⟩, .string after, .bool true]) ∧ Below w.heap.size w w' := by
 obtain⟨_,_,⟨m,hm⟩⟩:=hE
 refine(Tryd.strings_Cut t ⟨#[10]⟩ m w hs hm).mono ?_
 have e:Lib.cut t.data.toList (⟨#[10]⟩:ByteArray).data.toList=(p,q,true):=by
  have hi:Lib.index t.data.toList [10]=(p.length:Int):=by rw [ht];exact idc_pre 10 q p hp
  unfold Lib.cut
  rw [show (⟨#[10]⟩:ByteArray).data.toList= [10] from rfl,hi,if_pos (by omega),ht]
  simp
 rw [e]
 rintro e w' ⟨rfl,n,rfl⟩
 exact⟨_,rfl,pw_below_drewN (Below.refl _ _) _⟩
theorem cut_miss (t : ByteArray) (hp : (10 : UInt8) ∉ t.data.toList) (hs : t.size < 4294967281) (w : World) (hE : ErrsAt w) : Calls Tryd.prog 39 #[.string t, .string ⟨#[10]⟩] w fun e w' => e = .returned (.tuple #[.string t, .string ⟨#[]⟩, .bool false]) ∧ Below w.heap.size w w' := by
 obtain⟨_,_,⟨m,hm⟩⟩:=hE
 refine(Tryd.strings_Cut t ⟨#[10]⟩ m w hs hm).mono ?_
 have e:Lib.cut t.data.toList (⟨#[10]⟩:ByteArray).data.toList=(t.data.toList,[],false):=by
  unfold Lib.cut
  rw [show (⟨#[10]⟩:ByteArray).data.toList= [10] from rfl,idc_none 10 _ hp,if_neg (by omega)]
 rw [e,show (⟨t.data.toList.toArray⟩:ByteArray)=t from (ba_mk t).symm]
 rintro e w' ⟨rfl,n,rfl⟩
 exact⟨rfl,pw_below_drewN (Below.refl _ _) _⟩
set_option maxHeartbeats 4000000 in
set_option maxRecDepth 100000 in
theorem rjou_calls (s : ByteArray) (w : World) (ad : Addr) (cw : Nat) (hW : WordsAt w ad cw) (hE : ErrsAt w) (hs : s.size ≤ 16777216) :
 Calls Tryd.prog 22 #[.string s] w fun e w'=> ∃A n c,e= .returned (.tuple #[.slice A n n,.int .i64 (rdJ s).2])∧Kd.R k25 25 w' w.heap.size (fun _=>True) (.slice A n c) (rdJ s).1∧Below w.heap.size w w':=by
 have hu25:=Tryd.underlying25
 have HW:=zqm hW
 have HE:=zqm hE
 have HSZ:=zqm hs
 clear hW hE hs
 go_enter Tryd.func22,Tryd.ntmps22
 go_wp2_with (first|((with_reducible refine gate_dst (N:=11) rfl ?_);refine Kd.R_lit k25 _ 25 ?hg (N:=11) ?hd (xs:=([]:List S25)) (inner:= []) (ok:=fun _=>True) (okp:=fun _=>True) ?hr ?hp (fun _ hk=>hk) trivial (Below.refl _ _) (Nat.le_refl _) (by simp) ?_;(case hd=>rfl);(case hg=>rfl);(case hr=> exact zq18);(case hp=>exact(Reps.none _ _));intro v0 w2 ho3 hb hg_ hnew_;clear hg_ hnew_;have HO:=zqm (Kd.R_lower ho3 (Nat.le_refl _));have HB:=zqm hb;clear hb ho3))
 go_loopg [4,5] (s.size+1) (fun kq v4 v5 W=> ∃(out:List S25) (r:Nat),v5= .int .i64 r∧Aside0 ((out ++ (jrn [] (s.data.toList.drop r)).1=(rdJ s).1)∧(((r+(jrn [] (s.data.toList.drop r)).2:Nat):Int)=(rdJ s).2))∧Aside0 (s.size<r+kq)∧Aside0 (r≤s.size)∧Aside0 (out.length≤r)∧Aside0 (Kd.R k25 25 W w.heap.size (fun _=>True) v4 out)∧Aside0 (Below w.heap.size w W))
 case atStart=>exact⟨[],0,rfl,⟨by rw [List.drop_zero];unfold rdJ;exact⟨rfl,by simp⟩⟩,⟨by omega⟩,⟨Nat.zero_le _⟩,⟨Nat.le_refl _⟩,⟨zqfR HO.out⟩,⟨zq32⟩⟩
 case round=>
  obtain⟨out,r,rfl,HJ,HK,HK2,HOL,HO,HB⟩:=hrel
  cases gk with
  |zero=>exact absurd HK.out (by have:=HK2.out;omega)
  |succ kn=>
  have p1:((r:Int)<0)=False:=eq_false (by omega)
  have p2:(s.size<r)=False:=eq_false (by have:=HK2.out;omega)
  have p3:(r≤s.size)=True:=eq_true HK2.out
  have p4:((r:Int)≤(s.size:Int))=True:=eq_true (by have:=HK2.out;omega)
  have p5:((s.size:Int)<(r:Int))=False:=eq_false (by have:=HK2.out;omega)
  obtain⟨t,ht⟩: ∃t,s.extract r s.size=t:=⟨_,rfl⟩
  have htl:t.data.toList=s.data.toList.drop r:=by rw [← ht,Lib.extract_to_end]
  have hts:t.size≤s.size:=by rw [← ht,ByteArray.size_extract];omega
  have HT:=zqm ht
  obtain⟨Ao,co,eo⟩:=Kd.R_slice HO.out
  have HCO:=zqm (show out.length≤co from by have h_:=HO.out;rw [eo] at h_;exact(Kd.R_reads' h_).2.1)
  have HCA:=zqm (show Ao=none→out.length=0∧co=0 from fun e=>by
   have h_:=HO.out
   rw [eo,e] at h_
   obtain⟨_,inner,hown,_⟩:=h_
   rcases hown.2 with ⟨e1,e2⟩|⟨g,cap,cur,e1,_⟩
   ·injection e1 with e1 e3 e4
    exact⟨e2,e4⟩
   ·exact absurd e1 (by simp))
  have fin:(out ++ (jrn [] (s.data.toList.drop r)).1=(rdJ s).1)∧(((r+(jrn [] (s.data.toList.drop r)).2:Nat):Int)=(rdJ s).2):=HJ.out
  by_cases hm:(10:UInt8) ∈ s.data.toList.drop r
  ·obtain⟨p,q,hpq,hp⟩:=List.eq_append_cons_of_mem hm
   have hJ:=HJ.out
   rw [hpq,jrn_pre q p [] hp,List.nil_append] at hJ
   have hlen:s.size - r=p.length+(q.length+1):=by
    have h_:=congrArg List.length hpq
    rw [List.length_drop,← Lib.size_eq,List.length_append,List.length_cons] at h_
    exact h_
   have HQ:=zqm (show s.data.toList.drop (r+(p.length+1))=q from by
    rw [← List.drop_drop,hpq,← List.drop_drop];simp)
   have HC:=zqm (fun w hE=>cut_hit t p q hp (htl.trans hpq) (by have:=HSZ.out;omega) w hE)
   obtain⟨ln,hln⟩: ∃ln:ByteArray,ln=⟨p.toArray⟩:=⟨_,rfl⟩
   have hlz:ln.size=p.length:=by rw [hln,ba_size]
   rw [← hln] at HC hJ
   have hd:=fun w (h1:WordsAt w ad cw) (h2:ErrsAt w)=>read_calls ln w ad cw h1 h2 (by have:=HSZ.out;omega)
   unfold okS dS at hJ
   obtain⟨⟨k,a,b,ok⟩,hr⟩: ∃x,x=rdD ln:=⟨_,rfl⟩
   rw [← hr] at hd hJ
   have HD:=zqm hd
   have HL:=zqm hlen
   have HZ:=zqm hlz
   clear hd hr hln fin
   cases ok with
   |true=>
    rw [if_pos rfl] at hJ
    have HJ2:=zqm hJ
    clear hJ hm hp hpq hlen htl hts ht hlz eo HCO HCA
    rw [← HT.out] at HC
    go_wp2_with (first|(go_at_call 39;(with_reducible refine(HC.out _ (HE.out.below zq32)).mono ?_);rintro e w3 ⟨after,rfl,hb⟩;have n0_:=zqm (below_step zq32 hb);have n1_:=zqm (Kd.R_below (zqfR HO.out) hb);clear HB HO;have HB:=n0_;have HO:=n1_;clear n0_ n1_ hb)|(go_at_call 19;(with_reducible refine(HD.out _ (HW.out.below HB.out) (HE.out.below HB.out)).mono ?_);rintro e w4 ⟨rfl,hb⟩;have n0_:=zqm (below_step HB.out hb);have n1_:=zqm (Kd.R_below HO.out hb);clear HB HO;have HB:=n0_;have HO:=n1_;clear n0_ n1_;clear hb)|((with_reducible refine gate_dst (N:=9) rfl ?_);refine box_event ?hg (N:=9) ?hd (cs:= #[.int .i64 0,.int .i64 0,.int .i64 0]) (t:=25) ?hr ?_;(case hd=>rfl);(case hg=>rfl);(case hr=> exact zq18);intro g9 hg_ w5 hbox hb;have HXW:=zqm (show w.heap.size≤g9 from by rw [hg_];exact HB.out.size);have n0_:=zqm (Kd.R_below (Kd.R_elderB HO.out g9 (Nat.le_of_eq hg_.symm)) hb);have n1_:=zqm (below_step HB.out hb);clear HB HO;have HO:=n0_;have HB:=n1_;clear n0_ n1_;have HX:=zqm hbox;clear hbox hb hg_)|((with_reducible refine gate_store (t:=25) (p:=9) rfl ?_);have hc0_:w5.cell? ⟨g9,0,none⟩=some (.int .i64 0):=(blk_cell HX.out 0).trans rfl;have hf0_:=blk_frozen HX.out 0;have hc1_:w5.cell? ⟨g9,1,none⟩=some (.int .i64 0):=(blk_cell HX.out 1).trans rfl;have hf1_:=blk_frozen HX.out 1;have hc2_:w5.cell? ⟨g9,2,none⟩=some (.int .i64 0):=(blk_cell HX.out 2).trans rfl;have hf2_:=blk_frozen HX.out 2;refine store_event (t:=25) (p:=9) (v:=?vo_9) (w1:=((w5.setCell ⟨g9,0,none⟩ (.int .i64 k)).setCell ⟨g9,1,none⟩ (.int .i64 a)).setCell ⟨g9,2,none⟩ (.int .i64 b)) ?hg ?ho ?hn ?hr ?_;(case ho=>rfl);(case hg=>rfl);(case hn=>rfl);(case hr=> exact zq18);intro w6 hw;clear hc0_ hc1_ hc2_ hf0_ hf1_ hf2_;have n0_:=zqm ((by rw [hw];exact below_set (below_set (below_set HB.out HXW.out) HXW.out) HXW.out:Below w.heap.size w w6));have n1_:=zqm ((by rw [hw];exact blk_put (blk_put (blk_put HX.out 0 _ rfl) 1 _ rfl) 2 _ rfl:w6.heap[g9]? =some (.cells #[.int .i64 k,.int .i64 a,.int .i64 b] 25 (0,0))));have n2_:=zqm ((by rw [hw];exact Kd.R_mono (Kd.R_far (p:=⟨g9,2,none⟩) (Kd.R_far (p:=⟨g9,1,none⟩) (Kd.R_far (p:=⟨g9,0,none⟩) (Kd.R_mono HO.out (fun k_ hk=>(⟨hk,hk.2⟩:_∧k_≠g9))) (fun _ hk=>hk.2) (.int .i64 k)) (fun _ hk=>hk.2) (.int .i64 a)) (fun _ hk=>hk.2) (.int .i64 b)) (fun _ hk=>hk.1.2):Kd.R k25 25 w6 w.heap.size (fun k_=>k_≠g9) u4 out));clear HB HX HO;have HB:=n0_;have HX:=n1_;have HO:=n2_;clear n0_ n1_ n2_;clear hw;have hx0:w6.cell? ⟨g9,0,none⟩=some (.int .i64 k):=(blk_cell HX.out 0).trans rfl;have hx1:w6.cell? ⟨g9,1,none⟩=some (.int .i64 a):=(blk_cell HX.out 1).trans rfl;have hx2:w6.cell? ⟨g9,2,none⟩=some (.int .i64 b):=(blk_cell HX.out 2).trans rfl)|((with_reducible refine gate_dst (N:=37) rfl ?_);refine Kd.R_append k25 (w0:=w) w.heap.size rfl (.tmp 34) (.tmp 36) 31 25 (.agg #[.int .i64 0,.int .i64 0,.int .i64 0]) 24 rfl Tryd.underlying31 info25 rfl (by decide) (by omega) u4 out (⟨k,a,b⟩:S25) [.int .i64 k,.int .i64 a,.int .i64 b] (fun _=>True) (fun _=>False) rfl zq18 (k25_mkM _ _ _ (⟨k,a,b⟩:S25)) (fun _ hk=>hk.elim) (fun _ _=>trivial) (Kd.R_mono HO.out (fun _ _=>trivial)) HB.out HB.out.size (by have:=HOL.out;have:=HSZ.out;have:=HK2.out;omega) ?_;intro v7 w7 ho hb hg hat;clear HB HO hx0 hx1 hx2;have HO:=zqm ho;have HB:=zqm hb;clear ho hb hg hat))
    go_roundg kn
    case measure=>omega
    case rel=>exact⟨out ++ [⟨k,a,b⟩],r+(p.length+1),by
     refine congrArg (Value.int .i64) ?_
     have h1_:=HL.out;have h2_:=HZ.out;have h3_:=HSZ.out;have h4_:=HK2.out
     (try simp only [i64_w]);(try simp only [wrap64]);omega,⟨by
     rw [HQ.out,List.append_assoc]
     exact⟨HJ2.out.1,by rw [← HJ2.out.2];omega⟩⟩,⟨by have:=HK.out;have:=HL.out;omega⟩,⟨by have:=HL.out;have:=HK2.out;omega⟩,⟨by have:=HOL.out;simp only [List.length_append,List.length_cons,List.length_nil];omega⟩,⟨zqfR HO.out⟩,⟨zq32⟩⟩
   |false=>
    rw [if_neg (by simp)] at hJ
    have HJ2:=zqm hJ
    subst eo
    clear hJ hm hp hpq hlen htl hts ht hlz
    rw [← HT.out] at HC
    go_wp2_with (first|(go_at_call 39;(with_reducible refine(HC.out _ (HE.out.below zq32)).mono ?_);rintro e w3 ⟨after,rfl,hb⟩;have n0_:=zqm (below_step zq32 hb);have n1_:=zqm (Kd.R_below (zqfR HO.out) hb);clear HB HO;have HB:=n0_;have HO:=n1_;clear n0_ n1_ hb)|(go_at_call 19;(with_reducible refine(HD.out _ (HW.out.below HB.out) (HE.out.below HB.out)).mono ?_);rintro e w4 ⟨rfl,hb⟩;have n0_:=zqm (below_step HB.out hb);have n1_:=zqm (Kd.R_below HO.out hb);clear HB HO;have HB:=n0_;have HO:=n1_;clear n0_ n1_;clear hb)|((with_reducible refine gate_dst (N:=9) rfl ?_);refine box_event ?hg (N:=9) ?hd (cs:= #[.int .i64 0,.int .i64 0,.int .i64 0]) (t:=25) ?hr ?_;(case hd=>rfl);(case hg=>rfl);(case hr=> exact zq18);intro g9 hg_ w5 hbox hb;have HXW:=zqm (show w.heap.size≤g9 from by rw [hg_];exact HB.out.size);have n0_:=zqm (Kd.R_below (Kd.R_elderB HO.out g9 (Nat.le_of_eq hg_.symm)) hb);have n1_:=zqm (below_step HB.out hb);clear HB HO;have HO:=n0_;have HB:=n1_;clear n0_ n1_;have HX:=zqm hbox;clear hbox hb hg_)|((with_reducible refine gate_store (t:=25) (p:=9) rfl ?_);have hc0_:w5.cell? ⟨g9,0,none⟩=some (.int .i64 0):=(blk_cell HX.out 0).trans rfl;have hf0_:=blk_frozen HX.out 0;have hc1_:w5.cell? ⟨g9,1,none⟩=some (.int .i64 0):=(blk_cell HX.out 1).trans rfl;have hf1_:=blk_frozen HX.out 1;have hc2_:w5.cell? ⟨g9,2,none⟩=some (.int .i64 0):=(blk_cell HX.out 2).trans rfl;have hf2_:=blk_frozen HX.out 2;refine store_event (t:=25) (p:=9) (v:=?vo_8) (w1:=((w5.setCell ⟨g9,0,none⟩ (.int .i64 k)).setCell ⟨g9,1,none⟩ (.int .i64 a)).setCell ⟨g9,2,none⟩ (.int .i64 b)) ?hg ?ho ?hn ?hr ?_;(case ho=>rfl);(case hg=>rfl);(case hn=>rfl);(case hr=> exact zq18);intro w6 hw;clear hc0_ hc1_ hc2_ hf0_ hf1_ hf2_;have n0_:=zqm ((by rw [hw];exact below_set (below_set (below_set HB.out HXW.out) HXW.out) HXW.out:Below w.heap.size w w6));have n1_:=zqm ((by rw [hw];exact blk_put (blk_put (blk_put HX.out 0 _ rfl) 1 _ rfl) 2 _ rfl:w6.heap[g9]? =some (.cells #[.int .i64 k,.int .i64 a,.int .i64 b] 25 (0,0))));have n2_:=zqm ((by rw [hw];exact Kd.R_mono (Kd.R_far (p:=⟨g9,2,none⟩) (Kd.R_far (p:=⟨g9,1,none⟩) (Kd.R_far (p:=⟨g9,0,none⟩) (Kd.R_mono HO.out (fun k_ hk=>(⟨hk,hk.2⟩:_∧k_≠g9))) (fun _ hk=>hk.2) (.int .i64 k)) (fun _ hk=>hk.2) (.int .i64 a)) (fun _ hk=>hk.2) (.int .i64 b)) (fun _ hk=>hk.1.2):Kd.R k25 25 w6 w.heap.size (fun k_=>k_≠g9) (.slice Ao out.length co) out));clear HB HX HO;have HB:=n0_;have HX:=n1_;have HO:=n2_;clear n0_ n1_ n2_;clear hw;have hx0:w6.cell? ⟨g9,0,none⟩=some (.int .i64 k):=(blk_cell HX.out 0).trans rfl;have hx1:w6.cell? ⟨g9,1,none⟩=some (.int .i64 a):=(blk_cell HX.out 1).trans rfl;have hx2:w6.cell? ⟨g9,2,none⟩=some (.int .i64 b):=(blk_cell HX.out 2).trans rfl)|(go_at_call 40;(with_reducible refine(clip_calls Ao out.length co HCO.out _ HCA.out).mono ?_);rintro e w8 ⟨rfl,rfl⟩))
    go_ret2
    exact⟨Ao,out.length,co,by rw [← HJ2.out.2];rfl,zq124,zq32⟩
  ·have HC:=zqm (fun w hE=>cut_miss t (by rw [htl];exact hm) (by have:=HSZ.out;omega) w hE)
   rw [jrn_none _ [] hm] at fin
   have HJ2:=zqm fin
   have hd:=fun w (h1:WordsAt w ad cw) (h2:ErrsAt w)=>read_calls t w ad cw h1 h2 (by have:=HSZ.out;omega)
   obtain⟨⟨k,a,b,ok⟩,hr⟩: ∃x,x=rdD t:=⟨_,rfl⟩
   rw [← hr] at hd
   have HD:=zqm hd
   subst eo
   clear hm htl hts ht fin hd hr
   rw [← HT.out] at HC HD
   clear HT
   go_wp2_with (first|(go_at_call 39;(with_reducible refine(HC.out _ (HE.out.below zq32)).mono ?_);rintro e w3 ⟨rfl,hb⟩;have n0_:=zqm (below_step zq32 hb);have n1_:=zqm (Kd.R_below (zqfR HO.out) hb);clear HB HO;have HB:=n0_;have HO:=n1_;clear n0_ n1_ hb)|(go_at_call 19;(with_reducible refine(HD.out _ (HW.out.below HB.out) (HE.out.below HB.out)).mono ?_);rintro e w4 ⟨rfl,hb⟩;have n0_:=zqm (below_step HB.out hb);have n1_:=zqm (Kd.R_below HO.out hb);clear HB HO;have HB:=n0_;have HO:=n1_;clear n0_ n1_;clear hb)|((with_reducible refine gate_dst (N:=9) rfl ?_);refine box_event ?hg (N:=9) ?hd (cs:= #[.int .i64 0,.int .i64 0,.int .i64 0]) (t:=25) ?hr ?_;(case hd=>rfl);(case hg=>rfl);(case hr=> exact zq18);intro g9 hg_ w5 hbox hb;have HXW:=zqm (show w.heap.size≤g9 from by rw [hg_];exact HB.out.size);have n0_:=zqm (Kd.R_below (Kd.R_elderB HO.out g9 (Nat.le_of_eq hg_.symm)) hb);have n1_:=zqm (below_step HB.out hb);clear HB HO;have HO:=n0_;have HB:=n1_;clear n0_ n1_;have HX:=zqm hbox;clear hbox hb hg_)|((with_reducible refine gate_store (t:=25) (p:=9) rfl ?_);have hc0_:w5.cell? ⟨g9,0,none⟩=some (.int .i64 0):=(blk_cell HX.out 0).trans rfl;have hf0_:=blk_frozen HX.out 0;have hc1_:w5.cell? ⟨g9,1,none⟩=some (.int .i64 0):=(blk_cell HX.out 1).trans rfl;have hf1_:=blk_frozen HX.out 1;have hc2_:w5.cell? ⟨g9,2,none⟩=some (.int .i64 0):=(blk_cell HX.out 2).trans rfl;have hf2_:=blk_frozen HX.out 2;refine store_event (t:=25) (p:=9) (v:=?vo_7) (w1:=((w5.setCell ⟨g9,0,none⟩ (.int .i64 k)).setCell ⟨g9,1,none⟩ (.int .i64 a)).setCell ⟨g9,2,none⟩ (.int .i64 b)) ?hg ?ho ?hn ?hr ?_;(case ho=>rfl);(case hg=>rfl);(case hn=>rfl);(case hr=> exact zq18);intro w6 hw;clear hc0_ hc1_ hc2_ hf0_ hf1_ hf2_;have n0_:=zqm ((by rw [hw];exact below_set (below_set (below_set HB.out HXW.out) HXW.out) HXW.out:Below w.heap.size w w6));have n1_:=zqm ((by rw [hw];exact blk_put (blk_put (blk_put HX.out 0 _ rfl) 1 _ rfl) 2 _ rfl:w6.heap[g9]? =some (.cells #[.int .i64 k,.int .i64 a,.int .i64 b] 25 (0,0))));have n2_:=zqm ((by rw [hw];exact Kd.R_mono (Kd.R_far (p:=⟨g9,2,none⟩) (Kd.R_far (p:=⟨g9,1,none⟩) (Kd.R_far (p:=⟨g9,0,none⟩) (Kd.R_mono HO.out (fun k_ hk=>(⟨hk,hk.2⟩:_∧k_≠g9))) (fun _ hk=>hk.2) (.int .i64 k)) (fun _ hk=>hk.2) (.int .i64 a)) (fun _ hk=>hk.2) (.int .i64 b)) (fun _ hk=>hk.1.2):Kd.R k25 25 w6 w.heap.size (fun k_=>k_≠g9) (.slice Ao out.length co) out));clear HB HX HO;have HB:=n0_;have HX:=n1_;have HO:=n2_;clear n0_ n1_ n2_;clear hw;have hx0:w6.cell? ⟨g9,0,none⟩=some (.int .i64 k):=(blk_cell HX.out 0).trans rfl;have hx1:w6.cell? ⟨g9,1,none⟩=some (.int .i64 a):=(blk_cell HX.out 1).trans rfl;have hx2:w6.cell? ⟨g9,2,none⟩=some (.int .i64 b):=(blk_cell HX.out 2).trans rfl)|(go_at_call 40;(with_reducible refine(clip_calls Ao out.length co HCO.out _ HCA.out).mono ?_);rintro e w8 ⟨rfl,rfl⟩))
   go_ret2
   exact⟨Ao,out.length,co,by rw [← HJ2.out.2];rfl,zq124,zq32⟩
set_option maxHeartbeats 4000000 in
set_option maxRecDepth 100000 in
theorem laws_FnJournalText.holds (A : Option Addr) (c : Nat) (l : List Int) (w : World) (ad : Addr) (cw : Nat) (hW : WordsAt w ad cw) (hE : ErrsAt w) (hr : Kd.C (Kd.int .u8) w A l.length l) (hc : l.length ≤ c) (hby : Bytes l) :
 Calls Tryd.prog 9 #[.slice A l.length c] w fun e w'=>e= .returned (.bool true)∧Below w.heap.size w w':=by
 have hu25:=Tryd.underlying25
 have HW:=zqm hW
 have HE:=zqm hE
 have HR:=zqm hr
 have HC:=zqm hc
 have HB:=zqm (Below.refl w.heap.size w)
 by_cases hl:1048576<l.length
 ·clear hW hE hr hc hby
  have p0:((1048576:Int)<(l.length:Int))=True:=eq_true (by omega)
  have p0':decide ((1048576:Int)<(l.length:Int))=true:=decide_eq_true (by omega)
  have p0n:(1048576<l.length)=True:=eq_true hl
  have p0n':decide (1048576<l.length)=true:=decide_eq_true hl
  clear hl
  go_enter Tryd.func9,Tryd.ntmps9
  go_wp2_with (first|fail)
  go_ret
  exact⟨rfl,zq32⟩
 ·have p0:((1048576:Int)<(l.length:Int))=False:=eq_false (by omega)
  have p0':decide ((1048576:Int)<(l.length:Int))=false:=decide_eq_false (by omega)
  have p0n:(1048576<l.length)=False:=eq_false hl
  have p0n':decide (1048576<l.length)=false:=decide_eq_false hl
  obtain⟨lst,h1,hls⟩:=drawn_journal hby
  obtain⟨K,h1⟩:=h1.rounds
  obtain⟨m,hm⟩:=(spec_JournalText.ev lst (by omega)).rounds
  obtain⟨K3,h3⟩:=(same_ev lst (by omega)).rounds
  obtain⟨KA,hal⟩:=alive_run.rounds
  have HAL:=zqm hal
  have H1:=zqm h1
  have H3:=zqm h3
  have HJ:=zqm (fun Ax cx W (h:WordsAt W ad cw) hr=>jou_calls Ax cx lst W ad cw h hr (by omega))
  have hts:(jouT lst).size≤16777216:=by
   unfold jouT
   split
   ·have:=jouB_size lst lst.length;omega
   ·exact Nat.zero_le _
  have hre:=fun w (h1:WordsAt w ad cw) (h2:ErrsAt w)=>rjou_calls (jouT lst) w ad cw h1 h2 hts
  clear h1 h3 hal
  clear hW hE hr hc hby hl
  by_cases h_:(jouT lst).toList= []
  ·obtain⟨t,ht⟩: ∃t,t=jouT lst:=⟨_,rfl⟩
   rw [← ht] at hm HJ h_
   have HM:=zqm hm
   clear hm ht hre hts hls
   have q1:(t.toList==([]:List UInt8))=true:=beq_iff_eq.mpr h_
   have q2:(t.toList !=([]:List UInt8))=false:=bne_eq_false_iff_eq.mpr h_
   have q3:t.toList.isEmpty=true:=by rw [List.isEmpty_iff];exact h_
   have q0:(t.toList= [])=True:=eq_true h_
   clear h_
   go_enter Tryd.func9,Tryd.ntmps9
   go_wp2_with (first|(go_at_call 28;(with_reducible refine(spec_DrawJournalText.calls K A c l lst _ HR.out HC.out H1.out).mono ?_);rintro e w' ⟨v_,rfl,ho,hb⟩;obtain⟨A1,c1,rfl⟩:=Kd.R_slice ho;have HR1:=zqm (Kd.R_reads' ho).2.2;have HC1:=zqm (Kd.R_reads' ho).2.1;have n0_:=zqm (below_step HB.out hb);clear HB;have HB:=n0_;clear n0_;clear ho hb HR)|(go_at_call 16;(with_reducible refine(HJ.out A1 c1 _ (HW.out.below HB.out) HR1.out).mono ?_);rintro e w' ⟨rfl,hb⟩;have n0_:=zqm (below_step HB.out hb);have n1_:=zqm (Kd.C_below HR1.out hb);clear HB HR1;have HB:=n0_;have HR1:=n1_;clear n0_ n1_;clear hb)|(go_at_call 14;(with_reducible refine(spec_JournalText.calls m A1 c1 lst t _ HR1.out HC1.out HM.out).mono ?_);rintro e w' ⟨rfl,hb⟩;have n0_:=zqm (below_step HB.out hb);have n1_:=zqm (Kd.C_below HR1.out hb);clear HB HR1;have HB:=n0_;have HR1:=n1_;clear n0_ n1_;clear hb)|(go_at_call 26;(with_reducible refine(laws_alive.calls KA true _ HAL.out).mono ?_);rintro e w' ⟨rfl,hb⟩;have n0_:=zqm (below_step HB.out hb);clear HB;have HB:=n0_;clear n0_;clear hb))
   go_ret
   exact⟨rfl,zq32⟩
  ·have hrd:=rdJ_jou h_
   rw [hrd] at hre
   obtain⟨t,ht⟩: ∃t,t=jouT lst:=⟨_,rfl⟩
   rw [← ht] at hm HJ h_ hre
   have HRJ:=zqm hre
   have HM:=zqm hm
   clear hm ht hre hrd hts hls
   have q1:(t.toList==([]:List UInt8))=false:=beq_eq_false_iff_ne.mpr h_
   have q2:(t.toList !=([]:List UInt8))=true:=bne_iff_ne.mpr h_
   have q3:t.toList.isEmpty=false:=by rw [List.isEmpty_eq_false_iff];exact h_
   have q0:(t.toList= [])=False:=eq_false h_
   clear h_
   go_enter Tryd.func9,Tryd.ntmps9
   go_wp2_with (first|(go_at_call 28;(with_reducible refine(spec_DrawJournalText.calls K A c l lst _ HR.out HC.out H1.out).mono ?_);rintro e w' ⟨v_,rfl,ho,hb⟩;obtain⟨A1,c1,rfl⟩:=Kd.R_slice ho;have HR1:=zqm (Kd.R_reads' ho).2.2;have HC1:=zqm (Kd.R_reads' ho).2.1;have n0_:=zqm (below_step HB.out hb);clear HB;have HB:=n0_;clear n0_;clear ho hb HR)|(go_at_call 16;(with_reducible refine(HJ.out A1 c1 _ (HW.out.below HB.out) HR1.out).mono ?_);rintro e w' ⟨rfl,hb⟩;have n0_:=zqm (below_step HB.out hb);have n1_:=zqm (Kd.C_below HR1.out hb);clear HB HR1;have HB:=n0_;have HR1:=n1_;clear n0_ n1_;clear hb)|(go_at_call 14;(with_reducible refine(spec_JournalText.calls m A1 c1 lst t _ HR1.out HC1.out HM.out).mono ?_);rintro e w' ⟨rfl,hb⟩;have n0_:=zqm (below_step HB.out hb);have n1_:=zqm (Kd.C_below HR1.out hb);clear HB HR1;have HB:=n0_;have HR1:=n1_;clear n0_ n1_;clear hb)|(go_at_call 22;(with_reducible refine(HRJ.out _ (HW.out.below HB.out) (HE.out.below HB.out)).mono ?_);rintro e w' ⟨A2,n2,c2,rfl,ho,hb⟩;obtain rfl:=(Kd.R_reads' ho).1;have HR2:=zqm (Kd.R_reads' ho).2.2;have n0_:=zqm (below_step HB.out hb);have n1_:=zqm (Kd.C_below HR1.out hb);clear HB HR1;have HB:=n0_;have HR1:=n1_;clear n0_ n1_;clear ho hb)|(go_at_call 29;(with_reducible refine(laws_sameDeeds.calls K3 A2 lst.length lst A1 c1 lst true _ HR2.out (Nat.le_refl _) HR1.out HC1.out H3.out).mono ?_);rintro e w' ⟨rfl,⟨⟨nd,rfl⟩⟩⟩;have n0_:=zqm (pw_below_drewN HB.out nd);clear HB HR1 HR2;have HB:=n0_;clear n0_))
   go_ret
   exact⟨rfl,zq32⟩
end Go.Proofs.YtddgcdpogpppgaaDoor.Print
end
