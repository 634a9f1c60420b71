/- Part 5 of what is common to several claims of this seat: RdL, JtL. -/
import Derived.Test.YtddgcdpogpppgaaDoorLB4
import Derived.Below
import Derived.Deep.Draws
import Derived.Deep.AppendLies
import Derived.Maps.AppendAt
import Derived.OwnWalk
import Derived.Laws.BytesArg
import Derived.Laws.MakeOwn
import Derived.Laws.OwnMore
import Derived.Deep.OwnRows
import Derived.Tactics
import Derived.Lib.ConvBytes
import Derived.Laws.Slices
import Derived.WalkKit
import Derived.KernelRfl
import Derived.RowKit3
import Derived.Deep.LoopGhost
import Derived.Deep.QuietTactic
import Derived.BigQuiet
import Derived.WideLaws
import Derived.Deep.DeepCutAuto
import Derived.Deep.CutBlock
import Derived.Deep.RegionHeld3
import Derived.Laws.Rows
import Derived.Lib.AppendStr
import Derived.ArgAppend
import Derived.Laws.IdiomCopy
import Derived.RowKit
import Derived.OrdersHeld
import Derived.Laws.BitsLemmas
import Derived.Laws.StructEq
import Derived.Test.YtddgcdpogpppgaaDoorProg
import Derived.Lib.ItoaNum
import Derived.Lib.Strings
import Derived.Shelf.Utf8.RuneCount
import Derived.Shelf.Strconv.Atoi
import Derived.Shelf.Strconv.Itoa0
import Derived.Shelf.Strconv.Itoa1
import Derived.Shelf.LaysM
import Derived.Shelf.Strconv.Itoa2
import Derived.Shelf.Strconv.Itoa3
import Derived.Shelf.Strconv.AtoiErrFast
import Derived.Shelf.Strconv.ParseIntEmpty
import Derived.Shelf.Strconv.AtoiFail
import Derived.Shelf.Strconv.Clone
import Derived.Shelf.Strconv.SyntaxError
import Derived.Shelf.LaysC
import Derived.Shelf.Strconv.ToError
import Derived.Shelf.Strconv.Lower
import Derived.Shelf.Strconv.ParseUint10
import Derived.Shelf.Strconv.ParseUint10Empty
import Derived.Shelf.Strconv.ParseUint10Any
import Derived.Shelf.Strconv.ParseInt10
import Derived.Shelf.Strconv.AtoiLong
import Derived.Shelf.Strconv.AtoiInnerAll
import Derived.Shelf.Strconv.RangeError
import Derived.Shelf.Strconv.ToErrorRange
import Derived.Shelf.Strconv.AtoiAll
import Derived.Shelf.Strconv.ErrVarAll
import Derived.Shelf.Strings.Search1
import Derived.Shelf.Strings.Search2
import Derived.Shelf.Strings.Search3
import Derived.Shelf.Strings.Cut
import Derived.Shelf.Strings.Count
import Derived.Shelf.Strings.Shaped
import Derived.Shelf.Strings.Split
import Derived.Shelf.Strings.SplitShaped
import Derived.Shelf.Unicode.Decode
import Derived.Shelf.Strings.RuneCount
import Derived.Shelf.Strings.Explode
import Derived.Shelf.Unicode.DecodeSlow
import Derived.Shelf.Unicode.DecodeAny
import Derived.Shelf.Slices.Turned
set_option linter.all false
section
namespace Go.Proofs.YtddgcdpogpppgaaDoor.Print
open Go.RowKit Go.Proofs.YtddgcdpogpppgaaDoorW.PrintWords Go.Proofs.YtddgcdpogpppgaaDoorW.PrintLast Go.Proofs.YtddgcdpogpppgaaDoorW.PrintMore
open Oml
theorem ba_app (a b : List UInt8) : (⟨a.toArray⟩ : ByteArray) ++ ⟨b.toArray⟩ = ⟨(a ++ b).toArray⟩ := by apply ByteArray.ext; simp [ByteArray.data_append]
theorem ba_size (a : List UInt8) : (⟨a.toArray⟩ : ByteArray).size = a.length := by simp [ByteArray.size]
theorem ba_ext {s t : ByteArray} (h : s.data.toList = t.data.toList) : s = t := by apply ByteArray.ext; exact Array.toList_inj.1 h
theorem ba_mk (s : ByteArray) : s = ⟨s.data.toList.toArray⟩ := by apply ByteArray.ext; simp
theorem ba_toList (s : ByteArray) : s.toList = s.data.toList := ByteArray.toList_eq s
def numL (n : Nat) : List UInt8 := if n < 10 then [UInt8.ofNat (48 + n)] else [UInt8.ofNat (48 + n / 10), UInt8.ofNat (48 + n % 10)]
def numT (n : Nat) : ByteArray := ⟨(numL n).toArray⟩
theorem num_dec {n : Nat} (h : n < 100) : Lib.decDigits n = numL n := by
 unfold numL
 rw [Lib.decDigits]
 by_cases h1:n<10
 ·rw [dif_pos h1,if_pos h1]
 ·rw [dif_neg h1,if_neg h1,Lib.decDigits,dif_pos (by omega)];rfl
theorem num_len (n : Nat) : (numL n).length ≤ 2 := by unfold numL; split <;> simp
theorem number_tab : ∀ n : Fin 100, (spec_l1Number.f 3 (n.1 : Int)).map (fun s => s.data.toList) = some (numL n.1) := by decide +kernel
theorem number_ev {n : Nat} (h : n < 100) : Ev (fun k => spec_l1Number.f k (n : Int)) (numT n) := by
 have h1:=number_tab ⟨n,h⟩
 obtain⟨s,h2,h3⟩:=Option.map_eq_some_iff.1 h1
 have h4:s=numT n:=ba_ext (by rw [h3];rfl)
 rw [h4] at h2
 exact Ev.of (spec_l1Number.mono _) h2
def deedV (k a b : Int) : Bool := (decide (k = 0) && (decide (0 ≤ a ∧ a ≤ 9) && decide (b = 0))) || ((decide (k = 1) && (decide (0 ≤ a ∧ a ≤ 9) && decide (b = 0))) || ((decide (k = 2) && (decide (a = 0) && decide (b = 0))) || ((decide (k = 3) && (decide (0 ≤ a ∧ a ≤ 99) && decide (0 ≤ b ∧ b ≤ 99))) || (decide (k = 4) && (decide (a = 0) && decide (b = 0))))))
def deedL (k a b : Int) : List UInt8 := if k = 0 then [103, 108, 117, 101, 32] ++ numL a.toNat else if k = 1 then [116, 105, 109, 101, 115, 32] ++ numL a.toNat else if k = 2 then [114, 105, 110, 103] else if k = 3 then [112, 97, 114, 116, 32] ++ numL a.toNat ++ [32] ++ numL b.toNat else [98, 97, 99, 107]
def deedT (k a b : Int) : ByteArray := if deedV k a b = true then ⟨(deedL k a b).toArray⟩ else ⟨#[]⟩
theorem deedV_iff {k a b : Int} : deedV k a b = true ↔ (k = 0 ∧ (0 ≤ a ∧ a ≤ 9) ∧ b = 0) ∨ (k = 1 ∧ (0 ≤ a ∧ a ≤ 9) ∧ b = 0) ∨ (k = 2 ∧ a = 0 ∧ b = 0) ∨ (k = 3 ∧ (0 ≤ a ∧ a ≤ 99) ∧ (0 ≤ b ∧ b ≤ 99)) ∨ (k = 4 ∧ a = 0 ∧ b = 0) := by
 unfold deedV
 simp only [Bool.or_eq_true,Bool.and_eq_true,decide_eq_true_eq]
theorem deedL_len (k a b : Int) : 0 < (deedL k a b).length ∧ (deedL k a b).length ≤ 10 := by
 have h1:=num_len a.toNat
 have h2:=num_len b.toNat
 unfold deedL
 repeat' split
 all_goals simp only [List.length_append,List.length_cons,List.length_nil];omega
theorem deedT_size (k a b : Int) : (deedT k a b).size ≤ 10 := by
 unfold deedT
 split
 ·rw [ba_size]; exact (deedL_len k a b).2
 ·exact Nat.zero_le _
theorem deedT_ne {k a b : Int} : deedT k a b ≠ ⟨#[]⟩ ↔ deedV k a b = true := by
 unfold deedT
 constructor
 ·intro h
  split at h
  ·assumption
  ·exact absurd rfl h
 ·intro h e
  rw [if_pos h] at e
  have h1:=congrArg ByteArray.size e
  rw [ba_size] at h1
  have h2:=(deedL_len k a b).1
  simp [ByteArray.size] at h1
  rw [h1] at h2
  exact absurd h2 (by simp)
theorem spec_l1In.ev (x lo hi : Int) : spec_l1In.f x lo hi = some (decide (lo ≤ x ∧ x ≤ hi)) := by
 unfold spec_l1In.f
 by_cases h : x ≥ lo
 ·rw [if_pos h]; simp [h]
 ·rw [if_neg h]; simp; omega
theorem dt_back (k a b : Int) (h0 : ¬ k = 0) (h1 : ¬ k = 1) (h2 : ¬ k = 2) (h3 : ¬ k = 3) : (if (k == 4 && (a == 0 && (b == 0))) = true then (some (⟨#[98, 97, 99, 107]⟩ : ByteArray)) else (some (⟨#[]⟩ : ByteArray))) = some (deedT k a b) := by
 unfold deedT deedV deedL
 by_cases h:k=4∧a=0∧b=0
 ·obtain⟨rfl,rfl,rfl⟩:=h;rfl
 ·have e:(k==4 && (a==0 && (b==0)))=false:=by
   cases h5:(k==4 && (a==0 && (b==0)))
   ·rfl
   ·simp only [Bool.and_eq_true,beq_iff_eq] at h5;exact absurd h5 h
  rw [e,if_neg (by simp),if_neg]
  simp only [Bool.or_eq_true,Bool.and_eq_true,decide_eq_true_eq]
  omega
theorem spec_DeedText.ev (k a b : Int) : Ev (fun m => spec_DeedText.f m k a b) (deedT k a b) := by
 have bad:deedV k a b=false→Ev (fun m=>some (⟨#[]⟩:ByteArray)) (deedT k a b):=fun h=>by unfold deedT;rw [h,if_neg (by simp)];exact Ev.now _
 have j2f: ¬k=0→ ¬k=1→ ¬k=2→(k=3→deedV k a b=false)→Ev (fun m=>spec_DeedText.j2 m false k a b) (deedT k a b):=fun h0 h1 h2 h3=>by
  refine Ev.succ ?_
  simp only [spec_DeedText.j2]
  refine Ev.ite_neg (by simp) ?_
  by_cases h:k=3
  ·have hv:=h3 h
   subst h
   exact Ev.ite_neg (by simp) (bad hv)
  ·rw [dt_back k a b h0 h1 h2 h];exact Ev.now _
 have j1f: ¬k=0→(k=1→deedV k a b=false)→Ev (fun m=>spec_DeedText.j1 m false k a b) (deedT k a b):=fun h0 h1=>by
  refine Ev.succ ?_
  simp only [spec_DeedText.j1]
  refine Ev.ite_neg (by simp) ?_
  by_cases h2:(k==2 && (a==0 && (b==0)))=true
  ·refine Ev.ite_pos h2 ?_
   simp only [Bool.and_eq_true,beq_iff_eq] at h2
   obtain⟨rfl,rfl,rfl⟩:=h2
   exact Ev.now _
  ·refine Ev.ite_neg h2 ?_
   have h2': ¬(k=2∧a=0∧b=0):=fun h=>h2 (by obtain⟨rfl,rfl,rfl⟩:=h;rfl)
   by_cases hk1:k=1
   ·have hv:=h1 hk1
    subst hk1
    refine Ev.ite_neg (by decide) ?_
    refine Ev.succ ?_
    simp only [spec_DeedText.j2]
    exact Ev.ite_neg (by simp) (Ev.ite_neg (by simp) (bad hv))
   by_cases hk2:k=2
   ·have hv:deedV k a b=false:=by
     cases h:deedV k a b
     ·rfl
     ·exact absurd (deedV_iff.1 h) (by omega)
    subst hk2
    refine Ev.ite_neg (by decide) ?_
    refine Ev.succ ?_
    simp only [spec_DeedText.j2]
    exact Ev.ite_neg (by simp) (Ev.ite_neg (by simp) (bad hv))
   by_cases h3:k=3
   ·refine Ev.ite_pos h3 (Ev.pbind (spec_l1In.ev _ _ _) ?_)
    by_cases ha:0≤a∧a≤99
    ·refine Ev.ite_pos (by simpa using ha) (Ev.pbind (spec_l1In.ev _ _ _) ?_)
     by_cases hb:0≤b∧b≤99
     ·rw [decide_eq_true hb]
      refine Ev.succ ?_
      simp only [spec_DeedText.j2]
      obtain⟨x,rfl⟩: ∃x:Nat,a=(x:Int):=⟨a.toNat,by omega⟩
      obtain⟨y,rfl⟩: ∃y:Nat,b=(y:Int):=⟨b.toNat,by omega⟩
      have hx:=num_len x
      have hy:=num_len y
      refine Ev.ite_pos trivial (Ev.bind (number_ev (by omega)) ?_)
      have e1:(⟨#[112,97,114,116,32]⟩:ByteArray) ++ numT x=⟨([112,97,114,116,32] ++ numL x).toArray⟩:=ba_app [112,97,114,116,32] (numL x)
      have e2:(⟨([112,97,114,116,32] ++ numL x).toArray⟩:ByteArray) ++ (⟨#[32]⟩:ByteArray)=⟨([112,97,114,116,32] ++ numL x ++ [32]).toArray⟩:=ba_app _ [32]
      have e3:(⟨([112,97,114,116,32] ++ numL x ++ [32]).toArray⟩:ByteArray) ++ numT y=⟨([112,97,114,116,32] ++ numL x ++ [32] ++ numL y).toArray⟩:=ba_app _ _
      have s1:(numT x).size=(numL x).length:=ba_size _
      have s2:(numT y).size=(numL y).length:=ba_size _
      rw [s1,e1,e2,ba_size ([112,97,114,116,32] ++ numL x),ba_size ([112,97,114,116,32] ++ numL x ++ [32])]
      simp only [List.length_append,List.length_cons,List.length_nil]
      refine Ev.ite_pos (by omega) (Ev.ite_pos (by omega) (Ev.bind (number_ev (by omega)) ?_))
      rw [e3,s2]
      refine Ev.ite_pos (by omega) (Ev.eq (Ev.now _) ?_)
      subst h3
      unfold deedT
      rw [if_pos (deedV_iff.2 (by omega))]
      unfold deedL
      rw [if_neg (by decide),if_neg (by decide),if_neg (by decide),if_pos rfl,Int.toNat_natCast,Int.toNat_natCast]
     ·rw [decide_eq_false hb]
      exact j2f h0 hk1 hk2 (fun _=>by
       cases h:deedV k a b
       ·rfl
       ·exact absurd (deedV_iff.1 h) (by omega))
    ·refine Ev.ite_neg (by simpa using ha) (j2f h0 hk1 hk2 (fun _=>by
      cases h:deedV k a b
      ·rfl
      ·exact absurd (deedV_iff.1 h) (by omega)))
   ·exact Ev.ite_neg h3 (j2f h0 hk1 hk2 (fun h=>absurd h h3))
 have j0f:(k=0→deedV k a b=false)→Ev (fun m=>spec_DeedText.j0 m false k a b) (deedT k a b):=fun h0=>by
  refine Ev.succ ?_
  simp only [spec_DeedText.j0]
  refine Ev.ite_neg (by simp) ?_
  by_cases hk0:k=0
  ·have hv:=h0 hk0
   subst hk0
   refine Ev.ite_neg (by decide) (Ev.succ ?_)
   simp only [spec_DeedText.j1]
   refine Ev.ite_neg (by simp) (Ev.ite_neg (by simp) (Ev.ite_neg (by decide) (Ev.succ ?_)))
   simp only [spec_DeedText.j2]
   exact Ev.ite_neg (by simp) (Ev.ite_neg (by simp) (bad hv))
  by_cases h1:k=1
  ·refine Ev.ite_pos h1 (Ev.pbind (spec_l1In.ev _ _ _) ?_)
   by_cases ha:0≤a∧a≤9
   ·refine Ev.ite_pos (by simpa using ha) ?_
    by_cases hb:b=0
    ·have e:(b==0)=true:=by simpa using hb
     rw [e]
     refine Ev.succ ?_
     simp only [spec_DeedText.j1]
     obtain⟨x,rfl⟩: ∃x:Nat,a=(x:Int):=⟨a.toNat,by omega⟩
     have hx:=num_len x
     refine Ev.ite_pos trivial (Ev.bind (number_ev (by omega)) ?_)
     have e1:(⟨#[116,105,109,101,115,32]⟩:ByteArray) ++ numT x=⟨([116,105,109,101,115,32] ++ numL x).toArray⟩:=ba_app [116,105,109,101,115,32] (numL x)
     have s1:(numT x).size=(numL x).length:=ba_size _
     rw [e1,s1]
     refine Ev.ite_pos (by omega) (Ev.eq (Ev.now _) ?_)
     subst h1
     unfold deedT
     rw [if_pos (deedV_iff.2 (by omega))]
     unfold deedL
     rw [if_neg (by decide),if_pos rfl,Int.toNat_natCast]
    ·have e:(b==0)=false:=by simpa using hb
     rw [e]
     exact j1f hk0 (fun _=>by
      cases h:deedV k a b
      ·rfl
      ·exact absurd (deedV_iff.1 h) (by omega))
   ·exact Ev.ite_neg (by simpa using ha) (j1f hk0 (fun _=>by
     cases h:deedV k a b
     ·rfl
     ·exact absurd (deedV_iff.1 h) (by omega)))
  ·exact Ev.ite_neg h1 (j1f hk0 (fun h=>absurd h h1))
 unfold spec_DeedText.f
 by_cases h0:k=0
 ·refine Ev.ite_pos h0 (Ev.pbind (spec_l1In.ev _ _ _) ?_)
  by_cases ha:0≤a∧a≤9
  ·refine Ev.ite_pos (by simpa using ha) ?_
   by_cases hb:b=0
   ·have e:(b==0)=true:=by simpa using hb
    rw [e]
    refine Ev.succ ?_
    simp only [spec_DeedText.j0]
    obtain⟨x,rfl⟩: ∃x:Nat,a=(x:Int):=⟨a.toNat,by omega⟩
    have hx:=num_len x
    refine Ev.ite_pos trivial (Ev.bind (number_ev (by omega)) ?_)
    have e1:(⟨#[103,108,117,101,32]⟩:ByteArray) ++ numT x=⟨([103,108,117,101,32] ++ numL x).toArray⟩:=ba_app [103,108,117,101,32] (numL x)
    have s1:(numT x).size=(numL x).length:=ba_size _
    rw [e1,s1]
    refine Ev.ite_pos (by omega) (Ev.eq (Ev.now _) ?_)
    subst h0
    unfold deedT
    rw [if_pos (deedV_iff.2 (by omega))]
    unfold deedL
    rw [if_pos rfl,Int.toNat_natCast]
   ·have e:(b==0)=false:=by simpa using hb
    rw [e]
    exact j0f (fun _=>by
     cases h:deedV k a b
     ·rfl
     ·exact absurd (deedV_iff.1 h) (by omega))
  ·exact Ev.ite_neg (by simpa using ha) (j0f (fun _=>by
    cases h:deedV k a b
    ·rfl
    ·exact absurd (deedV_iff.1 h) (by omega)))
 ·exact Ev.ite_neg h0 (j0f (fun h=>absurd h h0))
end Go.Proofs.YtddgcdpogpppgaaDoor.Print
end
section
namespace Go.Proofs
open Go.Shelf
section
def Tryd.lays171_ren : Go.Shelf.Ren := ⟨fun | 171 => 33 | 243 => 49 | 246 => 60 | 283 => 71 | 284 => 72 | 285 => 73 | 286 => 74 | 129 => 86 | 317 => 85 | 318 => 87 | 319 => 88 | 320 => 89 | 337 => 95 | 338 => 96 | n => n, fun | 3 => 3 | 9 => 9 | 2 => 2 | 4 => 4 | 171 => 94 | 0 => 0 | 53 => 95 | 37 => 42 | 5 => 5 | 173 => 98 | 212 => 111 | 51 => 112 | 20 => 20 | 213 => 113 | 46 => 105 | 232 => 127 | 233 => 128 | n => n, fun | 17 => 4 | 18 => 7 | 19 => 8 | n => n⟩
theorem Tryd.lays171 : Go.Proofs.Lays.n171 Tryd.prog Tryd.lays171_ren := {
  mixed := by kernel_rfl
  f129 := Tryd.func86.trans (congrArg some (by kernel_rfl))
  f171 := Tryd.func33.trans (congrArg some (by kernel_rfl))
  f243 := Tryd.func49.trans (congrArg some (by kernel_rfl))
  f246 := Tryd.func60.trans (congrArg some (by kernel_rfl))
  f283 := Tryd.func71.trans (congrArg some (by kernel_rfl))
  f284 := Tryd.func72.trans (congrArg some (by kernel_rfl))
  f285 := Tryd.func73.trans (congrArg some (by kernel_rfl))
  f286 := Tryd.func74.trans (congrArg some (by kernel_rfl))
  f317 := Tryd.func85.trans (congrArg some (by kernel_rfl))
  f318 := Tryd.func87.trans (congrArg some (by kernel_rfl))
  f319 := Tryd.func88.trans (congrArg some (by kernel_rfl))
  f320 := Tryd.func89.trans (congrArg some (by kernel_rfl))
  f337 := Tryd.func95.trans (congrArg some (by kernel_rfl))
  f338 := Tryd.func96.trans (congrArg some (by kernel_rfl))
  t0 := Tryd.underlying0
  a0 := Tryd.isAgg0
  z0 := Tryd.sizeOf0
  v0 := Tryd.zeroValue0
  t2 := Tryd.underlying2
  a2 := Tryd.isAgg2
  z2 := Tryd.sizeOf2
  v2 := Tryd.zeroValue2
  t3 := Tryd.underlying3
  a3 := Tryd.isAgg3
  z3 := Tryd.sizeOf3
  v3 := Tryd.zeroValue3
  t4 := Tryd.underlying4
  a4 := Tryd.isAgg4
  z4 := Tryd.sizeOf4
  v4 := Tryd.zeroValue4
  t5 := Tryd.underlying5
  a5 := Tryd.isAgg5
  z5 := Tryd.sizeOf5
  v5 := Tryd.zeroValue5
  t9 := Tryd.underlying9
  a9 := Tryd.isAgg9
  z9 := Tryd.sizeOf9
  v9 := Tryd.zeroValue9
  t20 := Tryd.underlying20
  a20 := Tryd.isAgg20
  z20 := Tryd.sizeOf20
  v20 := Tryd.zeroValue20
  t37 := Tryd.underlying42
  a37 := Tryd.isAgg42
  z37 := Tryd.sizeOf42
  v37 := Tryd.zeroValue42
  t46 := Tryd.underlying105
  a46 := Tryd.isAgg105
  z46 := Tryd.sizeOf105
  v46 := Tryd.zeroValue105
  t51 := Tryd.underlying112
  a51 := Tryd.isAgg112
  z51 := Tryd.sizeOf112
  v51 := Tryd.zeroValue112
  t53 := Tryd.underlying95
  a53 := Tryd.isAgg95
  z53 := Tryd.sizeOf95
  v53 := Tryd.zeroValue95
  t171 := Tryd.underlying94
  a171 := Tryd.isAgg94
  z171 := Tryd.sizeOf94
  v171 := Tryd.zeroValue94
  t173 := Tryd.underlying98
  a173 := Tryd.isAgg98
  z173 := Tryd.sizeOf98
  v173 := Tryd.zeroValue98
  t212 := Tryd.underlying111
  a212 := Tryd.isAgg111
  z212 := Tryd.sizeOf111
  v212 := Tryd.zeroValue111
  t213 := Tryd.underlying113
  a213 := Tryd.isAgg113
  z213 := Tryd.sizeOf113
  t232 := Tryd.underlying127
  a232 := Tryd.isAgg127
  z232 := Tryd.sizeOf127
  v232 := Tryd.zeroValue127
  t233 := Tryd.underlying128
  a233 := Tryd.isAgg128
  z233 := Tryd.sizeOf128
  v233 := Tryd.zeroValue128
  g17 := by kernel_rfl
  g18 := by kernel_rfl
  g19 := by kernel_rfl }
open Go.RowKit Go.Sort Go.Lib in
theorem Tryd.strconv_Itoa_small (i : Nat) (hi : i < 100) (w : World) :
    Calls Tryd.prog 33 #[.int .i64 i] w fun e w' => e = .returned (.string ⟨(Lib.decDigits i).toArray⟩) ∧ w' = w := Any.strconv_Itoa_small Tryd.lays171 i hi w
def Tryd.laysC172_ren : Go.Shelf.Ren := ⟨fun | 172 => 38 | 244 => 51 | 245 => 52 | 247 => 64 | 279 => 65 | 280 => 66 | 281 => 67 | 282 => 68 | 287 => 78 | 316 => 79 | 171 => 33 | 205 => 80 | 321 => 91 | 322 => 92 | 243 => 49 | 246 => 60 | 283 => 71 | 284 => 72 | 285 => 73 | 286 => 74 | 129 => 86 | 317 => 85 | 318 => 87 | 319 => 88 | 320 => 89 | 337 => 95 | 338 => 96 | n => n, fun | 9 => 9 | 3 => 3 | 75 => 56 | 76 => 57 | 4 => 4 | 5 => 5 | 167 => 87 | 37 => 42 | 0 => 0 | 85 => 88 | 2 => 2 | 168 => 90 | 53 => 95 | 175 => 103 | 46 => 105 | 210 => 108 | 127 => 116 | 145 => 119 | 143 => 117 | 21 => 21 | 171 => 94 | 173 => 98 | 212 => 111 | 51 => 112 | 20 => 20 | 213 => 113 | 232 => 127 | 233 => 128 | 80 => 129 | n => n, fun | 15 => 1 | 16 => 2 | 17 => 4 | 18 => 7 | 19 => 8 | n => n⟩
theorem Tryd.laysC172 : Go.Proofs.LaysC.n172 Tryd.prog Tryd.laysC172_ren := {
  mixed := by kernel_rfl
  f129 := Tryd.func86.trans (congrArg some (by kernel_rfl))
  f171 := Tryd.func33.trans (congrArg some (by kernel_rfl))
  f172 := Tryd.func38.trans (congrArg some (by kernel_rfl))
  f205 := Tryd.func80.trans (congrArg some (by kernel_rfl))
  f243 := Tryd.func49.trans (congrArg some (by kernel_rfl))
  f244 := Tryd.func51.trans (congrArg some (by kernel_rfl))
  f245 := Tryd.func52.trans (congrArg some (by kernel_rfl))
  f246 := Tryd.func60.trans (congrArg some (by kernel_rfl))
  f247 := Tryd.func64.trans (congrArg some (by kernel_rfl))
  f279 := Tryd.func65.trans (congrArg some (by kernel_rfl))
  f280 := Tryd.func66.trans (congrArg some (by kernel_rfl))
  f281 := Tryd.func67.trans (congrArg some (by kernel_rfl))
  f282 := Tryd.func68.trans (congrArg some (by kernel_rfl))
  f283 := Tryd.func71.trans (congrArg some (by kernel_rfl))
  f284 := Tryd.func72.trans (congrArg some (by kernel_rfl))
  f285 := Tryd.func73.trans (congrArg some (by kernel_rfl))
  f286 := Tryd.func74.trans (congrArg some (by kernel_rfl))
  f287 := Tryd.func78.trans (congrArg some (by kernel_rfl))
  f316 := Tryd.func79.trans (congrArg some (by kernel_rfl))
  f317 := Tryd.func85.trans (congrArg some (by kernel_rfl))
  f318 := Tryd.func87.trans (congrArg some (by kernel_rfl))
  f319 := Tryd.func88.trans (congrArg some (by kernel_rfl))
  f320 := Tryd.func89.trans (congrArg some (by kernel_rfl))
  f321 := Tryd.func91.trans (congrArg some (by kernel_rfl))
  f322 := Tryd.func92.trans (congrArg some (by kernel_rfl))
  f337 := Tryd.func95.trans (congrArg some (by kernel_rfl))
  f338 := Tryd.func96.trans (congrArg some (by kernel_rfl))
  t0 := Tryd.underlying0
  a0 := Tryd.isAgg0
  z0 := Tryd.sizeOf0
  v0 := Tryd.zeroValue0
  t2 := Tryd.underlying2
  a2 := Tryd.isAgg2
  z2 := Tryd.sizeOf2
  v2 := Tryd.zeroValue2
  t3 := Tryd.underlying3
  a3 := Tryd.isAgg3
  z3 := Tryd.sizeOf3
  v3 := Tryd.zeroValue3
  t4 := Tryd.underlying4
  a4 := Tryd.isAgg4
  z4 := Tryd.sizeOf4
  v4 := Tryd.zeroValue4
  t5 := Tryd.underlying5
  a5 := Tryd.isAgg5
  z5 := Tryd.sizeOf5
  v5 := Tryd.zeroValue5
  t9 := Tryd.underlying9
  a9 := Tryd.isAgg9
  z9 := Tryd.sizeOf9
  v9 := Tryd.zeroValue9
  t20 := Tryd.underlying20
  a20 := Tryd.isAgg20
  z20 := Tryd.sizeOf20
  v20 := Tryd.zeroValue20
  t21 := Tryd.underlying21
  a21 := Tryd.isAgg21
  z21 := Tryd.sizeOf21
  v21 := Tryd.zeroValue21
  t37 := Tryd.underlying42
  a37 := Tryd.isAgg42
  z37 := Tryd.sizeOf42
  v37 := Tryd.zeroValue42
  t46 := Tryd.underlying105
  a46 := Tryd.isAgg105
  z46 := Tryd.sizeOf105
  v46 := Tryd.zeroValue105
  t51 := Tryd.underlying112
  a51 := Tryd.isAgg112
  z51 := Tryd.sizeOf112
  v51 := Tryd.zeroValue112
  t53 := Tryd.underlying95
  a53 := Tryd.isAgg95
  z53 := Tryd.sizeOf95
  v53 := Tryd.zeroValue95
  t75 := Tryd.underlying56
  a75 := Tryd.isAgg56
  z75 := Tryd.sizeOf56
  v75 := Tryd.zeroValue56
  t76 := Tryd.underlying57
  a76 := Tryd.isAgg57
  z76 := Tryd.sizeOf57
  v76 := Tryd.zeroValue57
  t85 := Tryd.underlying88
  a85 := Tryd.isAgg88
  z85 := Tryd.sizeOf88
  v85 := Tryd.zeroValue88
  t127 := Tryd.underlying116
  a127 := Tryd.isAgg116
  z127 := Tryd.sizeOf116
  v127 := Tryd.zeroValue116
  t143 := Tryd.underlying117
  a143 := Tryd.isAgg117
  z143 := Tryd.sizeOf117
  v143 := Tryd.zeroValue117
  t145 := Tryd.underlying119
  a145 := Tryd.isAgg119
  z145 := Tryd.sizeOf119
  v145 := Tryd.zeroValue119
  t167 := Tryd.underlying87
  a167 := Tryd.isAgg87
  z167 := Tryd.sizeOf87
  v167 := Tryd.zeroValue87
  t168 := Tryd.underlying90
  a168 := Tryd.isAgg90
  z168 := Tryd.sizeOf90
  v168 := Tryd.zeroValue90
  t171 := Tryd.underlying94
  a171 := Tryd.isAgg94
  z171 := Tryd.sizeOf94
  v171 := Tryd.zeroValue94
  t173 := Tryd.underlying98
  a173 := Tryd.isAgg98
  z173 := Tryd.sizeOf98
  v173 := Tryd.zeroValue98
  t175 := Tryd.underlying103
  a175 := Tryd.isAgg103
  z175 := Tryd.sizeOf103
  v175 := Tryd.zeroValue103
  t210 := Tryd.underlying108
  a210 := Tryd.isAgg108
  z210 := Tryd.sizeOf108
  v210 := Tryd.zeroValue108
  t212 := Tryd.underlying111
  a212 := Tryd.isAgg111
  z212 := Tryd.sizeOf111
  v212 := Tryd.zeroValue111
  t213 := Tryd.underlying113
  a213 := Tryd.isAgg113
  z213 := Tryd.sizeOf113
  t232 := Tryd.underlying127
  a232 := Tryd.isAgg127
  z232 := Tryd.sizeOf127
  v232 := Tryd.zeroValue127
  t233 := Tryd.underlying128
  a233 := Tryd.isAgg128
  z233 := Tryd.sizeOf128
  v233 := Tryd.zeroValue128
  g15 := by kernel_rfl
  g16 := by kernel_rfl
  g17 := by kernel_rfl
  g18 := by kernel_rfl
  g19 := by kernel_rfl
  t80 := Tryd.underlying129
  a80 := Tryd.isAgg129
  z80 := Tryd.sizeOf129
  v80 := Tryd.zeroValue129
  i0 := by kernel_rfl
  i2 := by kernel_rfl
  i3 := by kernel_rfl
  i4 := by kernel_rfl
  i5 := by kernel_rfl
  i9 := by kernel_rfl
  i20 := by kernel_rfl
  i21 := by kernel_rfl
  i37 := by kernel_rfl
  i46 := by kernel_rfl
  i51 := by kernel_rfl
  i53 := by kernel_rfl
  i75 := by kernel_rfl
  i76 := by kernel_rfl
  i80 := by kernel_rfl
  i85 := by kernel_rfl
  i127 := by kernel_rfl
  i143 := by kernel_rfl
  i145 := by kernel_rfl
  i167 := by kernel_rfl
  i168 := by kernel_rfl
  i171 := by kernel_rfl
  i173 := by kernel_rfl
  i175 := by kernel_rfl
  i210 := by kernel_rfl
  i212 := by kernel_rfl
  i232 := by kernel_rfl
  i233 := by kernel_rfl
  m15 := by kernel_rfl
  m16 := by kernel_rfl
  m17 := by kernel_rfl
  m18 := by kernel_rfl
  m19 := by kernel_rfl
  c0 := by kernel_rfl
  c2 := by kernel_rfl
  c3 := by kernel_rfl
  c4 := by kernel_rfl
  c5 := by kernel_rfl
  c9 := by kernel_rfl
  c20 := by kernel_rfl
  c21 := by kernel_rfl
  c37 := by kernel_rfl
  c46 := by kernel_rfl
  c51 := by kernel_rfl
  c53 := by kernel_rfl
  c75 := by kernel_rfl
  c76 := by kernel_rfl
  c80 := by kernel_rfl
  c85 := by kernel_rfl
  c127 := by kernel_rfl
  c143 := by kernel_rfl
  c145 := by kernel_rfl
  c167 := by kernel_rfl
  c168 := by kernel_rfl
  c171 := by kernel_rfl
  c173 := by kernel_rfl
  c175 := by kernel_rfl
  c210 := by kernel_rfl
  c212 := by kernel_rfl
  c213 := by kernel_rfl
  c232 := by kernel_rfl
  c233 := by kernel_rfl }
open Go.RowKit in
theorem Tryd.strconv_Atoi_ok (s : ByteArray) (hmax : s.size ≤ 9223372036854775806) (v : Int) (h : Lib.atoiAll s.data.toList = .ok v) (w : World) :
    Calls Tryd.prog 38 #[.string s] w fun e w' => e = .returned (.tuple #[.int .i64 v, .nilIface]) ∧ (w' = w ∨ ∃ t, w' = Lib.bytesWorld w 5 t) := Any.strconv_Atoi_ok Tryd.laysC172 s hmax v h w
open Go.RowKit in
theorem Tryd.strconv_Atoi_syntax (s : ByteArray) (hlim : s.size ≤ 281474976710656) (h : Lib.atoiAll s.data.toList = .«syntax») (ev : Value) (w : World) (hv : w.cell? ⟨1, 0, none⟩ = some ev) (hev : ev = .nilIface ∨ ∃ te pe, ev = .iface te pe) :
    Calls Tryd.prog 38 #[.string s] w fun e w' => ∃ N, e = .returned (.tuple #[.int .i64 (0), .iface 90 (.pointer (some ⟨N, 0, none⟩))]) ∧ w.heap.size ≤ N ∧ w'.heap[N]? = some (.cells #[.string ⟨#[65, 116, 111, 105]⟩, .string s, ev] 108 (0, 0)) ∧ Below w.heap.size w w' := Any.strconv_Atoi_syntax Tryd.laysC172 s hlim h ev w hv hev
open Go.RowKit in
theorem Tryd.strconv_Atoi_range (s : ByteArray) (hlim : s.size ≤ 281474976710656) (h : Lib.atoiAll s.data.toList = .range) (ev : Value) (w : World) (hv : w.cell? ⟨2, 0, none⟩ = some ev) (hev : ev = .nilIface ∨ ∃ te pe, ev = .iface te pe) :
    Calls Tryd.prog 38 #[.string s] w fun e w' => ∃ N, e = .returned (.tuple #[.int .i64 (Lib.atoiSat s.data.toList), .iface 90 (.pointer (some ⟨N, 0, none⟩))]) ∧ w.heap.size ≤ N ∧ w'.heap[N]? = some (.cells #[.string ⟨#[65, 116, 111, 105]⟩, .string s, ev] 108 (0, 0)) ∧ Below w.heap.size w w' := Any.strconv_Atoi_range Tryd.laysC172 s hlim h ev w hv hev
def Tryd.lays146_ren : Go.Shelf.Ren := ⟨fun | 146 => 36 | 221 => 50 | 268 => 61 | 138 => 62 | 143 => 63 | 195 => 75 | 197 => 76 | 218 => 77 | 219 => 69 | 260 => 90 | 217 => 81 | 225 => 82 | 224 => 83 | 267 => 84 | 266 => 93 | 314 => 94 | n => n, fun | 9 => 9 | 31 => 50 | 3 => 3 | 4 => 4 | 0 => 0 | 105 => 100 | 21 => 21 | 5 => 5 | 46 => 105 | 119 => 123 | 139 => 126 | 138 => 125 | 146 => 120 | 51 => 112 | n => n, fun | 1 => 3 | 3 => 5 | 4 => 6 | n => n⟩
theorem Tryd.lays146 : Go.Proofs.Lays.n146 Tryd.prog Tryd.lays146_ren := {
  mixed := by kernel_rfl
  f138 := Tryd.func62.trans (congrArg some (by kernel_rfl))
  f143 := Tryd.func63.trans (congrArg some (by kernel_rfl))
  f146 := Tryd.func36.trans (congrArg some (by kernel_rfl))
  f195 := Tryd.func75.trans (congrArg some (by kernel_rfl))
  f197 := Tryd.func76.trans (congrArg some (by kernel_rfl))
  f217 := Tryd.func81.trans (congrArg some (by kernel_rfl))
  f218 := Tryd.func77.trans (congrArg some (by kernel_rfl))
  f219 := Tryd.func69.trans (congrArg some (by kernel_rfl))
  f221 := Tryd.func50.trans (congrArg some (by kernel_rfl))
  f224 := Tryd.func83.trans (congrArg some (by kernel_rfl))
  f225 := Tryd.func82.trans (congrArg some (by kernel_rfl))
  f260 := Tryd.func90.trans (congrArg some (by kernel_rfl))
  f266 := Tryd.func93.trans (congrArg some (by kernel_rfl))
  f267 := Tryd.func84.trans (congrArg some (by kernel_rfl))
  f268 := Tryd.func61.trans (congrArg some (by kernel_rfl))
  f314 := Tryd.func94.trans (congrArg some (by kernel_rfl))
  t0 := Tryd.underlying0
  a0 := Tryd.isAgg0
  z0 := Tryd.sizeOf0
  v0 := Tryd.zeroValue0
  t3 := Tryd.underlying3
  a3 := Tryd.isAgg3
  z3 := Tryd.sizeOf3
  v3 := Tryd.zeroValue3
  t4 := Tryd.underlying4
  a4 := Tryd.isAgg4
  z4 := Tryd.sizeOf4
  v4 := Tryd.zeroValue4
  t5 := Tryd.underlying5
  a5 := Tryd.isAgg5
  z5 := Tryd.sizeOf5
  v5 := Tryd.zeroValue5
  t9 := Tryd.underlying9
  a9 := Tryd.isAgg9
  z9 := Tryd.sizeOf9
  v9 := Tryd.zeroValue9
  t21 := Tryd.underlying21
  a21 := Tryd.isAgg21
  z21 := Tryd.sizeOf21
  v21 := Tryd.zeroValue21
  t31 := Tryd.underlying50
  a31 := Tryd.isAgg50
  z31 := Tryd.sizeOf50
  v31 := Tryd.zeroValue50
  t46 := Tryd.underlying105
  a46 := Tryd.isAgg105
  z46 := Tryd.sizeOf105
  v46 := Tryd.zeroValue105
  t51 := Tryd.underlying112
  a51 := Tryd.isAgg112
  z51 := Tryd.sizeOf112
  v51 := Tryd.zeroValue112
  t105 := Tryd.underlying100
  a105 := Tryd.isAgg100
  z105 := Tryd.sizeOf100
  v105 := Tryd.zeroValue100
  t119 := Tryd.underlying123
  a119 := Tryd.isAgg123
  z119 := Tryd.sizeOf123
  t138 := Tryd.underlying125
  a138 := Tryd.isAgg125
  z138 := Tryd.sizeOf125
  v138 := Tryd.zeroValue125
  t139 := Tryd.underlying126
  a139 := Tryd.isAgg126
  z139 := Tryd.sizeOf126
  v139 := Tryd.zeroValue126
  t146 := Tryd.underlying120
  a146 := Tryd.isAgg120
  z146 := Tryd.sizeOf120
  v146 := Tryd.zeroValue120
  g1 := by kernel_rfl
  g3 := by kernel_rfl
  g4 := by kernel_rfl }
open Go.RowKit Go.Lib in
theorem Tryd.strings_Split (s sep : ByteArray) (m : Int) (w : World) (hs : s.size < 4294967281) (hm : w.cell? ⟨3, 0, none⟩ = some (.int .i64 m)) (h1 : 1 ≤ sep.size) :
    Calls Tryd.prog 36 #[.string s, .string sep] w fun e w' =>
      e = .returned (.slice (some ⟨w.heap.size, 0, none⟩) (Lib.countB s sep + 1) (Lib.countB s sep + 1)) ∧ w' = w.alloc (.cells ((Lib.splitB sep 0 (Lib.countB s sep) s).map Value.string).toArray 9) := Any.strings_Split Tryd.lays146 (by kernel_rfl) s sep m w hs hm h1
def Tryd.lays109_ren : Go.Shelf.Ren := ⟨fun | 109 => 37 | n => n, fun | 31 => 50 | 9 => 9 | 3 => 3 | 0 => 0 | 4 => 4 | n => n, fun | n => n⟩
theorem Tryd.lays109 : Go.Proofs.Lays.n109 Tryd.prog Tryd.lays109_ren := {
  mixed := by kernel_rfl
  f109 := Tryd.func37.trans (congrArg some (by kernel_rfl))
  t0 := Tryd.underlying0
  a0 := Tryd.isAgg0
  z0 := Tryd.sizeOf0
  v0 := Tryd.zeroValue0
  t3 := Tryd.underlying3
  a3 := Tryd.isAgg3
  z3 := Tryd.sizeOf3
  v3 := Tryd.zeroValue3
  t4 := Tryd.underlying4
  a4 := Tryd.isAgg4
  z4 := Tryd.sizeOf4
  v4 := Tryd.zeroValue4
  t9 := Tryd.underlying9
  a9 := Tryd.isAgg9
  z9 := Tryd.sizeOf9
  v9 := Tryd.zeroValue9
  t31 := Tryd.underlying50
  a31 := Tryd.isAgg50
  z31 := Tryd.sizeOf50
  v31 := Tryd.zeroValue50 }
open Go.Lib in
theorem Tryd.slices_Index_string (b off n c : Nat) (zs : List ByteArray) (x : ByteArray) (w : World) (hz : n ≤ zs.length) (hbig : n ≤ 9223372036854775807) (hc : ∀ j, j < zs.length → w.cell? ⟨b, off + j, none⟩ = some (.string (zs.getD j ByteArray.empty))) :
    Calls Tryd.prog 37 #[.slice (some ⟨b, off, none⟩) n c, .string x] w fun e w' => e = .returned (.int .i64 (Lib.idxOfS (zs.take n) x)) ∧ w' = w := Any.slices_Index_string Tryd.lays109 b off n c zs x w hz hbig hc
end
end Go.Proofs
end
section
namespace Go.Proofs.YtddgcdpogpppgaaDoor.Print
open Go.RowKit Go.Proofs.YtddgcdpogpppgaaDoorW.PrintWords Go.Proofs.YtddgcdpogpppgaaDoorW.PrintLast Go.Proofs.YtddgcdpogpppgaaDoorW.PrintMore
section
attribute [local go_sem] max2_int min2_int max_two min_two max_three min_three max_four min_four
mutual
def impl_Deed_named.j0 : Nat → Int → Bool → Int → Int → Int → Option (Bool)
 | 0, _, _, _, _, _ => none
 | k + 1, x4, x5, x121000, x121001, x121002 => if x5 = true then (some (x121002 == 0)) else (if x4 = 2 then (impl_Deed_named.j1 k x4 (x4 == 2) x121000 x121001 x121002) else (impl_Deed_named.j1 k x4 (x4 == 4) x121000 x121001 x121002))
def impl_Deed_named.j1 : Nat → Int → Bool → Int → Int → Int → Option (Bool)
 | 0, _, _, _, _, _ => none
 | k + 1, x4, x11, x121000, x121001, x121002 => if x11 = true then (if x121001 = 0 then (some (x121002 == 0)) else (some false)) else (if x4 = 3 then (some true) else (some false))
end
def impl_Deed_named.f (k : Nat) (a0_0 : Int) (a0_1 : Int) (a0_2 : Int) : Option (Bool) := if a0_0 = 0 then (impl_Deed_named.j0 k a0_0 (a0_0 == 0) a0_0 a0_1 a0_2) else (impl_Deed_named.j0 k a0_0 (a0_0 == 1) a0_0 a0_1 a0_2)
set_option maxHeartbeats 8000000 in
set_option maxRecDepth 100000 in
theorem impl_Deed_named.calls (k : Nat) (a0_0 : Int) (a0_1 : Int) (a0_2 : Int) (r : Bool) (w : World) (h : impl_Deed_named.f k a0_0 a0_1 a0_2 = some r) :
  Calls Tryd.prog 32 #[.agg #[.int .i64 a0_0, .int .i64 a0_1, .int .i64 a0_2]] w fun e w' => e = .returned (.bool r) ∧ Below w.heap.size w w' := by
 have hu25:=Tryd.underlying25;have HB:=zqm (Below.refl w.heap.size w);have H:(if a0_0=0 then(impl_Deed_named.j0 k a0_0 (a0_0==0) a0_0 a0_1 a0_2) else(impl_Deed_named.j0 k a0_0 (a0_0==1) a0_0 a0_1 a0_2))=some r:=h;clear h;have b0:=zqm H;clear H
 go_enter Tryd.func32,Tryd.ntmps32
 go_upto_if 5 with (first|((with_reducible refine gate_dst (N:=1) rfl ?_);refine box_event ?hg (N:=1) ?hd (cs:= #[.int .i64 a0_0,.int .i64 a0_1,.int .i64 a0_2]) (t:=25) ?hr ?_;(case hd=>rfl);(case hg=>rfl);(case hr=> exact zq18);intro a1 hg w3 hbox hb;have b7:=zqm (below_step zq5 hb);have a0:=zqm (hbox);have e9:=zqm ((by rw [hg];exact(below_size zq5):w.heap.size≤a1));have a2:=zqm ((by rw [hg];exact(below_size zq5):w.heap.size≤a1));clear HB;have HB:=b7;clear b7 hb hbox hg;have d5:w3.cell? ⟨a1,0,none⟩=some (.int .i64 a0_0):=(blk_cell a0.out 0).trans rfl;have d6:w3.cell? ⟨a1,1,none⟩=some (.int .i64 a0_1):=(blk_cell a0.out 1).trans rfl;have d7:w3.cell? ⟨a1,2,none⟩=some (.int .i64 a0_2):=(blk_cell a0.out 2).trans rfl;have e1:=blk_frozen a0.out 0;have e2:=blk_frozen a0.out 1;have e3:=blk_frozen a0.out 2))
 (try simp only [Act.put,List.setIfInBounds_toArray,List.set_cons_zero,List.set_cons_succ])
 go_cut [5] (fun v5 wc=> ∃(kq:Nat) (a8:Bool),v5= .bool a8∧Aside0 (impl_Deed_named.j0 kq a0_0 a8 a0_0 a0_1 a0_2=some r)∧Aside0 (kq≤k)∧Aside0 (wc.heap[a1]? =some (.cells #[.int .i64 a0_0,.int .i64 a0_1,.int .i64 a0_2] 25 (0,0)))∧Aside0 (Below w.heap.size w wc))
 case first=>
  have H:=b0.out;clear b0
  by_cases c5:a0_0=0
  ·rw [if_pos c5] at H;have a6:(a0_0==0)=true:=beq_iff_eq.mpr c5;have b8:(a0_0 !=0)=false:=bne_eq_false_iff_eq.mpr c5;clear c5;(first|rw [a6]|(simp only [i64_w,i32_w];rw [a6])|skip);have H':=zqm H;clear H
   go_wp2
   go_meet
   case rel=>exact⟨_,((a0_0==0)),zq15,H',⟨zq61⟩,⟨zqe a0.out⟩,⟨zq19⟩⟩
  ·rw [if_neg c5] at H;have a6:(a0_0==0)=false:=beq_eq_false_iff_ne.mpr c5;have b8:(a0_0 !=0)=true:=bne_iff_ne.mpr c5;(first|rw [a6]|(simp only [i64_w,i32_w];rw [a6])|skip);have H':=zqm H;clear H
   go_wp2
   go_meet
   case rel=>exact⟨_,((a0_0==1)),zq15,H',⟨zq61⟩,⟨zqe a0.out⟩,⟨zq19⟩⟩
 case rest=>
  clear b0;obtain⟨kq,a8,rfl,HA,b6,a0,HB⟩:=hcut
  cases kq with
  |zero=>exact absurd HA.out (by simp [impl_Deed_named.j0])
  |succ e7=>
   have H:=HA.out;clear HA;simp only [impl_Deed_named.j0] at H
   by_cases c6:a8=true
   ·subst c6;rw [if_pos rfl] at H;obtain rfl:=Option.some.inj H;have d8:wc.cell? ⟨a1,0,none⟩=some (.int .i64 a0_0):=(blk_cell a0.out 0).trans rfl;have d9:wc.cell? ⟨a1,1,none⟩=some (.int .i64 a0_1):=(blk_cell a0.out 1).trans rfl;have e0:wc.cell? ⟨a1,2,none⟩=some (.int .i64 a0_2):=(blk_cell a0.out 2).trans rfl;have e4:=blk_frozen a0.out 0;have e5:=blk_frozen a0.out 1;have e6:=blk_frozen a0.out 2
    go_wp2
    go_ret
    exact⟨zq23,zq19⟩
   ·replace c6:=Bool.eq_false_iff.mpr c6;subst c6;rw [if_neg (show¬(false=true) by decide)] at H;have b1:=zqm H;clear H
    go_upto_if 11 with (fail)
    go_cut [11] (fun e8 wc=> ∃(kq:Nat) (a3:Bool),e8= .bool a3∧Aside0 (impl_Deed_named.j1 kq a0_0 a3 a0_0 a0_1 a0_2=some r)∧Aside0 (kq≤e7)∧Aside0 (wc.heap[a1]? =some (.cells #[.int .i64 a0_0,.int .i64 a0_1,.int .i64 a0_2] 25 (0,0)))∧Aside0 (Below w.heap.size w wc))
    case first=>
     have H:=b1.out;clear b1
     by_cases c9:a0_0=2
     ·rw [if_pos c9] at H;have a7:(a0_0==2)=true:=beq_iff_eq.mpr c9;have b9:(a0_0 !=2)=false:=bne_eq_false_iff_eq.mpr c9;clear c9;(first|rw [a7]|(simp only [i64_w,i32_w];rw [a7])|skip);have H':=zqm H;clear H
      go_wp2
      go_meet
      case rel=>exact⟨_,((a0_0==2)),zq15,H',⟨by have:=b6.out;first|omega|exact Nat.le_refl _⟩,⟨zqe a0.out⟩,⟨zq19⟩⟩
     ·rw [if_neg c9] at H;have a7:(a0_0==2)=false:=beq_eq_false_iff_ne.mpr c9;have b9:(a0_0 !=2)=true:=bne_iff_ne.mpr c9;(first|rw [a7]|(simp only [i64_w,i32_w];rw [a7])|skip);have H':=zqm H;clear H
      go_wp2
      go_meet
      case rel=>exact⟨_,((a0_0==4)),zq15,H',⟨by have:=b6.out;first|omega|exact Nat.le_refl _⟩,⟨zqe a0.out⟩,⟨zq19⟩⟩
    case rest=>
     clear b1;obtain⟨kq,a3,rfl,HA,f0,a0,HB⟩:=hcut
     cases kq with
     |zero=>exact absurd HA.out (by simp [impl_Deed_named.j1])
     |succ f1=>
      have H:=HA.out;clear HA;simp only [impl_Deed_named.j1] at H
      by_cases a9:a3=true
      ·subst a9;rw [if_pos rfl] at H
       by_cases a4:a0_1=0
       ·rw [if_pos a4] at H;have b2:(a0_1==0)=true:=beq_iff_eq.mpr a4;have b3:(a0_1 !=0)=false:=bne_eq_false_iff_eq.mpr a4;clear a4;obtain rfl:=Option.some.inj H;have c0:wc.cell? ⟨a1,0,none⟩=some (.int .i64 a0_0):=(blk_cell a0.out 0).trans rfl;have c1:wc.cell? ⟨a1,1,none⟩=some (.int .i64 a0_1):=(blk_cell a0.out 1).trans rfl;have c2:wc.cell? ⟨a1,2,none⟩=some (.int .i64 a0_2):=(blk_cell a0.out 2).trans rfl;have c8:=blk_frozen a0.out 0;have d0:=blk_frozen a0.out 1;have d1:=blk_frozen a0.out 2
        go_wp2
        go_ret
        exact⟨zq23,zq19⟩
       ·rw [if_neg a4] at H;have b2:(a0_1==0)=false:=beq_eq_false_iff_ne.mpr a4;have b3:(a0_1 !=0)=true:=bne_iff_ne.mpr a4;obtain rfl:=Option.some.inj H;have c3:wc.cell? ⟨a1,0,none⟩=some (.int .i64 a0_0):=(blk_cell a0.out 0).trans rfl;have c4:wc.cell? ⟨a1,1,none⟩=some (.int .i64 a0_1):=(blk_cell a0.out 1).trans rfl;have c7:wc.cell? ⟨a1,2,none⟩=some (.int .i64 a0_2):=(blk_cell a0.out 2).trans rfl;have d2:=blk_frozen a0.out 0;have d3:=blk_frozen a0.out 1;have d4:=blk_frozen a0.out 2
        go_wp2
        go_ret
        exact⟨zq23,zq19⟩
      ·replace a9:=Bool.eq_false_iff.mpr a9;subst a9;rw [if_neg (show¬(false=true) by decide)] at H
       by_cases a5:a0_0=3
       ·rw [if_pos a5] at H;have b4:(a0_0==3)=true:=beq_iff_eq.mpr a5;have b5:(a0_0 !=3)=false:=bne_eq_false_iff_eq.mpr a5;clear a5;obtain rfl:=Option.some.inj H
        go_wp2
        go_ret
        exact⟨zq23,zq19⟩
       ·rw [if_neg a5] at H;have b4:(a0_0==3)=false:=beq_eq_false_iff_ne.mpr a5;have b5:(a0_0 !=3)=true:=bne_iff_ne.mpr a5;obtain rfl:=Option.some.inj H
        go_wp2
        go_ret
        exact⟨zq23,zq19⟩
end
end Go.Proofs.YtddgcdpogpppgaaDoor.Print
end
section
namespace Go.Proofs.YtddgcdpogpppgaaDoor.Print
open Go.RowKit Go.Proofs.YtddgcdpogpppgaaDoorW.PrintWords Go.Proofs.YtddgcdpogpppgaaDoorW.PrintLast Go.Proofs.YtddgcdpogpppgaaDoorW.PrintMore
open Oml
structure WordsAt (w : World) (a : Addr) (c : Nat) : Prop where
 v:w.cell? ⟨0,0,none⟩=some (.slice (some a) 5 c)
 e0:w.cell? (a.add 0)=some (.string ⟨#[103,108,117,101]⟩)
 e1:w.cell? (a.add 1)=some (.string ⟨#[116,105,109,101,115]⟩)
 e2:w.cell? (a.add 2)=some (.string ⟨#[114,105,110,103]⟩)
 e3:w.cell? (a.add 3)=some (.string ⟨#[112,97,114,116]⟩)
 e4:w.cell? (a.add 4)=some (.string ⟨#[98,97,99,107]⟩)
theorem cell_keep {w w1 : World} {p : Addr} {v : Value} (h : w.cell? p = some v) (hb : Below w.heap.size w w1) : w1.cell? p = some v := (hb.cell (World.block_lt_of_cell? w _ h)).trans h
theorem WordsAt.below {w w1 : World} {a : Addr} {c : Nat} (h : WordsAt w a c) (hb : Below w.heap.size w w1) : WordsAt w1 a c := ⟨cell_keep h.v hb, cell_keep h.e0 hb, cell_keep h.e1 hb, cell_keep h.e2 hb, cell_keep h.e3 hb, cell_keep h.e4 hb⟩
def namedB (k a b : Int) : Bool := if k = 0 ∨ k = 1 then decide (b = 0) else if k = 2 ∨ k = 4 then decide (a = 0 ∧ b = 0) else decide (k = 3)
theorem named_ev (k a b : Int) : Ev (fun m => impl_Deed_named.f m k a b) (namedB k a b) := by
 unfold impl_Deed_named.f namedB
 by_cases h0:k=0
 ·subst h0
  refine Ev.ite_pos rfl (Ev.succ ?_)
  simp only [impl_Deed_named.j0]
  refine Ev.ite_pos rfl (Ev.eq (Ev.now _) ?_)
  simp only [true_or,or_true,if_true];rfl
 refine Ev.ite_neg h0 (Ev.succ ?_)
 simp only [impl_Deed_named.j0]
 by_cases h1:k=1
 ·subst h1
  refine Ev.ite_pos rfl (Ev.eq (Ev.now _) ?_)
  simp only [true_or,or_true,if_true];rfl
 refine Ev.ite_neg (by simpa using h1) ?_
 rw [if_neg (by omega)]
 have fin: ∀c:Bool,c=decide (k=2∨k=4)→Ev (fun m=>impl_Deed_named.j1 m k c k a b) (if k=2∨k=4 then decide (a=0∧b=0) else decide (k=3)):=fun c hc=>by
  refine Ev.succ ?_
  simp only [impl_Deed_named.j1]
  by_cases h:k=2∨k=4
  ·rw [if_pos h]
   rw [decide_eq_true h] at hc
   refine Ev.ite_pos hc ?_
   by_cases ha:a=0
   ·refine Ev.ite_pos ha (Ev.eq (Ev.now _) ?_)
    rw [Bool.eq_iff_iff,beq_iff_eq,decide_eq_true_eq];omega
   ·refine Ev.ite_neg ha (Ev.eq (Ev.now _) ?_)
    exact(decide_eq_false (by omega)).symm
  ·rw [if_neg h]
   rw [decide_eq_false h] at hc
   refine Ev.ite_neg (by rw [hc];simp) ?_
   by_cases h3:k=3
   ·exact Ev.ite_pos h3 (Ev.eq (Ev.now _) (decide_eq_true h3).symm)
   ·exact Ev.ite_neg h3 (Ev.eq (Ev.now _) (decide_eq_false h3).symm)
 by_cases h2:k=2
 ·exact Ev.ite_pos h2 (fin _ (by subst h2;rfl))
 ·refine Ev.ite_neg h2 (fin _ ?_)
  rw [Bool.eq_iff_iff,beq_iff_eq,decide_eq_true_eq];omega
theorem deedV_named {k a b : Int} (h : deedV k a b = true) : namedB k a b = true := by
 have h:=deedV_iff.1 h
 unfold namedB
 rcases h with ⟨rfl,h1,rfl⟩|⟨rfl,h1,rfl⟩|⟨rfl,rfl,rfl⟩|⟨rfl,h1,h2⟩|⟨rfl,rfl,rfl⟩ <;> simp
theorem itoa_calls (x : Nat) (hx : x < 100) (w : World) : Calls Tryd.prog 33 #[.int .i64 (x : Int)] w fun e w' => e = .returned (.string (numT x)) ∧ w' = w := by
 have h:=Tryd.strconv_Itoa_small x hx w
 rw [num_dec hx] at h
 exact h
set_option maxHeartbeats 4000000 in
set_option maxRecDepth 100000 in
theorem deed_bad (k a b : Int) (w : World) (ad : Addr) (c : Nat) (hW : WordsAt w ad c) (hv : deedV k a b = false) : Calls Tryd.prog 12 #[.agg #[.int .i64 k, .int .i64 a, .int .i64 b]] w fun e w' => e = .returned (.string (⟨#[]⟩ : ByteArray)) ∧ Below w.heap.size w w' := by
 have hu25:=Tryd.underlying25
 obtain⟨m,hm⟩:=(named_ev k a b).rounds
 have HW:=zqm hW
 have hvn: ¬((k=0∧(0≤a∧a≤9)∧b=0)∨(k=1∧(0≤a∧a≤9)∧b=0)∨(k=2∧a=0∧b=0)∨(k=3∧(0≤a∧a≤99)∧(0≤b∧b≤99))∨(k=4∧a=0∧b=0)):=fun h=>by rw [deedV_iff.2 h] at hv;exact absurd hv (by simp)
 clear hW hv
 have hcl_:True:=trivial
 cases hn:namedB k a b with
 |false=>
  rw [hn] at hm
  have HN:=zqm hm
  clear hm hn hvn
  clear hcl_
  go_enter Tryd.func12,Tryd.ntmps12
  go_wp2_with (first|((with_reducible refine gate_dst (N:=1) rfl ?_);refine box_event ?hg (N:=1) ?hd (cs:= #[.int .i64 k,.int .i64 a,.int .i64 b]) (t:=25) ?hr ?_;(case hd=>rfl);(case hg=>rfl);(case hr=> exact zq18);intro gb hg_ w1 hbox hb;have HB:=zqm hb;have HX:=zqm hbox;have hx0:w1.cell? ⟨gb,0,none⟩=some (.int .i64 k):=(blk_cell hbox 0).trans rfl;have hx1:w1.cell? ⟨gb,1,none⟩=some (.int .i64 a):=(blk_cell hbox 1).trans rfl;have hx2:w1.cell? ⟨gb,2,none⟩=some (.int .i64 b):=(blk_cell hbox 2).trans rfl;clear hbox hb hg_)|(go_at_call 32;(with_reducible refine(impl_Deed_named.calls _ k a b false _ HN.out).mono ?_);rintro e w2 ⟨rfl,hb⟩;have HB2:=zqm (below_step HB.out hb);have HX2:=zqm (blk_below HX.out hb);have HW2:=zqm (HW.out.below HB2.out);have hy0:w2.cell? ⟨gb,0,none⟩=some (.int .i64 k):=(blk_cell HX2.out 0).trans rfl;have hy1:w2.cell? ⟨gb,1,none⟩=some (.int .i64 a):=(blk_cell HX2.out 1).trans rfl;have hy2:w2.cell? ⟨gb,2,none⟩=some (.int .i64 b):=(blk_cell HX2.out 2).trans rfl;have z_:=HW2.out.v;have z0_:w2.cell? ad=some (.string ⟨#[103,108,117,101]⟩):=zq77;have z1_:w2.cell? ⟨ad.block,ad.off+1,none⟩=some (.string ⟨#[116,105,109,101,115]⟩):=zq78;have z2_:w2.cell? ⟨ad.block,ad.off+2,none⟩=some (.string ⟨#[114,105,110,103]⟩):=zq79;have z3_:w2.cell? ⟨ad.block,ad.off+3,none⟩=some (.string ⟨#[112,97,114,116]⟩):=zq80;have z4_:w2.cell? ⟨ad.block,ad.off+4,none⟩=some (.string ⟨#[98,97,99,107]⟩):=zq81;clear hb hx0 hx1 hx2 HX HB))
  go_ret
  exact⟨rfl,zq44⟩
 |true=>
  rw [hn] at hm
  have HN:=zqm hm
  have hk:((k=0∨k=1)∧b=0)∨((k=2∨k=4)∧a=0∧b=0)∨k=3:=by
   unfold namedB at hn
   split at hn
   ·exact .inl ⟨by assumption,by simpa using hn⟩
   ·split at hn
    ·exact .inr (.inl ⟨by assumption,by simpa using hn⟩)
    ·exact .inr (.inr (by simpa using hn))
  clear hm hn
  by_cases h1:a<0
  ·clear hvn hk
   have q1:(a<0)=True:=eq_true (by omega)
   have q1':decide (a<0)=true:=decide_eq_true (by omega)
   clear hcl_
   go_enter Tryd.func12,Tryd.ntmps12
   go_wp2_with (first|((with_reducible refine gate_dst (N:=1) rfl ?_);refine box_event ?hg (N:=1) ?hd (cs:= #[.int .i64 k,.int .i64 a,.int .i64 b]) (t:=25) ?hr ?_;(case hd=>rfl);(case hg=>rfl);(case hr=> exact zq18);intro gb hg_ w1 hbox hb;have HB:=zqm hb;have HX:=zqm hbox;have hx0:w1.cell? ⟨gb,0,none⟩=some (.int .i64 k):=(blk_cell hbox 0).trans rfl;have hx1:w1.cell? ⟨gb,1,none⟩=some (.int .i64 a):=(blk_cell hbox 1).trans rfl;have hx2:w1.cell? ⟨gb,2,none⟩=some (.int .i64 b):=(blk_cell hbox 2).trans rfl;clear hbox hb hg_)|(go_at_call 32;(with_reducible refine(impl_Deed_named.calls _ k a b true _ HN.out).mono ?_);rintro e w2 ⟨rfl,hb⟩;have HB2:=zqm (below_step HB.out hb);have HX2:=zqm (blk_below HX.out hb);have HW2:=zqm (HW.out.below HB2.out);have hy0:w2.cell? ⟨gb,0,none⟩=some (.int .i64 k):=(blk_cell HX2.out 0).trans rfl;have hy1:w2.cell? ⟨gb,1,none⟩=some (.int .i64 a):=(blk_cell HX2.out 1).trans rfl;have hy2:w2.cell? ⟨gb,2,none⟩=some (.int .i64 b):=(blk_cell HX2.out 2).trans rfl;have z_:=HW2.out.v;have z0_:w2.cell? ad=some (.string ⟨#[103,108,117,101]⟩):=zq77;have z1_:w2.cell? ⟨ad.block,ad.off+1,none⟩=some (.string ⟨#[116,105,109,101,115]⟩):=zq78;have z2_:w2.cell? ⟨ad.block,ad.off+2,none⟩=some (.string ⟨#[114,105,110,103]⟩):=zq79;have z3_:w2.cell? ⟨ad.block,ad.off+3,none⟩=some (.string ⟨#[112,97,114,116]⟩):=zq80;have z4_:w2.cell? ⟨ad.block,ad.off+4,none⟩=some (.string ⟨#[98,97,99,107]⟩):=zq81;clear hb hx0 hx1 hx2 HX HB))
   go_ret
   exact⟨rfl,zq44⟩
  by_cases h2:b<0
  ·clear hvn hk
   have q1:(a<0)=False:=eq_false (by omega)
   have q1':decide (a<0)=false:=decide_eq_false (by omega)
   have q2:(b<0)=True:=eq_true (by omega)
   have q2':decide (b<0)=true:=decide_eq_true (by omega)
   clear hcl_
   go_enter Tryd.func12,Tryd.ntmps12
   go_wp2_with (first|((with_reducible refine gate_dst (N:=1) rfl ?_);refine box_event ?hg (N:=1) ?hd (cs:= #[.int .i64 k,.int .i64 a,.int .i64 b]) (t:=25) ?hr ?_;(case hd=>rfl);(case hg=>rfl);(case hr=> exact zq18);intro gb hg_ w1 hbox hb;have HB:=zqm hb;have HX:=zqm hbox;have hx0:w1.cell? ⟨gb,0,none⟩=some (.int .i64 k):=(blk_cell hbox 0).trans rfl;have hx1:w1.cell? ⟨gb,1,none⟩=some (.int .i64 a):=(blk_cell hbox 1).trans rfl;have hx2:w1.cell? ⟨gb,2,none⟩=some (.int .i64 b):=(blk_cell hbox 2).trans rfl;clear hbox hb hg_)|(go_at_call 32;(with_reducible refine(impl_Deed_named.calls _ k a b true _ HN.out).mono ?_);rintro e w2 ⟨rfl,hb⟩;have HB2:=zqm (below_step HB.out hb);have HX2:=zqm (blk_below HX.out hb);have HW2:=zqm (HW.out.below HB2.out);have hy0:w2.cell? ⟨gb,0,none⟩=some (.int .i64 k):=(blk_cell HX2.out 0).trans rfl;have hy1:w2.cell? ⟨gb,1,none⟩=some (.int .i64 a):=(blk_cell HX2.out 1).trans rfl;have hy2:w2.cell? ⟨gb,2,none⟩=some (.int .i64 b):=(blk_cell HX2.out 2).trans rfl;have z_:=HW2.out.v;have z0_:w2.cell? ad=some (.string ⟨#[103,108,117,101]⟩):=zq77;have z1_:w2.cell? ⟨ad.block,ad.off+1,none⟩=some (.string ⟨#[116,105,109,101,115]⟩):=zq78;have z2_:w2.cell? ⟨ad.block,ad.off+2,none⟩=some (.string ⟨#[114,105,110,103]⟩):=zq79;have z3_:w2.cell? ⟨ad.block,ad.off+3,none⟩=some (.string ⟨#[112,97,114,116]⟩):=zq80;have z4_:w2.cell? ⟨ad.block,ad.off+4,none⟩=some (.string ⟨#[98,97,99,107]⟩):=zq81;clear hb hx0 hx1 hx2 HX HB))
   go_ret
   exact⟨rfl,zq44⟩
  by_cases h3:99<a
  ·clear hvn hk
   have q1:(a<0)=False:=eq_false (by omega)
   have q1':decide (a<0)=false:=decide_eq_false (by omega)
   have q2:(b<0)=False:=eq_false (by omega)
   have q2':decide (b<0)=false:=decide_eq_false (by omega)
   have q3:(99<a)=True:=eq_true (by omega)
   have q3':decide (99<a)=true:=decide_eq_true (by omega)
   clear hcl_
   go_enter Tryd.func12,Tryd.ntmps12
   go_wp2_with (first|((with_reducible refine gate_dst (N:=1) rfl ?_);refine box_event ?hg (N:=1) ?hd (cs:= #[.int .i64 k,.int .i64 a,.int .i64 b]) (t:=25) ?hr ?_;(case hd=>rfl);(case hg=>rfl);(case hr=> exact zq18);intro gb hg_ w1 hbox hb;have HB:=zqm hb;have HX:=zqm hbox;have hx0:w1.cell? ⟨gb,0,none⟩=some (.int .i64 k):=(blk_cell hbox 0).trans rfl;have hx1:w1.cell? ⟨gb,1,none⟩=some (.int .i64 a):=(blk_cell hbox 1).trans rfl;have hx2:w1.cell? ⟨gb,2,none⟩=some (.int .i64 b):=(blk_cell hbox 2).trans rfl;clear hbox hb hg_)|(go_at_call 32;(with_reducible refine(impl_Deed_named.calls _ k a b true _ HN.out).mono ?_);rintro e w2 ⟨rfl,hb⟩;have HB2:=zqm (below_step HB.out hb);have HX2:=zqm (blk_below HX.out hb);have HW2:=zqm (HW.out.below HB2.out);have hy0:w2.cell? ⟨gb,0,none⟩=some (.int .i64 k):=(blk_cell HX2.out 0).trans rfl;have hy1:w2.cell? ⟨gb,1,none⟩=some (.int .i64 a):=(blk_cell HX2.out 1).trans rfl;have hy2:w2.cell? ⟨gb,2,none⟩=some (.int .i64 b):=(blk_cell HX2.out 2).trans rfl;have z_:=HW2.out.v;have z0_:w2.cell? ad=some (.string ⟨#[103,108,117,101]⟩):=zq77;have z1_:w2.cell? ⟨ad.block,ad.off+1,none⟩=some (.string ⟨#[116,105,109,101,115]⟩):=zq78;have z2_:w2.cell? ⟨ad.block,ad.off+2,none⟩=some (.string ⟨#[114,105,110,103]⟩):=zq79;have z3_:w2.cell? ⟨ad.block,ad.off+3,none⟩=some (.string ⟨#[112,97,114,116]⟩):=zq80;have z4_:w2.cell? ⟨ad.block,ad.off+4,none⟩=some (.string ⟨#[98,97,99,107]⟩):=zq81;clear hb hx0 hx1 hx2 HX HB))
   go_ret
   exact⟨rfl,zq44⟩
  by_cases h4:99<b
  ·clear hvn hk
   have q1:(a<0)=False:=eq_false (by omega)
   have q1':decide (a<0)=false:=decide_eq_false (by omega)
   have q2:(b<0)=False:=eq_false (by omega)
   have q2':decide (b<0)=false:=decide_eq_false (by omega)
   have q3:(99<a)=False:=eq_false (by omega)
   have q3':decide (99<a)=false:=decide_eq_false (by omega)
   have q4:(99<b)=True:=eq_true (by omega)
   have q4':decide (99<b)=true:=decide_eq_true (by omega)
   clear hcl_
   go_enter Tryd.func12,Tryd.ntmps12
   go_wp2_with (first|((with_reducible refine gate_dst (N:=1) rfl ?_);refine box_event ?hg (N:=1) ?hd (cs:= #[.int .i64 k,.int .i64 a,.int .i64 b]) (t:=25) ?hr ?_;(case hd=>rfl);(case hg=>rfl);(case hr=> exact zq18);intro gb hg_ w1 hbox hb;have HB:=zqm hb;have HX:=zqm hbox;have hx0:w1.cell? ⟨gb,0,none⟩=some (.int .i64 k):=(blk_cell hbox 0).trans rfl;have hx1:w1.cell? ⟨gb,1,none⟩=some (.int .i64 a):=(blk_cell hbox 1).trans rfl;have hx2:w1.cell? ⟨gb,2,none⟩=some (.int .i64 b):=(blk_cell hbox 2).trans rfl;clear hbox hb hg_)|(go_at_call 32;(with_reducible refine(impl_Deed_named.calls _ k a b true _ HN.out).mono ?_);rintro e w2 ⟨rfl,hb⟩;have HB2:=zqm (below_step HB.out hb);have HX2:=zqm (blk_below HX.out hb);have HW2:=zqm (HW.out.below HB2.out);have hy0:w2.cell? ⟨gb,0,none⟩=some (.int .i64 k):=(blk_cell HX2.out 0).trans rfl;have hy1:w2.cell? ⟨gb,1,none⟩=some (.int .i64 a):=(blk_cell HX2.out 1).trans rfl;have hy2:w2.cell? ⟨gb,2,none⟩=some (.int .i64 b):=(blk_cell HX2.out 2).trans rfl;have z_:=HW2.out.v;have z0_:w2.cell? ad=some (.string ⟨#[103,108,117,101]⟩):=zq77;have z1_:w2.cell? ⟨ad.block,ad.off+1,none⟩=some (.string ⟨#[116,105,109,101,115]⟩):=zq78;have z2_:w2.cell? ⟨ad.block,ad.off+2,none⟩=some (.string ⟨#[114,105,110,103]⟩):=zq79;have z3_:w2.cell? ⟨ad.block,ad.off+3,none⟩=some (.string ⟨#[112,97,114,116]⟩):=zq80;have z4_:w2.cell? ⟨ad.block,ad.off+4,none⟩=some (.string ⟨#[98,97,99,107]⟩):=zq81;clear hb hx0 hx1 hx2 HX HB))
   go_ret
   exact⟨rfl,zq44⟩
  have h5:(k=0∨k=1)∧9<a:=by omega
  obtain⟨h6,h7⟩:=h5
  rcases h6 with rfl|rfl
  ·clear hvn hk
   have q1:(a<0)=False:=eq_false (by omega)
   have q1':decide (a<0)=false:=decide_eq_false (by omega)
   have q2:(b<0)=False:=eq_false (by omega)
   have q2':decide (b<0)=false:=decide_eq_false (by omega)
   have q3:(99<a)=False:=eq_false (by omega)
   have q3':decide (99<a)=false:=decide_eq_false (by omega)
   have q4:(99<b)=False:=eq_false (by omega)
   have q4':decide (99<b)=false:=decide_eq_false (by omega)
   have q5:(9<a)=True:=eq_true (by omega)
   have q5':decide (9<a)=true:=decide_eq_true (by omega)
   clear hcl_
   go_enter Tryd.func12,Tryd.ntmps12
   go_wp2_with (first|((with_reducible refine gate_dst (N:=1) rfl ?_);refine box_event ?hg (N:=1) ?hd (cs:= #[.int .i64 0,.int .i64 a,.int .i64 b]) (t:=25) ?hr ?_;(case hd=>rfl);(case hg=>rfl);(case hr=> exact zq18);intro gb hg_ w1 hbox hb;have HB:=zqm hb;have HX:=zqm hbox;have hx0:w1.cell? ⟨gb,0,none⟩=some (.int .i64 0):=(blk_cell hbox 0).trans rfl;have hx1:w1.cell? ⟨gb,1,none⟩=some (.int .i64 a):=(blk_cell hbox 1).trans rfl;have hx2:w1.cell? ⟨gb,2,none⟩=some (.int .i64 b):=(blk_cell hbox 2).trans rfl;clear hbox hb hg_)|(go_at_call 32;(with_reducible refine(impl_Deed_named.calls _ 0 a b true _ HN.out).mono ?_);rintro e w2 ⟨rfl,hb⟩;have HB2:=zqm (below_step HB.out hb);have HX2:=zqm (blk_below HX.out hb);have HW2:=zqm (HW.out.below HB2.out);have hy0:w2.cell? ⟨gb,0,none⟩=some (.int .i64 0):=(blk_cell HX2.out 0).trans rfl;have hy1:w2.cell? ⟨gb,1,none⟩=some (.int .i64 a):=(blk_cell HX2.out 1).trans rfl;have hy2:w2.cell? ⟨gb,2,none⟩=some (.int .i64 b):=(blk_cell HX2.out 2).trans rfl;have z_:=HW2.out.v;have z0_:w2.cell? ad=some (.string ⟨#[103,108,117,101]⟩):=zq77;have z1_:w2.cell? ⟨ad.block,ad.off+1,none⟩=some (.string ⟨#[116,105,109,101,115]⟩):=zq78;have z2_:w2.cell? ⟨ad.block,ad.off+2,none⟩=some (.string ⟨#[114,105,110,103]⟩):=zq79;have z3_:w2.cell? ⟨ad.block,ad.off+3,none⟩=some (.string ⟨#[112,97,114,116]⟩):=zq80;have z4_:w2.cell? ⟨ad.block,ad.off+4,none⟩=some (.string ⟨#[98,97,99,107]⟩):=zq81;clear hb hx0 hx1 hx2 HX HB))
   go_ret
   exact⟨rfl,zq44⟩
  ·clear hvn hk
   have q1:(a<0)=False:=eq_false (by omega)
   have q1':decide (a<0)=false:=decide_eq_false (by omega)
   have q2:(b<0)=False:=eq_false (by omega)
   have q2':decide (b<0)=false:=decide_eq_false (by omega)
   have q3:(99<a)=False:=eq_false (by omega)
   have q3':decide (99<a)=false:=decide_eq_false (by omega)
   have q4:(99<b)=False:=eq_false (by omega)
   have q4':decide (99<b)=false:=decide_eq_false (by omega)
   have q5:(9<a)=True:=eq_true (by omega)
   have q5':decide (9<a)=true:=decide_eq_true (by omega)
   clear hcl_
   go_enter Tryd.func12,Tryd.ntmps12
   go_wp2_with (first|((with_reducible refine gate_dst (N:=1) rfl ?_);refine box_event ?hg (N:=1) ?hd (cs:= #[.int .i64 1,.int .i64 a,.int .i64 b]) (t:=25) ?hr ?_;(case hd=>rfl);(case hg=>rfl);(case hr=> exact zq18);intro gb hg_ w1 hbox hb;have HB:=zqm hb;have HX:=zqm hbox;have hx0:w1.cell? ⟨gb,0,none⟩=some (.int .i64 1):=(blk_cell hbox 0).trans rfl;have hx1:w1.cell? ⟨gb,1,none⟩=some (.int .i64 a):=(blk_cell hbox 1).trans rfl;have hx2:w1.cell? ⟨gb,2,none⟩=some (.int .i64 b):=(blk_cell hbox 2).trans rfl;clear hbox hb hg_)|(go_at_call 32;(with_reducible refine(impl_Deed_named.calls _ 1 a b true _ HN.out).mono ?_);rintro e w2 ⟨rfl,hb⟩;have HB2:=zqm (below_step HB.out hb);have HX2:=zqm (blk_below HX.out hb);have HW2:=zqm (HW.out.below HB2.out);have hy0:w2.cell? ⟨gb,0,none⟩=some (.int .i64 1):=(blk_cell HX2.out 0).trans rfl;have hy1:w2.cell? ⟨gb,1,none⟩=some (.int .i64 a):=(blk_cell HX2.out 1).trans rfl;have hy2:w2.cell? ⟨gb,2,none⟩=some (.int .i64 b):=(blk_cell HX2.out 2).trans rfl;have z_:=HW2.out.v;have z0_:w2.cell? ad=some (.string ⟨#[103,108,117,101]⟩):=zq77;have z1_:w2.cell? ⟨ad.block,ad.off+1,none⟩=some (.string ⟨#[116,105,109,101,115]⟩):=zq78;have z2_:w2.cell? ⟨ad.block,ad.off+2,none⟩=some (.string ⟨#[114,105,110,103]⟩):=zq79;have z3_:w2.cell? ⟨ad.block,ad.off+3,none⟩=some (.string ⟨#[112,97,114,116]⟩):=zq80;have z4_:w2.cell? ⟨ad.block,ad.off+4,none⟩=some (.string ⟨#[98,97,99,107]⟩):=zq81;clear hb hx0 hx1 hx2 HX HB))
   go_ret
   exact⟨rfl,zq44⟩
set_option maxHeartbeats 4000000 in
set_option maxRecDepth 100000 in
theorem deed_glue (x : Nat) (w : World) (ad : Addr) (c : Nat) (hW : WordsAt w ad c) (hx : x ≤ 9) : Calls Tryd.prog 12 #[.agg #[.int .i64 0, .int .i64 (x : Int), .int .i64 0]] w fun e w' => e = .returned (.string (⟨#[103, 108, 117, 101, 32]⟩ ++ numT x)) ∧ Below w.heap.size w w' := by
 have hu25:=Tryd.underlying25
 have HW:=zqm hW
 obtain⟨m,hm⟩:=(named_ev 0 (x:Int) 0).rounds
 have hnm:namedB 0 (x:Int) 0=true:=deedV_named (deedV_iff.2 (by omega))
 rw [hnm] at hm
 have HN:=zqm hm
 clear hm hnm hW
 have hcl_:True:=trivial
 have HI:=zqm (fun w=>itoa_calls x (by omega) w)
 obtain⟨t,ht⟩: ∃t,t=numT x:=⟨_,rfl⟩
 have hts:t.size≤2:=by rw [ht];unfold numT;rw [ba_size];exact num_len x
 rw [← ht] at HI ⊢
 clear ht
 have sz1:(9223372036854775807<5+t.size)=False:=eq_false (by omega)
 have sz2:(5+t.size≤9223372036854775807)=True:=eq_true (by omega)
 have q1:((x:Int)<0)=False:=eq_false (by omega)
 have q1':decide ((x:Int)<0)=false:=decide_eq_false (by omega)
 have q3:(99<(x:Int))=False:=eq_false (by omega)
 have q3':decide (99<(x:Int))=false:=decide_eq_false (by omega)
 have q3n:(99<x)=False:=eq_false (by omega)
 have q3n':decide (99<x)=false:=decide_eq_false (by omega)
 have q5:(9<(x:Int))=False:=eq_false (by omega)
 have q5':decide (9<(x:Int))=false:=decide_eq_false (by omega)
 have q5n:(9<x)=False:=eq_false (by omega)
 have q5n':decide (9<x)=false:=decide_eq_false (by omega)
 clear hcl_
 go_enter Tryd.func12,Tryd.ntmps12
 go_wp2_with (first|((with_reducible refine gate_dst (N:=1) rfl ?_);refine box_event ?hg (N:=1) ?hd (cs:= #[.int .i64 0,.int .i64 (x:Int),.int .i64 0]) (t:=25) ?hr ?_;(case hd=>rfl);(case hg=>rfl);(case hr=> exact zq18);intro gb hg_ w1 hbox hb;have HB:=zqm hb;have HX:=zqm hbox;have hx0:w1.cell? ⟨gb,0,none⟩=some (.int .i64 0):=(blk_cell hbox 0).trans rfl;have hx1:w1.cell? ⟨gb,1,none⟩=some (.int .i64 (x:Int)):=(blk_cell hbox 1).trans rfl;have hx2:w1.cell? ⟨gb,2,none⟩=some (.int .i64 0):=(blk_cell hbox 2).trans rfl;clear hbox hb hg_)|(go_at_call 32;(with_reducible refine(impl_Deed_named.calls _ 0 (x:Int) 0 true _ HN.out).mono ?_);rintro e w2 ⟨rfl,hb⟩;have HB2:=zqm (below_step HB.out hb);have HX2:=zqm (blk_below HX.out hb);have HW2:=zqm (HW.out.below HB2.out);have hy0:w2.cell? ⟨gb,0,none⟩=some (.int .i64 0):=(blk_cell HX2.out 0).trans rfl;have hy1:w2.cell? ⟨gb,1,none⟩=some (.int .i64 (x:Int)):=(blk_cell HX2.out 1).trans rfl;have hy2:w2.cell? ⟨gb,2,none⟩=some (.int .i64 0):=(blk_cell HX2.out 2).trans rfl;have z_:=HW2.out.v;have z0_:w2.cell? ad=some (.string ⟨#[103,108,117,101]⟩):=zq77;have z1_:w2.cell? ⟨ad.block,ad.off+1,none⟩=some (.string ⟨#[116,105,109,101,115]⟩):=zq78;have z2_:w2.cell? ⟨ad.block,ad.off+2,none⟩=some (.string ⟨#[114,105,110,103]⟩):=zq79;have z3_:w2.cell? ⟨ad.block,ad.off+3,none⟩=some (.string ⟨#[112,97,114,116]⟩):=zq80;have z4_:w2.cell? ⟨ad.block,ad.off+4,none⟩=some (.string ⟨#[98,97,99,107]⟩):=zq81;clear hb hx0 hx1 hx2 HX HB))
 refine wp_region_quiet_lit zqk zqk ?_
 repeat(quiet_step ((go_at_call 33;exact Calls.quiet_of_same (HI.out _))))
 refine wpQuiet_nil ?_
 intro _ hw_
 obtain⟨nq,hw2_⟩:=hw_
 subst hw2_
 go_wp2_with fail
 go_ret
 exact⟨rfl,zq44⟩
set_option maxHeartbeats 4000000 in
set_option maxRecDepth 100000 in
theorem deed_times (x : Nat) (w : World) (ad : Addr) (c : Nat) (hW : WordsAt w ad c) (hx : x ≤ 9) : Calls Tryd.prog 12 #[.agg #[.int .i64 1, .int .i64 (x : Int), .int .i64 0]] w fun e w' => e = .returned (.string (⟨#[116, 105, 109, 101, 115, 32]⟩ ++ numT x)) ∧ Below w.heap.size w w' := by
 have hu25:=Tryd.underlying25
 have HW:=zqm hW
 obtain⟨m,hm⟩:=(named_ev 1 (x:Int) 0).rounds
 have hnm:namedB 1 (x:Int) 0=true:=deedV_named (deedV_iff.2 (by omega))
 rw [hnm] at hm
 have HN:=zqm hm
 clear hm hnm hW
 have hcl_:True:=trivial
 have HI:=zqm (fun w=>itoa_calls x (by omega) w)
 obtain⟨t,ht⟩: ∃t,t=numT x:=⟨_,rfl⟩
 have hts:t.size≤2:=by rw [ht];unfold numT;rw [ba_size];exact num_len x
 rw [← ht] at HI ⊢
 clear ht
 have sz1:(9223372036854775807<6+t.size)=False:=eq_false (by omega)
 have sz2:(6+t.size≤9223372036854775807)=True:=eq_true (by omega)
 have q1:((x:Int)<0)=False:=eq_false (by omega)
 have q1':decide ((x:Int)<0)=false:=decide_eq_false (by omega)
 have q3:(99<(x:Int))=False:=eq_false (by omega)
 have q3':decide (99<(x:Int))=false:=decide_eq_false (by omega)
 have q3n:(99<x)=False:=eq_false (by omega)
 have q3n':decide (99<x)=false:=decide_eq_false (by omega)
 have q5:(9<(x:Int))=False:=eq_false (by omega)
 have q5':decide (9<(x:Int))=false:=decide_eq_false (by omega)
 have q5n:(9<x)=False:=eq_false (by omega)
 have q5n':decide (9<x)=false:=decide_eq_false (by omega)
 clear hcl_
 go_enter Tryd.func12,Tryd.ntmps12
 go_wp2_with (first|((with_reducible refine gate_dst (N:=1) rfl ?_);refine box_event ?hg (N:=1) ?hd (cs:= #[.int .i64 1,.int .i64 (x:Int),.int .i64 0]) (t:=25) ?hr ?_;(case hd=>rfl);(case hg=>rfl);(case hr=> exact zq18);intro gb hg_ w1 hbox hb;have HB:=zqm hb;have HX:=zqm hbox;have hx0:w1.cell? ⟨gb,0,none⟩=some (.int .i64 1):=(blk_cell hbox 0).trans rfl;have hx1:w1.cell? ⟨gb,1,none⟩=some (.int .i64 (x:Int)):=(blk_cell hbox 1).trans rfl;have hx2:w1.cell? ⟨gb,2,none⟩=some (.int .i64 0):=(blk_cell hbox 2).trans rfl;clear hbox hb hg_)|(go_at_call 32;(with_reducible refine(impl_Deed_named.calls _ 1 (x:Int) 0 true _ HN.out).mono ?_);rintro e w2 ⟨rfl,hb⟩;have HB2:=zqm (below_step HB.out hb);have HX2:=zqm (blk_below HX.out hb);have HW2:=zqm (HW.out.below HB2.out);have hy0:w2.cell? ⟨gb,0,none⟩=some (.int .i64 1):=(blk_cell HX2.out 0).trans rfl;have hy1:w2.cell? ⟨gb,1,none⟩=some (.int .i64 (x:Int)):=(blk_cell HX2.out 1).trans rfl;have hy2:w2.cell? ⟨gb,2,none⟩=some (.int .i64 0):=(blk_cell HX2.out 2).trans rfl;have z_:=HW2.out.v;have z0_:w2.cell? ad=some (.string ⟨#[103,108,117,101]⟩):=zq77;have z1_:w2.cell? ⟨ad.block,ad.off+1,none⟩=some (.string ⟨#[116,105,109,101,115]⟩):=zq78;have z2_:w2.cell? ⟨ad.block,ad.off+2,none⟩=some (.string ⟨#[114,105,110,103]⟩):=zq79;have z3_:w2.cell? ⟨ad.block,ad.off+3,none⟩=some (.string ⟨#[112,97,114,116]⟩):=zq80;have z4_:w2.cell? ⟨ad.block,ad.off+4,none⟩=some (.string ⟨#[98,97,99,107]⟩):=zq81;clear hb hx0 hx1 hx2 HX HB))
 refine wp_region_quiet_lit zqk zqk ?_
 repeat(quiet_step ((go_at_call 33;exact Calls.quiet_of_same (HI.out _))))
 refine wpQuiet_nil ?_
 intro _ hw_
 obtain⟨nq,hw2_⟩:=hw_
 subst hw2_
 go_wp2_with fail
 go_ret
 exact⟨rfl,zq44⟩
set_option maxHeartbeats 4000000 in
set_option maxRecDepth 100000 in
theorem deed_part (x y : Nat) (w : World) (ad : Addr) (c : Nat) (hW : WordsAt w ad c) (hx : x ≤ 99) (hy : y ≤ 99) : Calls Tryd.prog 12 #[.agg #[.int .i64 3, .int .i64 (x : Int), .int .i64 (y : Int)]] w fun e w' => e = .returned (.string (((⟨#[112, 97, 114, 116, 32]⟩ ++ numT x) ++ ⟨#[32]⟩) ++ numT y)) ∧ Below w.heap.size w w' := by
 have hu25:=Tryd.underlying25
 have HW:=zqm hW
 obtain⟨m,hm⟩:=(named_ev 3 (x:Int) (y:Int)).rounds
 have hnm:namedB 3 (x:Int) (y:Int)=true:=deedV_named (deedV_iff.2 (by omega))
 rw [hnm] at hm
 have HN:=zqm hm
 clear hm hnm hW
 have hcl_:True:=trivial
 have HI:=zqm (fun w=>itoa_calls x (by omega) w)
 have HJ:=zqm (fun w=>itoa_calls y (by omega) w)
 obtain⟨t,ht⟩: ∃t,t=numT x:=⟨_,rfl⟩
 have hts:t.size≤2:=by rw [ht];unfold numT;rw [ba_size];exact num_len x
 rw [← ht] at HI ⊢
 clear ht
 obtain⟨u,hu⟩: ∃u,u=numT y:=⟨_,rfl⟩
 have hus:u.size≤2:=by rw [hu];unfold numT;rw [ba_size];exact num_len y
 rw [← hu] at HJ ⊢
 clear hu
 have sz1:(9223372036854775807<5+t.size)=False:=eq_false (by omega)
 have sz2:(9223372036854775807<5+t.size+1)=False:=eq_false (by omega)
 have sz3:(9223372036854775807<5+t.size+1+u.size)=False:=eq_false (by omega)
 have q1:((x:Int)<0)=False:=eq_false (by omega)
 have q1':decide ((x:Int)<0)=false:=decide_eq_false (by omega)
 have q3:(99<(x:Int))=False:=eq_false (by omega)
 have q3':decide (99<(x:Int))=false:=decide_eq_false (by omega)
 have q3n:(99<x)=False:=eq_false (by omega)
 have q3n':decide (99<x)=false:=decide_eq_false (by omega)
 have q2:((y:Int)<0)=False:=eq_false (by omega)
 have q2':decide ((y:Int)<0)=false:=decide_eq_false (by omega)
 have q4:(99<(y:Int))=False:=eq_false (by omega)
 have q4':decide (99<(y:Int))=false:=decide_eq_false (by omega)
 have q4n:(99<y)=False:=eq_false (by omega)
 have q4n':decide (99<y)=false:=decide_eq_false (by omega)
 clear hcl_
 go_enter Tryd.func12,Tryd.ntmps12
 go_wp2_with (first|((with_reducible refine gate_dst (N:=1) rfl ?_);refine box_event ?hg (N:=1) ?hd (cs:= #[.int .i64 3,.int .i64 (x:Int),.int .i64 (y:Int)]) (t:=25) ?hr ?_;(case hd=>rfl);(case hg=>rfl);(case hr=> exact zq18);intro gb hg_ w1 hbox hb;have HB:=zqm hb;have HX:=zqm hbox;have hx0:w1.cell? ⟨gb,0,none⟩=some (.int .i64 3):=(blk_cell hbox 0).trans rfl;have hx1:w1.cell? ⟨gb,1,none⟩=some (.int .i64 (x:Int)):=(blk_cell hbox 1).trans rfl;have hx2:w1.cell? ⟨gb,2,none⟩=some (.int .i64 (y:Int)):=(blk_cell hbox 2).trans rfl;clear hbox hb hg_)|(go_at_call 32;(with_reducible refine(impl_Deed_named.calls _ 3 (x:Int) (y:Int) true _ HN.out).mono ?_);rintro e w2 ⟨rfl,hb⟩;have HB2:=zqm (below_step HB.out hb);have HX2:=zqm (blk_below HX.out hb);have HW2:=zqm (HW.out.below HB2.out);have hy0:w2.cell? ⟨gb,0,none⟩=some (.int .i64 3):=(blk_cell HX2.out 0).trans rfl;have hy1:w2.cell? ⟨gb,1,none⟩=some (.int .i64 (x:Int)):=(blk_cell HX2.out 1).trans rfl;have hy2:w2.cell? ⟨gb,2,none⟩=some (.int .i64 (y:Int)):=(blk_cell HX2.out 2).trans rfl;have z_:=HW2.out.v;have z0_:w2.cell? ad=some (.string ⟨#[103,108,117,101]⟩):=zq77;have z1_:w2.cell? ⟨ad.block,ad.off+1,none⟩=some (.string ⟨#[116,105,109,101,115]⟩):=zq78;have z2_:w2.cell? ⟨ad.block,ad.off+2,none⟩=some (.string ⟨#[114,105,110,103]⟩):=zq79;have z3_:w2.cell? ⟨ad.block,ad.off+3,none⟩=some (.string ⟨#[112,97,114,116]⟩):=zq80;have z4_:w2.cell? ⟨ad.block,ad.off+4,none⟩=some (.string ⟨#[98,97,99,107]⟩):=zq81;clear hb hx0 hx1 hx2 HX HB))
 refine wp_region_quiet_lit zqk zqk ?_
 repeat(quiet_step (first|(go_at_call 33;exact Calls.quiet_of_same (HI.out _))|(go_at_call 33;exact Calls.quiet_of_same (HJ.out _))))
 refine wpQuiet_nil ?_
 intro _ hw_
 obtain⟨nq,hw2_⟩:=hw_
 subst hw2_
 go_wp2_with fail
 go_ret
 exact⟨rfl,zq44⟩
set_option maxHeartbeats 4000000 in
set_option maxRecDepth 100000 in
theorem deed_ring (w : World) (ad : Addr) (c : Nat) (hW : WordsAt w ad c) : Calls Tryd.prog 12 #[.agg #[.int .i64 2, .int .i64 0, .int .i64 0]] w fun e w' => e = .returned (.string (⟨#[114, 105, 110, 103]⟩ : ByteArray)) ∧ Below w.heap.size w w' := by
 have hu25:=Tryd.underlying25
 have HW:=zqm hW
 obtain⟨m,hm⟩:=(named_ev 2 0 0).rounds
 have hnm:namedB 2 0 0=true:=deedV_named (deedV_iff.2 (by omega))
 rw [hnm] at hm
 have HN:=zqm hm
 clear hm hnm hW
 have hcl_:True:=trivial
 clear hcl_
 go_enter Tryd.func12,Tryd.ntmps12
 go_wp2_with (first|((with_reducible refine gate_dst (N:=1) rfl ?_);refine box_event ?hg (N:=1) ?hd (cs:= #[.int .i64 2,.int .i64 0,.int .i64 0]) (t:=25) ?hr ?_;(case hd=>rfl);(case hg=>rfl);(case hr=>first|(go_simp;done)|(go_simp;rfl));intro gb hg_ w1 hbox hb;have HB:=zqm hb;have HX:=zqm hbox;have hx0:w1.cell? ⟨gb,0,none⟩=some (.int .i64 2):=(blk_cell hbox 0).trans rfl;have hx1:w1.cell? ⟨gb,1,none⟩=some (.int .i64 0):=(blk_cell hbox 1).trans rfl;have hx2:w1.cell? ⟨gb,2,none⟩=some (.int .i64 0):=(blk_cell hbox 2).trans rfl;clear hbox hb hg_)|(go_at_call 32;(with_reducible refine(impl_Deed_named.calls _ 2 0 0 true _ HN.out).mono ?_);rintro e w2 ⟨rfl,hb⟩;have HB2:=zqm (below_step HB.out hb);have HX2:=zqm (blk_below HX.out hb);have HW2:=zqm (HW.out.below HB2.out);have hy0:w2.cell? ⟨gb,0,none⟩=some (.int .i64 2):=(blk_cell HX2.out 0).trans rfl;have hy1:w2.cell? ⟨gb,1,none⟩=some (.int .i64 0):=(blk_cell HX2.out 1).trans rfl;have hy2:w2.cell? ⟨gb,2,none⟩=some (.int .i64 0):=(blk_cell HX2.out 2).trans rfl;have z_:=HW2.out.v;have z0_:w2.cell? ad=some (.string ⟨#[103,108,117,101]⟩):=(by have h_:=HW2.out.e0;simpa [Addr.add] using h_);have z1_:w2.cell? ⟨ad.block,ad.off+1,none⟩=some (.string ⟨#[116,105,109,101,115]⟩):=(by have h_:=HW2.out.e1;simpa [Addr.add] using h_);have z2_:w2.cell? ⟨ad.block,ad.off+2,none⟩=some (.string ⟨#[114,105,110,103]⟩):=(by have h_:=HW2.out.e2;simpa [Addr.add] using h_);have z3_:w2.cell? ⟨ad.block,ad.off+3,none⟩=some (.string ⟨#[112,97,114,116]⟩):=(by have h_:=HW2.out.e3;simpa [Addr.add] using h_);have z4_:w2.cell? ⟨ad.block,ad.off+4,none⟩=some (.string ⟨#[98,97,99,107]⟩):=(by have h_:=HW2.out.e4;simpa [Addr.add] using h_);clear hb hx0 hx1 hx2 HX HB))
 go_ret
 exact⟨rfl,by repeat(first|exact HB2.out|apply pw_below_drewN|apply below_drew1|apply below_alloc)⟩
set_option maxHeartbeats 4000000 in
set_option maxRecDepth 100000 in
theorem deed_back (w : World) (ad : Addr) (c : Nat) (hW : WordsAt w ad c) : Calls Tryd.prog 12 #[.agg #[.int .i64 4, .int .i64 0, .int .i64 0]] w fun e w' => e = .returned (.string (⟨#[98, 97, 99, 107]⟩ : ByteArray)) ∧ Below w.heap.size w w' := by
 have hu25:=Tryd.underlying25
 have HW:=zqm hW
 obtain⟨m,hm⟩:=(named_ev 4 0 0).rounds
 have hnm:namedB 4 0 0=true:=deedV_named (deedV_iff.2 (by omega))
 rw [hnm] at hm
 have HN:=zqm hm
 clear hm hnm hW
 have hcl_:True:=trivial
 clear hcl_
 go_enter Tryd.func12,Tryd.ntmps12
 go_wp2_with (first|((with_reducible refine gate_dst (N:=1) rfl ?_);refine box_event ?hg (N:=1) ?hd (cs:= #[.int .i64 4,.int .i64 0,.int .i64 0]) (t:=25) ?hr ?_;(case hd=>rfl);(case hg=>rfl);(case hr=>first|(go_simp;done)|(go_simp;rfl));intro gb hg_ w1 hbox hb;have HB:=zqm hb;have HX:=zqm hbox;have hx0:w1.cell? ⟨gb,0,none⟩=some (.int .i64 4):=(blk_cell hbox 0).trans rfl;have hx1:w1.cell? ⟨gb,1,none⟩=some (.int .i64 0):=(blk_cell hbox 1).trans rfl;have hx2:w1.cell? ⟨gb,2,none⟩=some (.int .i64 0):=(blk_cell hbox 2).trans rfl;clear hbox hb hg_)|(go_at_call 32;(with_reducible refine(impl_Deed_named.calls _ 4 0 0 true _ HN.out).mono ?_);rintro e w2 ⟨rfl,hb⟩;have HB2:=zqm (below_step HB.out hb);have HX2:=zqm (blk_below HX.out hb);have HW2:=zqm (HW.out.below HB2.out);have hy0:w2.cell? ⟨gb,0,none⟩=some (.int .i64 4):=(blk_cell HX2.out 0).trans rfl;have hy1:w2.cell? ⟨gb,1,none⟩=some (.int .i64 0):=(blk_cell HX2.out 1).trans rfl;have hy2:w2.cell? ⟨gb,2,none⟩=some (.int .i64 0):=(blk_cell HX2.out 2).trans rfl;have z_:=HW2.out.v;have z0_:w2.cell? ad=some (.string ⟨#[103,108,117,101]⟩):=(by have h_:=HW2.out.e0;simpa [Addr.add] using h_);have z1_:w2.cell? ⟨ad.block,ad.off+1,none⟩=some (.string ⟨#[116,105,109,101,115]⟩):=(by have h_:=HW2.out.e1;simpa [Addr.add] using h_);have z2_:w2.cell? ⟨ad.block,ad.off+2,none⟩=some (.string ⟨#[114,105,110,103]⟩):=(by have h_:=HW2.out.e2;simpa [Addr.add] using h_);have z3_:w2.cell? ⟨ad.block,ad.off+3,none⟩=some (.string ⟨#[112,97,114,116]⟩):=(by have h_:=HW2.out.e3;simpa [Addr.add] using h_);have z4_:w2.cell? ⟨ad.block,ad.off+4,none⟩=some (.string ⟨#[98,97,99,107]⟩):=(by have h_:=HW2.out.e4;simpa [Addr.add] using h_);clear hb hx0 hx1 hx2 HX HB))
 go_ret
 exact⟨rfl,by repeat(first|exact HB2.out|apply pw_below_drewN|apply below_drew1|apply below_alloc)⟩
theorem deed_calls (k a b : Int) (w : World) (ad : Addr) (c : Nat) (hW : WordsAt w ad c) : Calls Tryd.prog 12 #[.agg #[.int .i64 k, .int .i64 a, .int .i64 b]] w fun e w' => e = .returned (.string (deedT k a b)) ∧ Below w.heap.size w w' := by
 cases hv:deedV k a b with
 |false=>
  have:=deed_bad k a b w ad c hW hv
  unfold deedT
  rw [hv,if_neg (by simp)]
  exact this
 |true=>
  unfold deedT
  rw [hv,if_pos rfl]
  unfold deedL
  rcases deedV_iff.1 hv with ⟨rfl,h1,rfl⟩|⟨rfl,h1,rfl⟩|⟨rfl,rfl,rfl⟩|⟨rfl,h1,h2⟩|⟨rfl,rfl,rfl⟩
  ·obtain⟨x,rfl⟩: ∃x:Nat,a=(x:Int):=⟨a.toNat,by omega⟩
   have h:=deed_glue x w ad c hW (by omega)
   rw [show (⟨#[103,108,117,101,32]⟩ ++ numT x:ByteArray)=_ from ba_app [103,108,117,101,32] (numL x)] at h
   rw [if_pos rfl,Int.toNat_natCast]
   exact h
  ·obtain⟨x,rfl⟩: ∃x:Nat,a=(x:Int):=⟨a.toNat,by omega⟩
   have h:=deed_times x w ad c hW (by omega)
   rw [show (⟨#[116,105,109,101,115,32]⟩ ++ numT x:ByteArray)=_ from ba_app [116,105,109,101,115,32] (numL x)] at h
   rw [if_neg (by decide),if_pos rfl,Int.toNat_natCast]
   exact h
  ·exact deed_ring w ad c hW
  ·obtain⟨x,rfl⟩: ∃x:Nat,a=(x:Int):=⟨a.toNat,by omega⟩
   obtain⟨y,rfl⟩: ∃y:Nat,b=(y:Int):=⟨b.toNat,by omega⟩
   have h:=deed_part x y w ad c hW (by omega) (by omega)
   rw [show (⟨#[112,97,114,116,32]⟩ ++ numT x:ByteArray)=_ from ba_app [112,97,114,116,32] (numL x),show (_ ++ (⟨#[32]⟩:ByteArray))=_ from ba_app ([112,97,114,116,32] ++ numL x) [32],show (_ ++ numT y:ByteArray)=_ from ba_app ([112,97,114,116,32] ++ numL x ++ [32]) (numL y)] at h
   rw [if_neg (by decide),if_neg (by decide),if_neg (by decide),if_pos rfl,Int.toNat_natCast,Int.toNat_natCast]
   exact h
  ·exact deed_back w ad c hW
end Go.Proofs.YtddgcdpogpppgaaDoor.Print
end
