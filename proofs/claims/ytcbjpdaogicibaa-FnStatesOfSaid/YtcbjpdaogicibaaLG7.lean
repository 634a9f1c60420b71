/- Part 7 of what is common to several claims of this seat: StatesOfL. -/
import Derived.Test.YtcbjpdaogicibaaLG6
import Derived.Below
import Derived.Deep.Draws
import Derived.Deep.AppendLies
import Derived.Maps.AppendAt
import Derived.OwnWalk
import Derived.Laws.BytesArg
import Derived.Laws.MakeOwn
import Derived.Laws.OwnMore
import Derived.Deep.OwnRows
import Derived.Tactics
import Derived.Lib.ConvBytes
import Derived.Laws.Slices
import Derived.WalkKit
import Derived.KernelRfl
import Derived.RowKit3
import Derived.Deep.LoopGhost
import Derived.Deep.QuietTactic
import Derived.BigQuiet
import Derived.WideLaws
import Derived.Deep.DeepCutAuto
import Derived.Deep.CutBlock
import Derived.Deep.RegionHeld3
import Derived.Laws.Rows
import Derived.Lib.AppendStr
import Derived.ArgAppend
import Derived.Laws.IdiomCopy
import Derived.RowKit
import Derived.OrdersHeld
import Derived.Laws.BitsLemmas
import Derived.Test.YtcbjpdaogicibaaProg
import Derived.LaidEqlPtr
set_option linter.all false
section
namespace Go.Proofs.Ytcbjpdaogicibaa.Print
open Go.RowKit Go.Proofs.YtcbjpdaogicibaaW.PrintWords Go.Proofs.YtcbjpdaogicibaaW.PrintLast Go.Proofs.YtcbjpdaogicibaaW.PrintMore
open Oml
def ptrK : Kd (Option Addr) := Kd.scalar (fun x : Option Addr => Value.pointer x) (fun _ => rfl)
theorem infoPtr : (Try.prog.info? 67).map (fun i => (i.zero, i.size, i.bytes)) = some (some (.pointer none), 1, 8) := by kernel_rfl
theorem infoAl : ∃ j, Try.prog.info? 74 = some j ∧ j.size ≠ 0 := by
 have h:((Try.prog.info? 74).any fun j=>decide (j.size≠0))=true:=by kernel_rfl
 cases e:Try.prog.info? 74 with
 |none=>rw [e] at h;exact absurd h (by simp)
 |some j=>rw [e] at h;exact⟨j,rfl,by simpa using h⟩
theorem eql_nil_ptr {P : Program} (w : World) {tp te : TypeId} (p : Option Addr) (hp : P.underlying tp = some (.pointer te)) : (binOp .eql tp (.pointer none) (.pointer p)).run P w = .ok (.bool p.isNone) w := by
 have h: ∀d:Nat,(Op.equalIn (d+1) tp (.pointer none) (.pointer p)).run P w= .ok p.isNone w:=fun d=>by
  simp [Op.equalIn,run_underlying hp]
 simp only [binOp]
 simp [Op.equal,Op.maxDepth,h 9999]
theorem eql_same (w : World) (a : Addr) : (binOp .eql 67 (.pointer (some a)) (.pointer (some a))).run Try.prog w = .ok (.bool true) w := by
 obtain⟨j,hj,_⟩:=infoAl
 exact run_eql_ptr_same w a Try.underlying67 hj
theorem eql_other {w : World} {a b : Nat} {ca cb : Array Value} {ta tb : TypeId} (hne : a ≠ b) (ha : w.heap[a]? = some (.cells ca ta (0, 0))) (hb : w.heap[b]? = some (.cells cb tb (0, 0))) :
 (binOp .eql 67 (.pointer (some ⟨a,0,none⟩)) (.pointer (some ⟨b,0,none⟩))).run Try.prog w= .ok (.bool false) w:=by
 obtain⟨j,hj,hs⟩:=infoAl
 exact run_eql_ptr_other w Try.underlying67 hj hs (fun e=>hne (congrArg Addr.block e)) ha hb
theorem eql_nil (w : World) (a : Addr) : (binOp .eql 67 (.pointer none) (.pointer (some a))).run Try.prog w = .ok (.bool false) w := eql_nil_ptr w (some a) Try.underlying67
structure GluI (w : World) (gL gO gI : Nat) (P I : Addr) (n : Nat) (m : Int) (cP cI : Nat) (O : Nat → Option Addr) (K : Nat → Int) : Prop where
 bL:w.heap[gL]? =some (.cells #[.int .i64 m] 3 (0,0))
 bO:w.heap[gO]? =some (.cells #[.slice (some P) n cP] 101 (0,0))
 bI:w.heap[gI]? =some (.cells #[.slice (some I) n cI] 24 (0,0))
 o: ∀k:Nat,k<n→w.cell? (P.add k)=some (.pointer (O k))
 i: ∀k:Nat,k<n→w.cell? (I.add k)=some (.int .i64 (K k))
theorem GluI.below {w w1 : World} {gL gO gI : Nat} {P I : Addr} {n : Nat} {m : Int} {cP cI : Nat} {O : Nat → Option Addr} {K : Nat → Int} (h : GluI w gL gO gI P I n m cP cI O K) (hb : Below w.heap.size w w1) : GluI w1 gL gO gI P I n m cP cI O K :=
 ⟨blk_below h.bL hb,blk_below h.bO hb,blk_below h.bI hb,fun k hk=>cell_up (h.o k hk) hb rfl,fun k hk=>cell_up (h.i k hk) hb rfl⟩
def glu_c1.T5 : Bool × List (List Nat × List Nat) := (true, [([], []), ([], []), ([0, 1], [0, 1]), ([2], [2]), ([], []), ([], []), ([4, 5], [4, 5]), ([6], [6]), ([3, 7], [3, 7]), ([8], [8]), ([9], [9]), ([9], [9]), ([10, 11, 9], [9, 10, 11]), ([12, 9], [9, 12]), ([13, 9], [9, 13]), ([14, 9], [9, 14]), ([15, 9], [9, 15]), ([9], [9]), ([9], [9]), ([17, 18, 9], [9, 17, 18]), ([19, 9], [9, 19]), ([16, 20, 9], [9, 16, 20]), ([21, 9], [9, 21]), ([9], [9]), ([9], [9]), ([23, 24, 9], [9, 23, 24]), ([25, 9], [9, 25]), ([22, 26, 9], [9, 22, 26]), ([27, 9], [9, 27]), ([28, 9], [9, 28]), ([9, 29], [9, 29]), ([30, 9, 0, 1, 2, 3, 4, 5, 6, 7, 8, 9, 10, 11, 12, 13, 14, 15, 16, 17, 18, 19, 20, 21, 22, 23, 24, 25, 26, 27, 28, 29, 30], [30])])
def glu_c1.B5 : List Nat := [0, 0, 3, 7, 0, 0, 48, 112, 255, 511, 1023, 1023, 4095, 8191, 16383, 32767, 65535, 1023, 1023, 394239, 918527, 2097151, 4194303, 1023, 1023, 25166847, 58721279, 134217727, 268435455, 536870911, 1073741823, 2147483647]
theorem glu_c1.tab5 : rtab .any (opsOf Try.f115 5) = glu_c1.T5 := by kernel_rfl
theorem glu_c1.bits5 : waitsOk glu_c1.T5.2 glu_c1.B5 = true := by kernel_rfl
def GluP (w : World) (O : Nat → Option Addr) (K : Nat → Int) (x y : Nat) (r : Bool) : Prop :=
 (∃g1 g2 U1 N1 v1 U2 N2 v2,O x=some ⟨g1,0,none⟩∧O y=some ⟨g2,0,none⟩∧g1≠g2∧View w g1 U1 N1 v1∧View w g2 U2 N2 v2∧r=false)∨
 (∃g U N v,O x=some ⟨g,0,none⟩∧O y=some ⟨g,0,none⟩∧View w g U N v∧In U (K x)∧In U (K y)∧r=(at2 U (K x).toNat (K y).toNat==1))
set_option maxHeartbeats 4000000 in
set_option maxRecDepth 100000 in
theorem glu_c1 (x y : Int) (n : Nat) (m : Int) (hm : m + 1 = (n : Int)) (hx : 0 ≤ x ∧ x ≤ m) (hy : 0 ≤ y ∧ y ≤ m) (w : World) (gL gO gI : Nat) (P I : Addr) (cP cI : Nat) (O : Nat → Option Addr) (K : Nat → Int) (hI : GluI w gL gO gI P I n m cP cI O K) (r : Bool)
 (hr1:x=0∨y=m∨x=y→r=true) (hr2: ¬(x=0∨y=m∨x=y)→x=m∨y=0→r=false) (hp: ¬(x=0∨y=m∨x=y)→ ¬(x=m∨y=0)→GluP w O K x.toNat y.toNat r):
 Calls Try.prog 115 #[.int .i64 x,.int .i64 y,.pointer (some ⟨gL,0,none⟩),.pointer (some ⟨gO,0,none⟩),.pointer (some ⟨gI,0,none⟩)] w fun e w'=>e= .returned (.bool r)∧Drawn0 w w':=by
 have hu70:=Try.underlying74
 have hc:w.cell? ⟨gL,0,none⟩=some (.int .i64 m):=(blk_cell hI.bL 0).trans rfl
 have HI:=zqm hI
 have HP:=zqm hp
 have HX:=zqm hx
 have HY:=zqm hy
 have HM:=zqm hm
 have HR2:=zqm hr2
 clear hI hp hx hy hm hr2
 by_cases h1:x=0
 ·have hr':r=true:=hr1 (.inl h1)
  subst h1 hr'
  clear hr1 HP HR2
  go_enter Try.func115,Try.ntmps115
  go_wp2
  go_ret
  exact⟨rfl,zq8⟩
 have e1:(x==0)=false:=by simpa using h1
 by_cases h2:y=m
 ·have hr':r=true:=hr1 (.inr (.inl h2))
  subst h2 hr'
  clear hr1 h1 HP HR2
  go_enter Try.func115,Try.ntmps115
  go_wp2
  go_ret
  exact⟨rfl,zq8⟩
 have e2:(y==m)=false:=by simpa using h2
 by_cases h3:x=y
 ·have hr':r=true:=hr1 (.inr (.inr h3))
  subst h3 hr'
  clear hr1 h1 h2 HP HR2
  go_enter Try.func115,Try.ntmps115
  go_wp2
  go_ret
  exact⟨rfl,zq8⟩
 have e3:(x==y)=false:=by simpa using h3
 have hn: ¬(x=0∨y=m∨x=y):=fun h=>h.elim h1 fun h=>h.elim h2 h3
 clear hr1
 by_cases h4:x=m
 ·have hr':r=false:=HR2.out hn (.inl h4)
  subst h4 hr'
  clear h1 h2 h3 hn HP HR2
  go_enter Try.func115,Try.ntmps115
  go_wp2
  go_ret
  exact⟨rfl,zq8⟩
 have e4:(x==m)=false:=by simpa using h4
 by_cases h5:y=0
 ·have hr':r=false:=HR2.out hn (.inr h5)
  subst h5 hr'
  clear h1 h2 h3 h4 hn HP HR2
  go_enter Try.func115,Try.ntmps115
  go_wp2
  go_ret
  exact⟨rfl,zq8⟩
 have e5:(y==0)=false:=by simpa using h5
 have HP:=HP.out hn (fun h=>h.elim h4 h5)
 have b1:(0≤x)=True:=eq_true HX.out.1
 have b2:(x<(n:Int))=True:=eq_true (by have:=HX.out.2;have:=HM.out;omega)
 have b3:(0≤y)=True:=eq_true HY.out.1
 have b4:(y<(n:Int))=True:=eq_true (by have:=HY.out.2;have:=HM.out;omega)
 have nx:x.toNat<n:=by have:=HX.out;have:=HM.out;omega
 have ny:y.toNat<n:=by have:=HY.out;have:=HM.out;omega
 have f0:w.cell? ⟨gO,0,none⟩=some (.slice (some P) n cP):=(blk_cell HI.out.bO 0).trans rfl
 have f1:=HI.out.o _ nx
 have f2:=HI.out.o _ ny
 rcases HP with ⟨g1,g2,U1,N1,v1,U2,N2,v2,q1,q2,hne,hv1,hv2,rfl⟩|⟨g1,U,N,v,q1,q2,hv,ix,iy,hz⟩
 ·rw [q1] at f1
  rw [q2] at f2
  have HNE:=zqm hne
  have hB1_:=zqm hv1.blk
  have hB2_:=zqm hv2.blk
  generalize (#[.slice (some v1.aU) U1.length v1.cU,.slice (some v1.aA) U1.length v1.cA,.slice (some v1.aO) U1.length v1.cO,.slice (some v1.aN) U1.length v1.cN,.int .i64 (noI U1),.int .i64 (yesI U1 N1)]:Array Value)=B1 at hB1_
  generalize (#[.slice (some v2.aU) U2.length v2.cU,.slice (some v2.aA) U2.length v2.cA,.slice (some v2.aO) U2.length v2.cO,.slice (some v2.aN) U2.length v2.cN,.int .i64 (noI U2),.int .i64 (yesI U2 N2)]:Array Value)=B2 at hB2_
  clear h1 h2 h3 h4 h5 nx ny q1 q2 hne hv1 hv2 hn HR2
  go_enter Try.func115,Try.ntmps115
  go_wp2
  refine start_ (n:=32) (S:=(fun w'=>w'.cell? ⟨gO,0,none⟩=some (.slice (some P) n cP)∧w'.cell? (P.add x.toNat)=some (.pointer (some ⟨g1,0,none⟩))∧w'.cell? (P.add y.toNat)=some (.pointer (some ⟨g2,0,none⟩))∧w'.heap[g1]? =some (.cells B1 74 (0,0))∧w'.heap[g2]? =some (.cells B2 74 (0,0)))) (ds:= []) (zqb 32 0) zqk rfl rfl ⟨f0,f1,f2,blk_drew hB1_.out,blk_drew hB2_.out⟩ (fun hHeld=>?_)
  refine with_tabW glu_c1.tab5 glu_c1.bits5 (fun HT_ HW_=>?_)
  refine zqw 0 29 (zqb 32 1) HT_ HW_ hHeld ?_
  refine zqp 1 30 (zqb 32 3) HT_ ?_
  refine zqp 2 31 (zqb 32 7) HT_ ?_
  refine zqw 3 32 (zqb 32 15) HT_ HW_ hHeld ?_
  refine zqw 4 33 (zqb 32 31) HT_ HW_ hHeld ?_
  refine zqp 5 34 (zqb 32 63) HT_ ?_
  refine zqp 6 35 (zqb 32 127) HT_ ?_
  refine zqw 7 36 (zqb 32 255) HT_ HW_ hHeld ?_
  refine take_ (i:=8) (N:=some 37) (v:=?_) (a':=?_) (zqb 32 511) rfl rfl (take_ofW HT_.out HW_.out zqk) (fun _ _ _ h=>h) (Or.inl ⟨by rfl,?_⟩) hHeld ?_ ?_
  rotate_left
  ·rintro w' ⟨t0,t1,t2,t3,t4⟩;go_simp;rw [eql_other HNE.out t3 t4];rfl
  rotate_left
  ·exact zqs
  refine zqp 9 38 (zqb 32 1023) HT_ ?_
  refine zqu 10 39 (zqb 32 2047) HT_ ?_
  refine zqu 11 40 (zqb 32 4095) HT_ ?_
  refine zqu 12 41 (zqb 32 8191) HT_ ?_
  refine zqu 13 42 (zqb 32 16383) HT_ ?_
  refine zqu 14 43 (zqb 32 32767) HT_ ?_
  refine zqu 15 44 (zqb 32 65535) HT_ ?_
  refine zqu 16 45 (zqb 32 131071) HT_ ?_
  refine zqu 17 46 (zqb 32 262143) HT_ ?_
  refine zqu 18 47 (zqb 32 524287) HT_ ?_
  refine zqu 19 48 (zqb 32 1048575) HT_ ?_
  refine zqu 20 49 (zqb 32 2097151) HT_ ?_
  refine zqu 21 50 (zqb 32 4194303) HT_ ?_
  refine zqu 22 51 (zqb 32 8388607) HT_ ?_
  refine zqu 23 52 (zqb 32 16777215) HT_ ?_
  refine zqu 24 53 (zqb 32 33554431) HT_ ?_
  refine zqu 25 54 (zqb 32 67108863) HT_ ?_
  refine zqu 26 55 (zqb 32 134217727) HT_ ?_
  refine zqu 27 56 (zqb 32 268435455) HT_ ?_
  refine zqu 28 57 (zqb 32 536870911) HT_ ?_
  refine zqu 29 58 (zqb 32 1073741823) HT_ ?_
  refine zqp 30 59 (zqb 32 2147483647) HT_ ?_
  refine zqp 31 7 (zqb 32 4294967295) HT_ ?_
  refine done_ (done_of HT_.out zqk) ?_
  go_wp2
  go_ret
  exact⟨rfl,zq8⟩
 ·rw [q1] at f1
  rw [q2] at f2
  have f3:w.cell? ⟨gI,0,none⟩=some (.slice (some I) n cI):=(blk_cell HI.out.bI 0).trans rfl
  have f4:=HI.out.i _ nx
  have f5:=HI.out.i _ ny
  have f6:=hv.f0
  have f7:=hv.u _ ix
  have f8:=hv.u2 _ _ ix iy
  generalize K x.toNat=kx at f4 f7 f8 ix hz
  generalize K y.toNat=ky at f5 f8 iy hz
  obtain⟨va,hva⟩: ∃va,va=at2 U kx.toNat ky.toNat:=⟨_,rfl⟩
  rw [← hva] at f8 hz
  have b5:(0≤kx)=True:=eq_true ix.1
  have b6:(kx<(U.length:Int))=True:=eq_true ix.2
  have b7:(0≤ky)=True:=eq_true iy.1
  have b8:(ky<(U.length:Int))=True:=eq_true iy.2
  subst hz
  clear h1 h2 h3 h4 h5 nx ny q1 q2 hv ix iy hva hn HR2
  go_enter Try.func115,Try.ntmps115
  go_wp2
  refine start_ (n:=32) (S:=(fun w'=>w'.cell? ⟨gO,0,none⟩=some (.slice (some P) n cP)∧w'.cell? (P.add x.toNat)=some (.pointer (some ⟨g1,0,none⟩))∧w'.cell? (P.add y.toNat)=some (.pointer (some ⟨g1,0,none⟩))∧w'.cell? ⟨gI,0,none⟩=some (.slice (some I) n cI)∧w'.cell? (I.add x.toNat)=some (.int .i64 kx)∧w'.cell? (I.add y.toNat)=some (.int .i64 ky)∧w'.cell? ⟨g1,0,none⟩=some (.slice (some v.aU) U.length v.cU)∧w'.cell? (v.aU.add kx.toNat)=some (.slice (some (v.rU kx.toNat)) U.length (v.qU kx.toNat))∧w'.cell? ((v.rU kx.toNat).add ky.toNat)=some (.int .i64 va))) (ds:= []) (zqb 32 0) zqk rfl rfl ⟨f0,f1,f2,f3,f4,f5,f6,f7,f8⟩ (fun hHeld=>?_)
  refine with_tabW glu_c1.tab5 glu_c1.bits5 (fun HT_ HW_=>?_)
  refine zqw 0 29 (zqb 32 1) HT_ HW_ hHeld ?_
  refine zqp 1 30 (zqb 32 3) HT_ ?_
  refine zqp 2 31 (zqb 32 7) HT_ ?_
  refine zqw 3 32 (zqb 32 15) HT_ HW_ hHeld ?_
  refine zqw 4 33 (zqb 32 31) HT_ HW_ hHeld ?_
  refine zqp 5 34 (zqb 32 63) HT_ ?_
  refine zqp 6 35 (zqb 32 127) HT_ ?_
  refine zqw 7 36 (zqb 32 255) HT_ HW_ hHeld ?_
  refine take_ (i:=8) (N:=some 37) (v:=?_) (a':=?_) (zqb 32 511) rfl rfl (take_ofW HT_.out HW_.out zqk) (fun _ _ _ h=>h) (Or.inl ⟨by rfl,?_⟩) hHeld ?_ ?_
  rotate_left
  ·rintro w' ⟨t0,t1,t2,t3,t4,t5,t6,t7,t8⟩;go_simp;rw [eql_same];rfl
  rotate_left
  ·exact zqs
  refine zqp 9 38 (zqb 32 1023) HT_ ?_
  refine zqw 10 39 (zqb 32 2047) HT_ HW_ hHeld ?_
  refine zqp 11 40 (zqb 32 4095) HT_ ?_
  refine zqp 12 41 (zqb 32 8191) HT_ ?_
  refine zqw 13 42 (zqb 32 16383) HT_ HW_ hHeld ?_
  refine zqp 14 43 (zqb 32 32767) HT_ ?_
  refine zqp 15 44 (zqb 32 65535) HT_ ?_
  refine zqw 16 45 (zqb 32 131071) HT_ HW_ hHeld ?_
  refine zqw 17 46 (zqb 32 262143) HT_ HW_ hHeld ?_
  refine zqp 18 47 (zqb 32 524287) HT_ ?_
  refine zqp 19 48 (zqb 32 1048575) HT_ ?_
  refine zqw 20 49 (zqb 32 2097151) HT_ HW_ hHeld ?_
  refine zqp 21 50 (zqb 32 4194303) HT_ ?_
  refine zqw 22 51 (zqb 32 8388607) HT_ HW_ hHeld ?_
  refine zqw 23 52 (zqb 32 16777215) HT_ HW_ hHeld ?_
  refine zqp 24 53 (zqb 32 33554431) HT_ ?_
  refine zqp 25 54 (zqb 32 67108863) HT_ ?_
  refine zqw 26 55 (zqb 32 134217727) HT_ HW_ hHeld ?_
  refine zqp 27 56 (zqb 32 268435455) HT_ ?_
  refine zqw 28 57 (zqb 32 536870911) HT_ HW_ hHeld ?_
  refine zqp 29 58 (zqb 32 1073741823) HT_ ?_
  refine zqp 30 59 (zqb 32 2147483647) HT_ ?_
  refine zqp 31 7 (zqb 32 4294967295) HT_ ?_
  refine done_ (done_of HT_.out zqk) ?_
  go_wp2
  go_ret
  exact⟨rfl,zq8⟩
def glu_c2.T6 : Bool × List (List Nat × List Nat) := (true, [([], []), ([], []), ([0, 1], [0, 1]), ([2], [2]), ([], []), ([], []), ([4, 5], [4, 5]), ([6], [6]), ([3, 7], [3, 7]), ([8], [8]), ([9], [9]), ([9], [9]), ([10, 11, 9], [9, 10, 11]), ([12, 9], [9, 12]), ([9], [9]), ([9], [9]), ([14, 15, 9], [9, 14, 15]), ([16, 9], [9, 16]), ([17, 9], [9, 17]), ([18, 9], [9, 18]), ([19, 9], [9, 19]), ([9], [9]), ([9], [9]), ([21, 22, 9], [9, 21, 22]), ([23, 9], [9, 23]), ([20, 24, 9], [9, 20, 24]), ([25, 9], [9, 25]), ([13, 26, 9], [9, 13, 26]), ([9, 27], [9, 27])])
def glu_c2.B6 : List Nat := [0, 0, 3, 7, 0, 0, 48, 112, 255, 511, 1023, 1023, 4095, 8191, 1023, 1023, 50175, 115711, 246783, 508927, 1033215, 1023, 1023, 6292479, 14681087, 33539071, 67093503, 134217727, 268435455]
theorem glu_c2.tab6 : rtab .any (opsOf Try.f116 6) = glu_c2.T6 := by kernel_rfl
theorem glu_c2.bits6 : waitsOk glu_c2.T6.2 glu_c2.B6 = true := by kernel_rfl
set_option maxHeartbeats 1000000 in
theorem glu_c2_first (n : Nat) (m : Int) (hm : m + 1 = (n : Int)) (hn : n < 1000000) (w : World) (gL gO gI : Nat) (P I : Addr) (cP cI : Nat) (O : Nat → Option Addr) (K : Nat → Int) (hI : GluI w gL gO gI P I n m cP cI O K) (h0 : 0 ≤ m) :
 Calls Try.prog 116 #[.int .i64 0,.pointer (some ⟨gL,0,none⟩),.pointer (some ⟨gO,0,none⟩),.pointer (some ⟨gI,0,none⟩)] w fun e w'=>e= .returned (.int .i64 m)∧Drawn0 w w':=by
 have hc:w.cell? ⟨gL,0,none⟩=some (.int .i64 m):=(blk_cell hI.bL 0).trans rfl
 have hw:wrap64 m=m:=by unfold wrap64;omega
 clear hI hm hn h0
 go_enter Try.func116,Try.ntmps116
 go_wp2
 go_ret
 exact⟨by show Ending.returned (.int .i64 (wrap64 m))=_;rw [hw],by repeat(first|exact Drawn0.refl _|apply Drawn0.step)⟩
set_option maxHeartbeats 1000000 in
theorem glu_c2_last (n : Nat) (m : Int) (hm : m + 1 = (n : Int)) (hn : n < 1000000) (w : World) (gL gO gI : Nat) (P I : Addr) (cP cI : Nat) (O : Nat → Option Addr) (K : Nat → Int) (hI : GluI w gL gO gI P I n m cP cI O K) (h0 : 0 ≤ m) :
 Calls Try.prog 116 #[.int .i64 m,.pointer (some ⟨gL,0,none⟩),.pointer (some ⟨gO,0,none⟩),.pointer (some ⟨gI,0,none⟩)] w fun e w'=>e= .returned (.int .i64 0)∧Drawn0 w w':=by
 have hc:w.cell? ⟨gL,0,none⟩=some (.int .i64 m):=(blk_cell hI.bL 0).trans rfl
 have hw:wrap64 m=m:=by unfold wrap64;omega
 have hw0:wrap64 (m - m)=0:=by unfold wrap64;omega
 by_cases e:m=0
 ·subst e
  clear hI hm hn h0 hw hw0
  go_enter Try.func116,Try.ntmps116
  go_wp2
  go_ret
  exact⟨rfl,by repeat(first|exact Drawn0.refl _|apply Drawn0.step)⟩
 ·have e1:(m==0)=false:=by simpa using e
  clear hI hm hn h0 e
  go_enter Try.func116,Try.ntmps116
  go_wp2
  go_ret
  exact⟨rfl,by repeat(first|exact Drawn0.refl _|apply Drawn0.step)⟩
def GluM (w : World) (O : Nat → Option Addr) (K : Nat → Int) (g1 : Nat) (kn : Int) (k : Nat) : Prop :=
 O k=none∨ ∃g2 U2 N2 v2,O k=some ⟨g2,0,none⟩∧View w g2 U2 N2 v2∧(g2≠g1∨(g2=g1∧K k≠kn))
set_option maxHeartbeats 4000000 in
set_option maxRecDepth 100000 in
theorem glu_c2 (x : Int) (n : Nat) (m : Int) (hm : m + 1 = (n : Int)) (hn : n < 1000000) (w : World) (gL gO gI : Nat) (P I : Addr) (cP cI : Nat) (O : Nat → Option Addr) (K : Nat → Int) (hI : GluI w gL gO gI P I n m cP cI O K) (hx : 0 < x ∧ x < m) (U : List (List Int)) (N : List Int) (g1 : Nat) (v : Adr) (hg : O x.toNat = some ⟨g1, 0, none⟩) (hV : View w g1 U N v) (hk : In U (K x.toNat)) (t : Nat) (ht : t < n) (hhit : O t = some ⟨g1, 0, none⟩ ∧ K t = notI N (K x.toNat))
 (hno: ∀k,k<t→GluM w O K g1 (notI N (K x.toNat)) k):
 Calls Try.prog 116 #[.int .i64 x,.pointer (some ⟨gL,0,none⟩),.pointer (some ⟨gO,0,none⟩),.pointer (some ⟨gI,0,none⟩)] w fun e w'=>e= .returned (.int .i64 (t:Int))∧Drawn0 w w':=by
 have hu70:=Try.underlying74
 have HI0:=zqm hI
 have HV0:=zqm hV
 have HT6:=zqm ht
 have HNS:=zqm hn
 have HH:=zqm hhit
 have HNo:=zqm hno
 have HX:=zqm hx
 have HG:=zqm hg
 have HKx:=zqm hk
 have e1:(x==0)=false:=by simp;omega
 have e2:(x==m)=false:=by simp;omega
 have b1:(0≤x)=True:=eq_true (by omega)
 have b2:(x<(n:Int))=True:=eq_true (by omega)
 have b5:(0≤K x.toNat)=True:=eq_true hk.1
 have b6:(K x.toNat<(U.length:Int))=True:=eq_true hk.2
 have hlN:=hV.len
 have b7:(K x.toNat<(N.length:Int))=True:=eq_true (by rw [hlN];exact hk.2)
 have hc:w.cell? ⟨gL,0,none⟩=some (.int .i64 m):=(blk_cell hI.bL 0).trans rfl
 have f0:w.cell? ⟨gO,0,none⟩=some (.slice (some P) n cP):=(blk_cell hI.bO 0).trans rfl
 have nx:x.toNat<n:=by omega
 have HNX:=zqm nx
 obtain⟨kx,hkx⟩: ∃kx,K x.toNat=kx:=⟨_,rfl⟩
 rw [hkx] at b5 b6 b7
 have HKX:=zqm hkx
 clear hI hV ht hhit hno hx hg hk nx hkx hlN hm hn
 go_enter Try.func116,Try.ntmps116
 go_wp2_with fail
 go_loopg [19] (t+1) (fun kq v19 W=> ∃i:Nat,v19= .int .i64 i∧Aside0 (i+kq=t+1)∧Aside0 (i≤t)∧Aside0 (Drawn0 w W))
 case atStart=>exact⟨0,rfl,⟨by omega⟩,⟨by omega⟩,⟨zq8⟩⟩
 case round=>
  clear f0 hc
  obtain⟨i,rfl,HK,HK2,HD⟩:=hrel
  have HBd:=zqm (show Below w.heap.size w wr from by obtain⟨nd,e⟩:=HD.out;rw [e];exact pw_below_drewN (Below.refl _ _) nd)
  have HI:=zqm (HI0.out.below HBd.out)
  have HV:=zqm (HV0.out.below HBd.out)
  have f0:wr.cell? ⟨gO,0,none⟩=some (.slice (some P) n cP):=(blk_cell HI.out.bO 0).trans rfl
  have f2:=HI.out.o _ HNX.out
  rw [HG.out] at f2
  have f3:wr.cell? ⟨gI,0,none⟩=some (.slice (some I) n cI):=(blk_cell HI.out.bI 0).trans rfl
  have f5:=HI.out.i _ HNX.out
  have f6:=HV.out.f3
  have f7:=HV.out.n _ HKx.out
  rw [HKX.out] at f5 f7
  have hi6:i<n:=by have:=HK2.out;have:=HT6.out;omega
  have bi:((i:Int)<(n:Int))=True:=eq_true (by omega)
  have bi2:(i<n)=True:=eq_true hi6
  have bi1:decide (i<n)=true:=decide_eq_true hi6
  have fi:=HI.out.o i hi6
  have fk:=HI.out.i i hi6
  clear hi6
  cases gk with
  |zero=>exact absurd HK.out (by have:=HK2.out;omega)
  |succ kn=>
  by_cases hlt:i<t
  ·have HLT:=zqm hlt
   rcases HNo.out i hlt with q|⟨g2,U2,N2,v2,q,hv2,hq⟩
   ·rw [q] at fi
    clear q hlt f3 f5 f6 f7 fk
    go_wp2_with fail
    refine start_ (n:=29) (S:=(fun w'=>w'.cell? ⟨gO,0,none⟩=some (.slice (some P) n cP)∧w'.cell? (P.add i)=some (.pointer none)∧w'.cell? (P.add x.toNat)=some (.pointer (some ⟨g1,0,none⟩)))) (ds:= []) (zqb 29 0) zqk rfl rfl ⟨f0,fi,f2⟩ (fun hHeld=>?_)
    refine with_tabW glu_c2.tab6 glu_c2.bits6 (fun HT_ HW_=>?_)
    refine zqw 0 22 (zqb 29 1) HT_ HW_ hHeld ?_
    refine zqp 1 23 (zqb 29 3) HT_ ?_
    refine zqp 2 24 (zqb 29 7) HT_ ?_
    refine zqw 3 25 (zqb 29 15) HT_ HW_ hHeld ?_
    refine zqw 4 26 (zqb 29 31) HT_ HW_ hHeld ?_
    refine zqp 5 27 (zqb 29 63) HT_ ?_
    refine zqp 6 28 (zqb 29 127) HT_ ?_
    refine zqw 7 29 (zqb 29 255) HT_ HW_ hHeld ?_
    refine take_ (i:=8) (N:=some 30) (v:=?_) (a':=?_) (zqb 29 511) rfl rfl (take_ofW HT_.out HW_.out zqk) (fun _ _ _ h=>h) (Or.inl ⟨by rfl,?_⟩) hHeld ?_ ?_
    rotate_left
    ·rintro w' ⟨t0,t1,t2⟩;go_simp;rw [eql_nil];rfl
    rotate_left
    ·exact zqs
    refine zqp 9 31 (zqb 29 1023) HT_ ?_
    refine zqu 10 32 (zqb 29 2047) HT_ ?_
    refine zqu 11 33 (zqb 29 4095) HT_ ?_
    refine zqu 12 34 (zqb 29 8191) HT_ ?_
    refine zqu 13 35 (zqb 29 16383) HT_ ?_
    refine zqu 14 36 (zqb 29 32767) HT_ ?_
    refine zqu 15 37 (zqb 29 65535) HT_ ?_
    refine zqu 16 38 (zqb 29 131071) HT_ ?_
    refine zqu 17 39 (zqb 29 262143) HT_ ?_
    refine zqu 18 40 (zqb 29 524287) HT_ ?_
    refine zqu 19 41 (zqb 29 1048575) HT_ ?_
    refine zqu 20 42 (zqb 29 2097151) HT_ ?_
    refine zqu 21 43 (zqb 29 4194303) HT_ ?_
    refine zqu 22 44 (zqb 29 8388607) HT_ ?_
    refine zqu 23 45 (zqb 29 16777215) HT_ ?_
    refine zqu 24 46 (zqb 29 33554431) HT_ ?_
    refine zqu 25 47 (zqb 29 67108863) HT_ ?_
    refine zqu 26 48 (zqb 29 134217727) HT_ ?_
    refine zqu 27 49 (zqb 29 268435455) HT_ ?_
    refine zqp 28 50 (zqb 29 536870911) HT_ ?_
    refine done_ (done_of HT_.out zqk) ?_
    go_wp2
    go_roundg kn
    case measure=>omega
    case rel=>exact⟨i+1,zq129,⟨by have:=HK.out;omega⟩,⟨by have:=HLT.out;omega⟩,⟨zq109⟩⟩
   ·rw [q] at fi
    rcases hq with hne|⟨hgg,hne⟩
    ·have HNE:=zqm hne
     have hB1_:=zqm HV.out.blk
     have hB2_:=zqm (hv2.below HBd.out).blk
     generalize (#[.slice (some v.aU) U.length v.cU,.slice (some v.aA) U.length v.cA,.slice (some v.aO) U.length v.cO,.slice (some v.aN) U.length v.cN,.int .i64 (noI U),.int .i64 (yesI U N)]:Array Value)=B1 at hB1_
     generalize (#[.slice (some v2.aU) U2.length v2.cU,.slice (some v2.aA) U2.length v2.cA,.slice (some v2.aO) U2.length v2.cO,.slice (some v2.aN) U2.length v2.cN,.int .i64 (noI U2),.int .i64 (yesI U2 N2)]:Array Value)=B2 at hB2_
     clear q hlt hne f3 f5 f6 f7 fk hv2
     go_wp2_with fail
     refine start_ (n:=29) (S:=(fun w'=>w'.cell? ⟨gO,0,none⟩=some (.slice (some P) n cP)∧w'.cell? (P.add i)=some (.pointer (some ⟨g2,0,none⟩))∧w'.cell? (P.add x.toNat)=some (.pointer (some ⟨g1,0,none⟩))∧w'.heap[g2]? =some (.cells B2 74 (0,0))∧w'.heap[g1]? =some (.cells B1 74 (0,0)))) (ds:= []) (zqb 29 0) zqk rfl rfl ⟨f0,fi,f2,blk_drew hB2_.out,blk_drew hB1_.out⟩ (fun hHeld=>?_)
     refine with_tabW glu_c2.tab6 glu_c2.bits6 (fun HT_ HW_=>?_)
     refine zqw 0 22 (zqb 29 1) HT_ HW_ hHeld ?_
     refine zqp 1 23 (zqb 29 3) HT_ ?_
     refine zqp 2 24 (zqb 29 7) HT_ ?_
     refine zqw 3 25 (zqb 29 15) HT_ HW_ hHeld ?_
     refine zqw 4 26 (zqb 29 31) HT_ HW_ hHeld ?_
     refine zqp 5 27 (zqb 29 63) HT_ ?_
     refine zqp 6 28 (zqb 29 127) HT_ ?_
     refine zqw 7 29 (zqb 29 255) HT_ HW_ hHeld ?_
     refine take_ (i:=8) (N:=some 30) (v:=?_) (a':=?_) (zqb 29 511) rfl rfl (take_ofW HT_.out HW_.out zqk) (fun _ _ _ h=>h) (Or.inl ⟨by rfl,?_⟩) hHeld ?_ ?_
     rotate_left
     ·rintro w' ⟨t0,t1,t2,t3,t4⟩;go_simp;rw [eql_other HNE.out t3 t4];rfl
     rotate_left
     ·exact zqs
     refine zqp 9 31 (zqb 29 1023) HT_ ?_
     refine zqu 10 32 (zqb 29 2047) HT_ ?_
     refine zqu 11 33 (zqb 29 4095) HT_ ?_
     refine zqu 12 34 (zqb 29 8191) HT_ ?_
     refine zqu 13 35 (zqb 29 16383) HT_ ?_
     refine zqu 14 36 (zqb 29 32767) HT_ ?_
     refine zqu 15 37 (zqb 29 65535) HT_ ?_
     refine zqu 16 38 (zqb 29 131071) HT_ ?_
     refine zqu 17 39 (zqb 29 262143) HT_ ?_
     refine zqu 18 40 (zqb 29 524287) HT_ ?_
     refine zqu 19 41 (zqb 29 1048575) HT_ ?_
     refine zqu 20 42 (zqb 29 2097151) HT_ ?_
     refine zqu 21 43 (zqb 29 4194303) HT_ ?_
     refine zqu 22 44 (zqb 29 8388607) HT_ ?_
     refine zqu 23 45 (zqb 29 16777215) HT_ ?_
     refine zqu 24 46 (zqb 29 33554431) HT_ ?_
     refine zqu 25 47 (zqb 29 67108863) HT_ ?_
     refine zqu 26 48 (zqb 29 134217727) HT_ ?_
     refine zqu 27 49 (zqb 29 268435455) HT_ ?_
     refine zqp 28 50 (zqb 29 536870911) HT_ ?_
     refine done_ (done_of HT_.out zqk) ?_
     go_wp2
     go_roundg kn
     case measure=>omega
     case rel=>exact⟨i+1,zq129,⟨by have:=HK.out;omega⟩,⟨by have:=HLT.out;omega⟩,⟨zq109⟩⟩
    ·have hgg':=hgg.symm
     clear hgg
     subst hgg'
     rw [HKX.out] at hne
     generalize K i=ki at fk hne
     have q3:(ki==notI N kx)=false:=by simpa using hne
     clear q hlt hne hv2
     go_wp2_with fail
     refine start_ (n:=29) (S:=(fun w'=>w'.cell? ⟨gO,0,none⟩=some (.slice (some P) n cP)∧w'.cell? (P.add i)=some (.pointer (some ⟨g1,0,none⟩))∧w'.cell? (P.add x.toNat)=some (.pointer (some ⟨g1,0,none⟩))∧w'.cell? ⟨gI,0,none⟩=some (.slice (some I) n cI)∧w'.cell? (I.add i)=some (.int .i64 ki)∧w'.cell? (I.add x.toNat)=some (.int .i64 kx)∧w'.cell? ⟨g1,3,none⟩=some (.slice (some v.aN) U.length v.cN)∧w'.cell? (v.aN.add kx.toNat)=some (.int .i64 (notI N kx)))) (ds:= []) (zqb 29 0) zqk rfl rfl ⟨f0,fi,f2,f3,fk,f5,f6,f7⟩ (fun hHeld=>?_)
     refine with_tabW glu_c2.tab6 glu_c2.bits6 (fun HT_ HW_=>?_)
     refine zqw 0 22 (zqb 29 1) HT_ HW_ hHeld ?_
     refine zqp 1 23 (zqb 29 3) HT_ ?_
     refine zqp 2 24 (zqb 29 7) HT_ ?_
     refine zqw 3 25 (zqb 29 15) HT_ HW_ hHeld ?_
     refine zqw 4 26 (zqb 29 31) HT_ HW_ hHeld ?_
     refine zqp 5 27 (zqb 29 63) HT_ ?_
     refine zqp 6 28 (zqb 29 127) HT_ ?_
     refine zqw 7 29 (zqb 29 255) HT_ HW_ hHeld ?_
     refine take_ (i:=8) (N:=some 30) (v:=?_) (a':=?_) (zqb 29 511) rfl rfl (take_ofW HT_.out HW_.out zqk) (fun _ _ _ h=>h) (Or.inl ⟨by rfl,?_⟩) hHeld ?_ ?_
     rotate_left
     ·rintro w' ⟨t0,t1,t2,t3,t4,t5,t6,t7⟩;go_simp;rw [eql_same];rfl
     rotate_left
     ·exact zqs
     refine zqp 9 31 (zqb 29 1023) HT_ ?_
     refine zqw 10 32 (zqb 29 2047) HT_ HW_ hHeld ?_
     refine zqp 11 33 (zqb 29 4095) HT_ ?_
     refine zqp 12 34 (zqb 29 8191) HT_ ?_
     refine zqw 13 35 (zqb 29 16383) HT_ HW_ hHeld ?_
     refine zqw 14 36 (zqb 29 32767) HT_ HW_ hHeld ?_
     refine zqp 15 37 (zqb 29 65535) HT_ ?_
     refine zqp 16 38 (zqb 29 131071) HT_ ?_
     refine zqw 17 39 (zqb 29 262143) HT_ HW_ hHeld ?_
     refine zqp 18 40 (zqb 29 524287) HT_ ?_
     refine zqp 19 41 (zqb 29 1048575) HT_ ?_
     refine zqw 20 42 (zqb 29 2097151) HT_ HW_ hHeld ?_
     refine zqw 21 43 (zqb 29 4194303) HT_ HW_ hHeld ?_
     refine zqp 22 44 (zqb 29 8388607) HT_ ?_
     refine zqp 23 45 (zqb 29 16777215) HT_ ?_
     refine zqw 24 46 (zqb 29 33554431) HT_ HW_ hHeld ?_
     refine zqp 25 47 (zqb 29 67108863) HT_ ?_
     refine zqw 26 48 (zqb 29 134217727) HT_ HW_ hHeld ?_
     refine zqp 27 49 (zqb 29 268435455) HT_ ?_
     refine zqp 28 50 (zqb 29 536870911) HT_ ?_
     refine done_ (done_of HT_.out zqk) ?_
     go_wp2
     go_roundg kn
     case measure=>omega
     case rel=>exact⟨i+1,zq129,⟨by have:=HK.out;omega⟩,⟨by have:=HLT.out;omega⟩,⟨zq109⟩⟩
  ·obtain rfl:i=t:=by have:=HK2.out;omega
   rw [HH.out.1] at fi
   rw [HH.out.2,HKX.out] at fk
   obtain⟨ki,hki⟩: ∃ki,ki=notI N kx:=⟨_,rfl⟩
   rw [← hki] at fk f7
   clear hlt
   go_wp2_with fail
   refine start_ (n:=29) (S:=(fun w'=>w'.cell? ⟨gO,0,none⟩=some (.slice (some P) n cP)∧w'.cell? (P.add i)=some (.pointer (some ⟨g1,0,none⟩))∧w'.cell? (P.add x.toNat)=some (.pointer (some ⟨g1,0,none⟩))∧w'.cell? ⟨gI,0,none⟩=some (.slice (some I) n cI)∧w'.cell? (I.add i)=some (.int .i64 ki)∧w'.cell? (I.add x.toNat)=some (.int .i64 kx)∧w'.cell? ⟨g1,3,none⟩=some (.slice (some v.aN) U.length v.cN)∧w'.cell? (v.aN.add kx.toNat)=some (.int .i64 ki))) (ds:= []) (zqb 29 0) zqk rfl rfl ⟨f0,fi,f2,f3,fk,f5,f6,f7⟩ (fun hHeld=>?_)
   refine with_tabW glu_c2.tab6 glu_c2.bits6 (fun HT_ HW_=>?_)
   refine zqw 0 22 (zqb 29 1) HT_ HW_ hHeld ?_
   refine zqp 1 23 (zqb 29 3) HT_ ?_
   refine zqp 2 24 (zqb 29 7) HT_ ?_
   refine zqw 3 25 (zqb 29 15) HT_ HW_ hHeld ?_
   refine zqw 4 26 (zqb 29 31) HT_ HW_ hHeld ?_
   refine zqp 5 27 (zqb 29 63) HT_ ?_
   refine zqp 6 28 (zqb 29 127) HT_ ?_
   refine zqw 7 29 (zqb 29 255) HT_ HW_ hHeld ?_
   refine take_ (i:=8) (N:=some 30) (v:=?_) (a':=?_) (zqb 29 511) rfl rfl (take_ofW HT_.out HW_.out zqk) (fun _ _ _ h=>h) (Or.inl ⟨by rfl,?_⟩) hHeld ?_ ?_
   rotate_left
   ·rintro w' ⟨t0,t1,t2,t3,t4,t5,t6,t7⟩;go_simp;rw [eql_same];rfl
   rotate_left
   ·exact zqs
   refine zqp 9 31 (zqb 29 1023) HT_ ?_
   refine zqw 10 32 (zqb 29 2047) HT_ HW_ hHeld ?_
   refine zqp 11 33 (zqb 29 4095) HT_ ?_
   refine zqp 12 34 (zqb 29 8191) HT_ ?_
   refine zqw 13 35 (zqb 29 16383) HT_ HW_ hHeld ?_
   refine zqw 14 36 (zqb 29 32767) HT_ HW_ hHeld ?_
   refine zqp 15 37 (zqb 29 65535) HT_ ?_
   refine zqp 16 38 (zqb 29 131071) HT_ ?_
   refine zqw 17 39 (zqb 29 262143) HT_ HW_ hHeld ?_
   refine zqp 18 40 (zqb 29 524287) HT_ ?_
   refine zqp 19 41 (zqb 29 1048575) HT_ ?_
   refine zqw 20 42 (zqb 29 2097151) HT_ HW_ hHeld ?_
   refine zqw 21 43 (zqb 29 4194303) HT_ HW_ hHeld ?_
   refine zqp 22 44 (zqb 29 8388607) HT_ ?_
   refine zqp 23 45 (zqb 29 16777215) HT_ ?_
   refine zqw 24 46 (zqb 29 33554431) HT_ HW_ hHeld ?_
   refine zqp 25 47 (zqb 29 67108863) HT_ ?_
   refine zqw 26 48 (zqb 29 134217727) HT_ HW_ hHeld ?_
   refine zqp 27 49 (zqb 29 268435455) HT_ ?_
   refine zqp 28 50 (zqb 29 536870911) HT_ ?_
   refine done_ (done_of HT_.out zqk) ?_
   go_wp2
   go_ret
   exact⟨rfl,zq109⟩
section
section
variable {P : Program} {ops : Array Oper} {o : Oper} {a : Act} {Q : Exit → Act → World → Prop} {Kc : Act → World → Prop} {α : Type}
theorem app_at (d : Kd α) {w0 W : World} (base : Nat) (hw : Region.wanted o (yielded ops a.tmps) = true) (s x : Operand) (t e : TypeId) (z : Value) (bytes : Nat)
 (ho:o.op= .call { callee:= .builtin .append,args:= #[s,x],argTypes:= #[t,t] })
 (ht:P.underlying t=some (.slice e)) (hinfo:(P.info? e).map (fun i=>(i.zero,i.size,i.bytes))=some (some z,d.sz,bytes)) (hz:z.cells.size=d.sz) (hd:d.sz=1) (hb0:0<bytes)
 (v:Value) (xs:List α) (p:α) (c:Value) (ok okp:Nat→Prop) (hs:a.eval s=v) (g:Nat) (hx:a.eval x= .slice (some ⟨g,0,none⟩) 1 1) (hg:W.heap[g]? =some (.cells #[c] e (0,0))) (h1:c.oneCell'=true) (hp:d.M W base okp p [c]) (hokp: ∀k,okp k→ok k∧some k≠v.ownBlock) (hfresh: ∀k,W.heap.size≤k→ok k)
 (HO:d.R e W base ok v xs) (HB:Below base w0 W) (hbase:base≤W.heap.size) (hl:(xs.length+1)*bytes≤140737488355328)
 (h: ∀v1 w1,d.R e w1 base ok v1 (xs ++ [p])→Below base w0 w1→W.grownBy w1 v.ownBlock→Kc (a.put o.dst v1) w1):
 if Region.wanted o (yielded ops a.tmps)=true then Oper.wp P o a W Kc Q else Kc (a.put o.dst undef) W:=by
 obtain⟨h0,inner,hown,hr⟩:=HO
 obtain⟨i0,hi,hzz⟩:=Option.map_eq_some_iff.1 hinfo
 simp only [Prod.mk.injEq] at hzz
 obtain⟨hz0,hz1,hz2⟩:=hzz
 have hlen:xs.length+1≤140737488355328:=Nat.le_trans (Nat.le_mul_of_pos_right _ hb0) hl
 rw [if_pos hw]
 obtain⟨v1,w1,hrun,hown1,hgr,_,hat⟩:=run_append_own_at (P:=P) W base t o.type e i0 z d.sz bytes ht hi hz0 hz1 hz2 hz (by omega) v xs.length inner hown ⟨g,0,none⟩ 1 1 [c] (by simp [hd])
  (by simpa using World.news_of_block (cs:= #[c]) (t:=e) (fr:=(0,0)) hg) (by simpa using h1) (by simp only [maxLen];omega) hl hbase
 unfold Oper.wp execOp
 simp only [ho,resolve,invoke,builtin,Sem.run_bind,Sem.run_pure,Result.andThen_ok,List.map_toArray,List.map_cons,List.map_nil,hs,hx,hrun]
 have hat':v1.ownBlock=v.ownBlock∨ ∃b,v1.ownBlock=some b∧W.heap.size≤b:=by
  rcases hat with hat|hat
  ·exact .inl hat
  ·exact .inr ⟨_,hat,Nat.le_refl _⟩
 exact h v1 w1 (Kd.R_appended h0 hr hp hokp hfresh hown1 hgr hat') (HB.grown hgr hbase (own_base hown)) hgr
end
end
section
attribute [local go_sem] max2_int min2_int max_two min_two max_three min_three max_four min_four
theorem goesW_ {P : Program} {ops : Array Oper} {Q : Exit → Act → World → Prop} {oi : Oper} {N : Option Tmp} {a : Act} {w : World} {K : Act → World → Prop} {f : FuncId} {fn : Func} {x : Operand} {xo : Array Operand} {ts : Array TypeId} {cs : Array Value} (hf : P.funcs[f]? = some fn) (hname : (fn.name == "runtime.NumGoroutine") = false) (hb : fn.body.isSome = true) (args : Array Value)
 (hw : Region.wanted oi (yielded ops a.tmps) = true) (hN : oi.dst = N) (hop : oi.op = .call { callee := .value x, args := xo, argTypes := ts }) (hx : a.eval x = .func (.func f) #[] cs) (hargs : xo.map a.eval = args)
 (h : Calls P f (args ++ cs) w fun e w' => ∃ v, e = .returned v ∧ K (a.put N v) w') : if Region.wanted oi (yielded ops a.tmps) = true then Oper.wp P oi a w K Q else K (a.put N undef) w := by
 refine call_ f (args ++ cs) hw hN ?_ h
 have he := enters_ hf hname hb (args ++ cs) w
 unfold execOp
 simp [hop, resolve, Deferred.ofValue, invoke, hx, hargs, he]
section
variable (P : Int → Int → Option Bool) (Q : Int → Int) (D : Int → Bool)
mutual
def impl_made.l0 : Nat → Int → Int → Int → Int → List (List Int) → List Int → Option ((List (List Int)) × List Int)
 |0,_,_,_,_,_,_=>none
 |k+1,x0,x2,x11,x12,x1125000,x1125001=>if x12<x11 then(if 0≤x0∧D x12=true then(if(x0:Int).toNat≤35184372088832 then(impl_made.l1 k x0 x2 x12 (List.replicate (x0:Int).toNat 0) x11 x12 x0 0 x1125000 x1125001) else(none)) else(none)) else(some (x1125000,x1125001))
def impl_made.l1 : Nat → Int → Int → Int → List Int → Int → Int → Int → Int → List (List Int) → List Int → Option ((List (List Int)) × List Int)
 |0,_,_,_,_,_,_,_,_,_,_=>none
 |k+1,x0,x2,x8,x9,x11,x12,x17,x18,x1125000,x1125001=>if x18<x17 then((P x8 x18).bind fun t1128=>(if t1128=true then(if 0≤x18 then(if x18<(x9.length:Int) then(impl_made.l1 k x0 x2 x8 (x9.set (x18:Int).toNat 1) x11 x12 x17 (wrap64 (x18+1)) x1125000 x1125001) else(none)) else(none)) else(impl_made.l1 k x0 x2 x8 x9 x11 x12 x17 (wrap64 (x18+1)) x1125000 x1125001))) else(if x1125000.length<5864062014805 then(if x1125001.length<17592186044416 then(impl_made.l0 k x0 x2 x11 (wrap64 (x12+1)) (x1125000 ++ [x9]) (x1125001 ++ [Q x8])) else(none)) else(none))
end
def impl_made.f (k : Nat) (a0 : Int) (a1 : Int) (a2 : Int) : Option ((List (List Int)) × List Int) := impl_made.l0 P Q D k a0 a2 a0 0 ([] : List (List Int)) ([] : List Int)
def impl_made.T13 : Bool × List (List Nat × List Nat) := (true, [([], []), ([0], [0]), ([], []), ([], []), ([2, 3], [2, 3]), ([4], [4]), ([1, 5, 4], [1, 5]), ([0, 1, 2, 3, 4, 5, 6], []), ([7, 6, 6, 0, 1, 2, 3, 4, 5, 6], [6, 7])])
def impl_made.B13 : List Nat := [0, 1, 0, 0, 12, 28, 63, 127, 255]
theorem impl_made.tab13 : rtab .any (opsOf Try.f97 13) = impl_made.T13 := by kernel_rfl
theorem impl_made.bits13 : waitsOk impl_made.T13.2 impl_made.B13 = true := by kernel_rfl
set_option maxHeartbeats 8000000 in
set_option maxRecDepth 100000 in
theorem impl_made.calls (k : Nat) (a0 : Int) (a2 : Int) (fu fn : Nat) (Fu Fn : Func) (cu cn : Array Value) (hf1 : Try.prog.funcs[fu]? = some Fu) (hn1 : (Fu.name == "runtime.NumGoroutine") = false) (hb1 : Fu.body.isSome = true) (hf2 : Try.prog.funcs[fn]? = some Fn) (hn2 : (Fn.name == "runtime.NumGoroutine") = false) (hb2 : Fn.body.isSome = true) (r1 : List (List Int)) (r2 : List Int) (w : World) (hu : ∀ (x y : Int) (b : Bool) (W : World), P x y = some b → Below w.heap.size w W → Calls Try.prog fu (#[.int .i64 x, .int .i64 y] ++ cu) W fun e w' => e = .returned (.bool b) ∧ Drawn0 W w') (hv : ∀ (x : Int) (W : World), D x = true → Below w.heap.size w W → Calls Try.prog fn (#[.int .i64 x] ++ cn) W fun e w' => e = .returned (.int .i64 (Q x)) ∧ Drawn0 W w') (h : impl_made.f P Q D k a0 0 a2 = some (r1, r2)) :
 Calls Try.prog 97 #[.int .i64 a0, .func (.func fu) #[] cu, .func (.func fn) #[] cn] w fun e w' => ∃ v0_ v1_ : Value, e = .returned (.agg #[v0_, v1_]) ∧ Kd.S (Kd.slice 3 (Kd.int .i64)) 24 w' w.heap.size (fun k_ => some k_ ≠ (v1_ : Value).ownBlock) v0_ r1 ∧ Kd.R (Kd.int .i64) 3 w' w.heap.size (fun _ => True) v1_ r2 ∧ Below w.heap.size w w' := by
 have hu30 := Try.underlying26
 have HB := Aside0.mk (Below.refl w.heap.size w)
 have HF1 := Aside0.mk hf1
 have HN1 := Aside0.mk hn1
 have HD1 := Aside0.mk hb1
 have HF2 := Aside0.mk hf2
 have HN2 := Aside0.mk hn2
 have HD2 := Aside0.mk hb2
 have HU := Aside0.mk hu
 have HV := Aside0.mk hv
 clear hf1 hn1 hb1 hf2 hn2 hb2 hu hv
 have H : (impl_made.l0 P Q D k a0 a2 a0 0 ([] : List (List Int)) ([] : List Int)) = some (r1, r2) := h
 clear h
 have H' := Aside0.mk H
 clear H
 go_enter Try.func97, Try.ntmps97
 go_wp2_with (first | ((with_reducible refine gate_dst (N := 6) rfl ?_); refine box_event ?hg (N := 6) ?hd (cs := #[.slice none 0 0, .slice none 0 0]) (t := 26) ?hr ?_; (case hd => rfl); (case hg => rfl); (case hr => exact zq174); intro gb1123 hg w4 hbox hb; have n0_ := Aside0.mk (below_step zq61 hb); have n1_ := Aside0.mk (hbox); have n2_ := Aside0.mk ((by rw [hg]; exact (below_size zq61) : w.heap.size ≤ gb1123)); have n3_ := Aside0.mk ((by rw [hg]; exact (below_size zq61) : w.heap.size ≤ gb1123)); clear HB; have HB := n0_; have BK1123 := n1_; have GW1123 := n2_; have GE1123 := n3_; clear n0_ n1_ n2_ n3_; clear hb hbox hg) | ((with_reducible refine gate_dst (N := 7) rfl ?_); refine box_event ?hg (N := 7) ?hd (cs := #[.slice none 0 0, .slice none 0 0]) (t := 26) ?hr ?_; (case hd => rfl); (case hg => rfl); (case hr => exact zq174); intro gb1124 hg w5 hbox hb; have n0_ := Aside0.mk (blk_below (g := gb1123) (o := .cells #[.slice none 0 0, .slice none 0 0] 26 (0, 0)) (zqe BK1123.out) hb); have n1_ := Aside0.mk (below_step zq79 hb); have n2_ := Aside0.mk (hbox); have n3_ := Aside0.mk ((by rw [hg]; exact (below_size zq79) : w.heap.size ≤ gb1124)); have n4_ := Aside0.mk ((by rw [hg]; exact (below_size zq79) : w.heap.size ≤ gb1124)); have n5_ := Aside0.mk ((by rw [hg]; exact Nat.ne_of_lt (blk_lt (g := gb1123) (o := .cells #[.slice none 0 0, .slice none 0 0] 26 (0, 0)) (zqe BK1123.out)) : gb1123 ≠ gb1124)); have n6_ := Aside0.mk ((by rw [hg]; exact Nat.ne_of_gt (blk_lt (g := gb1123) (o := .cells #[.slice none 0 0, .slice none 0 0] 26 (0, 0)) (zqe BK1123.out)) : gb1124 ≠ gb1123)); clear BK1123; clear HB; have BK1123 := n0_; have HB := n1_; have BK1124 := n2_; have GW1124 := n3_; have GE1124 := n4_; have NB1123_1124 := n5_; have NB1124_1123 := n6_; clear n0_ n1_ n2_ n3_ n4_ n5_ n6_; clear hb hbox hg))
 go_loopg [12] k (fun kq v12 w' => ∃ (x12_1 : Int) (x1125000_1 : List (List Int)) (x1125001_1 : List Int) (u1125000 : Value) (u1125001 : Value), v12 = .int .i64 x12_1 ∧ Aside0 (impl_made.l0 P Q D kq a0 a2 a0 x12_1 x1125000_1 x1125001_1 = some (r1, r2)) ∧ Aside0 (kq ≤ k) ∧ Aside0 (Kd.S (Kd.slice 3 (Kd.int .i64)) 24 w' w.heap.size (fun k_ => some k_ ≠ (u1125001 : Value).ownBlock) u1125000 x1125000_1) ∧ Aside0 (Kd.R (Kd.int .i64) 3 w' w.heap.size (fun _ => True) u1125001 x1125001_1) ∧ Aside0 (w'.heap[gb1123]? = some (.cells #[(.slice none 0 0), (.slice none 0 0)] 26 (0, 0))) ∧ Aside0 (w'.heap[gb1124]? = some (.cells #[u1125000, u1125001] 26 (0, 0))) ∧ Aside0 (Below w.heap.size w w'))
 case atStart => exact ⟨(0), (([] : List (List Int))), (([] : List Int)), (.slice none 0 0), (.slice none 0 0), zq105, H', ⟨Nat.le_refl _⟩, ⟨by first | exact Kd.S_nil _ _ _ _ _ | exact Kd.N_nil _ _ _ _ _ | exact Kd.V_nil _ _ _ _ _ | exact Kd.Q_nil _ _ _ _ _ | exact Kd.R_nil _ _ _ _ _⟩, ⟨by first | exact Kd.R_nil _ _ _ _ _ | exact Kd.N_nil _ _ _ _ _ | exact Kd.V_nil _ _ _ _ _ | exact Kd.Q_nil _ _ _ _ _ | exact Kd.S_nil _ _ _ _ _⟩, ⟨zqe BK1123.out⟩, ⟨zqe BK1124.out⟩, ⟨zq17⟩⟩
 case round =>
  clear H'
  try clear c1
  try clear p2
  obtain ⟨x12_1, x1125000_1, x1125001_1, u1125000, u1125001, rfl, HA, HK1, HO_1125000, HO_1125001, BK1123, BK1124, HB⟩ := hrel
  cases gk with
  | zero => exact absurd HA.out (by simp [impl_made.l0])
  | succ k1 =>
   have H := HA.out
   clear HA
   simp only [impl_made.l0] at H
   by_cases c6 : x12_1 < a0
   ·rw [if_pos c6] at H
    have c6b0 : decide (x12_1 < a0) = true := decide_eq_true c6
    clear c6
    by_cases c7_ : 0 ≤ a0 ∧ D x12_1 = true
    ·rw [if_pos c7_] at H
     have HDx := Aside0.mk c7_.2
     have c7 := c7_.1
     clear c7_
     have c7b0 := eq_true c7
     have c7b1 : decide (0 ≤ a0) = true := decide_eq_true c7
     clear c7
     by_cases c8 : (a0 : Int).toNat ≤ 35184372088832
     ·rw [if_pos c8] at H
      have c8b0 := eq_true c8
      have c8b1 : decide ((a0 : Int).toNat ≤ 35184372088832) = true := decide_eq_true c8
      clear c8
      obtain ⟨y1125, hy1125⟩ : ∃ y_ : List Int, y_ = (List.replicate (a0 : Int).toNat 0) := ⟨_, rfl⟩
      replace H : (impl_made.l1 P Q D k1 a0 a2 x12_1 y1125 a0 x12_1 a0 0 x1125000_1 x1125001_1) = some (r1, r2) := zqy hy1125 H
      have Ny1125 := Aside0.mk hy1125
      clear hy1125
      have H' := Aside0.mk H
      clear H
      go_wp2_with (first | ((with_reducible refine gate_dst (N := 16) rfl ?_); refine Kd.R_make (Kd.int .i64) _ 3 rfl (N := 16) rfl 24 _ _ rfl a0 rfl rfl Try.underlying24 (.int .i64 0) 8 info3 rfl (by decide) (by omega) 0 (ok := fun _ => True) (okp := fun _ => True) rfl (fun _ hk => hk) trivial (of_decide_eq_true zq131) (Nat.le_trans (Nat.mul_le_mul_right _ (of_decide_eq_true zq131 : a0.toNat ≤ 35184372088832)) (by omega)) (Below.refl _ _) (Nat.le_refl _) ?_; intro v1126 w9 ho10 hb hg_ hnew_; clear hg_ hnew_; (first | rw [← Ny1125.out] at ho10 | (simp only [Int.reduceToNat] at ho10; rw [← Ny1125.out] at ho10)); have n0_ := Aside0.mk (Kd.S_elder' (zqfS HO_1125000.out) (Kd.R_base ho10) hb); have n1_ := Aside0.mk (Kd.R_elder' (zqfR HO_1125001.out) (Kd.R_base ho10) hb); have n2_ := Aside0.mk (Kd.R_lower (Kd.R_new' ho10 (Kd.R_lt (zqfR HO_1125001.out))) (below_size zq17)); have n3_ := Aside0.mk (blk_below (g := gb1123) (o := .cells #[.slice none 0 0, .slice none 0 0] 26 (0, 0)) (zqe BK1123.out) hb); have n4_ := Aside0.mk (blk_below (g := gb1124) (o := .cells #[u1125000, u1125001] 26 (0, 0)) (zqe BK1124.out) hb); have n5_ := Aside0.mk (below_step zq17 hb); clear HO_1125000; clear HO_1125001; clear BK1123; clear BK1124; clear HB; have HO_1125000 := n0_; have HO_1125001 := n1_; have HO1127 := n2_; have BK1123 := n3_; have BK1124 := n4_; have HB := n5_; clear n0_ n1_ n2_ n3_ n4_ n5_; clear hb ho10))
      go_loopg [18] k1 (fun kq v18 w' => ∃ (x9_2 : List Int) (x18_2 : Int), v18 = .int .i64 x18_2 ∧ Aside0 (impl_made.l1 P Q D kq a0 a2 x12_1 x9_2 a0 x12_1 a0 x18_2 x1125000_1 x1125001_1 = some (r1, r2)) ∧ Aside0 (kq ≤ k1) ∧ Aside0 (Kd.R (Kd.int .i64) 3 w' w.heap.size (fun k_ => some k_ ≠ (u1125001 : Value).ownBlock) v1126 x9_2) ∧ Aside0 (Kd.S (Kd.slice 3 (Kd.int .i64)) 24 w' w.heap.size (fun k_ => some k_ ≠ (v1126 : Value).ownBlock ∧ some k_ ≠ (u1125001 : Value).ownBlock) u1125000 x1125000_1) ∧ Aside0 (Kd.R (Kd.int .i64) 3 w' w.heap.size (fun k_ => some k_ ≠ (v1126 : Value).ownBlock) u1125001 x1125001_1) ∧ Aside0 (w'.heap[gb1123]? = some (.cells #[(.slice none 0 0), (.slice none 0 0)] 26 (0, 0))) ∧ Aside0 (w'.heap[gb1124]? = some (.cells #[u1125000, u1125001] 26 (0, 0))) ∧ Aside0 (Below w.heap.size w w'))
      case atStart => exact ⟨(y1125), (0), zq105, H', ⟨Nat.le_refl _⟩, ⟨by refine zqfR ?_; exact Kd.R_mono HO1127.out (fun _ hk => hk.2)⟩, ⟨zq106⟩, ⟨by refine zqfR ?_; exact Kd.R_mono HO_1125001.out (fun _ hk => hk.2)⟩, ⟨zqe BK1123.out⟩, ⟨zqe BK1124.out⟩, ⟨zq17⟩⟩
      case round =>
       clear H'
       try clear c1
       try clear p2
       try clear c6
       try clear c6b0
       try clear c7
       try clear c7b0
       try clear c7b1
       try clear c8
       try clear c8b0
       try clear c8b1
       try clear c10
       try clear p2
       obtain ⟨x9_2, x18_2, rfl, HA, HK2, HO_9, HO_1125000, HO_1125001, BK1123, BK1124, HB⟩ := hrel
       cases gk with
       | zero => exact absurd HA.out (by simp [impl_made.l1])
       | succ k2 =>
        have H := HA.out
        clear HA
        simp only [impl_made.l1] at H
        by_cases c11 : x18_2 < a0
        ·rw [if_pos c11] at H
         have c11b0 : decide (x18_2 < a0) = true := decide_eq_true c11
         clear c11
         replace H := Option.bind_eq_some_iff.mp H
         obtain ⟨t1128, A120, H⟩ := H
         replace H : (if t1128 = true then (if 0 ≤ x18_2 then (if x18_2 < (x9_2.length : Int) then (impl_made.l1 P Q D k2 a0 a2 x12_1 (x9_2.set (x18_2 : Int).toNat 1) a0 x12_1 a0 (wrap64 (x18_2 + 1)) x1125000_1 x1125001_1) else (none)) else (none)) else (impl_made.l1 P Q D k2 a0 a2 x12_1 x9_2 a0 x12_1 a0 (wrap64 (x18_2 + 1)) x1125000_1 x1125001_1)) = some (r1, r2) := H
         have A12 := Aside0.mk A120
         clear A120
         by_cases c13 : t1128 = true
         ·subst c13
          have H1 : (if 0 ≤ x18_2 then (if x18_2 < (x9_2.length : Int) then (impl_made.l1 P Q D k2 a0 a2 x12_1 (x9_2.set (x18_2 : Int).toNat 1) a0 x12_1 a0 (wrap64 (x18_2 + 1)) x1125000_1 x1125001_1) else (none)) else (none)) = some (r1, r2) := by rw [if_pos rfl] at H; exact H
          clear H
          have H := H1
          clear H1
          by_cases c14 : 0 ≤ x18_2
          ·rw [if_pos c14] at H
           have c14b0 : decide (0 ≤ x18_2) = true := decide_eq_true c14
           clear c14
           by_cases c15 : x18_2 < (x9_2.length : Int)
           ·rw [if_pos c15] at H
            have c15b0 : decide (x18_2 < (x9_2.length : Int)) = true := decide_eq_true c15
            clear c15
            obtain ⟨y1129, hy1129⟩ : ∃ y_ : List Int, y_ = (x9_2.set (x18_2 : Int).toNat 1) := ⟨_, rfl⟩
            replace H : (impl_made.l1 P Q D k2 a0 a2 x12_1 y1129 a0 x12_1 a0 (wrap64 (x18_2 + 1)) x1125000_1 x1125001_1) = some (r1, r2) := zqy hy1129 H
            have Ny1129 := Aside0.mk hy1129
            clear hy1129
            have H' := Aside0.mk H
            clear H
            go_wp2_with (first | (refine goesV_ (some 24) rfl rfl HF1.out HN1.out HD1.out #[.int .i64 x12_1, .int .i64 x18_2] rfl rfl zq68 ?_; refine (HU.out x12_1 x18_2 _ _ A12.out zq61).mono ?_; rintro e w' ⟨rfl, ⟨nd, rfl⟩⟩; refine ⟨_, rfl, ?_⟩; (try (rw [drewN_self wr]; generalize hq_ : World.drewN wr _ = wr; have n0_ : Aside0 (Kd.S (Kd.slice 3 (Kd.int .i64)) 24 wr w.heap.size (fun k_ => some k_ ≠ (u1125001 : Value).ownBlock ∧ some k_ ≠ (v1126 : Value).ownBlock) u1125000 x1125000_1) := ⟨by rw [← hq_]; exact zq106⟩; have n1_ : Aside0 (Kd.R (Kd.int .i64) 3 wr w.heap.size (fun k_ => some k_ ≠ (v1126 : Value).ownBlock) u1125001 x1125001_1) := ⟨by rw [← hq_]; exact (zqfR HO_1125001.out)⟩; have n2_ : Aside0 (Kd.R (Kd.int .i64) 3 wr w.heap.size (fun k_ => some k_ ≠ (u1125001 : Value).ownBlock) v1126 x9_2) := ⟨by rw [← hq_]; exact (zqfR HO_9.out)⟩; have n3_ : Aside0 (wr.heap[gb1123]? = some (.cells #[.slice none 0 0, .slice none 0 0] 26 (0, 0))) := ⟨by rw [← hq_]; exact (zqe BK1123.out)⟩; have n4_ : Aside0 (wr.heap[gb1124]? = some (.cells #[u1125000, u1125001] 26 (0, 0))) := ⟨by rw [← hq_]; exact (zqe BK1124.out)⟩; have n5_ : Aside0 (Below w.heap.size w wr) := ⟨by rw [← hq_]; exact zq17⟩; clear HO_1125000 HO_1125001 HO_9 BK1123 BK1124 HB hq_; have HO_1125000 := n0_; have HO_1125001 := n1_; have HO_9 := n2_; have BK1123 := n3_; have BK1124 := n4_; have HB := n5_; clear n0_ n1_ n2_ n3_ n4_ n5_)); have p16 : 0 ≤ (x18_2 : Int) := of_decide_eq_true zq131; have q16 : (x18_2 : Int) < ((x9_2.length : Int) : Int) := of_decide_eq_true zq131; obtain ⟨go16, co16, eo16, gb16, gl16, cl16, HG16⟩ := Kd.R_form HO_9.out (by omega); (first | cases eo16 | (injection eo16 with ea_ en_ ec_; (first | subst ea_ | (injection ea_ with ea_; subst ea_)); subst ec_; clear en_)); have GB16 := Aside0.mk gb16; have GG16 := Aside0.mk HG16; clear gb16 gl16 HG16; obtain ⟨hx16_0, hf16_0⟩ := Kd.R_celln 0 HO_9.out (x18_2 : Int) p16 q16; replace p16 := eq_true p16; replace q16 := eq_true q16; obtain ⟨hy17_, hz17_⟩ := Kd.R_celln 0 HO_9.out (x18_2 : Int) (of_decide_eq_true zq131) (of_decide_eq_true zq131); have HP17 := Kd.R_putg HO_9.out (x18_2 : Int) 1) | ((with_reducible refine gate_store (t := 3) (p := 27) rfl ?_); refine store_event (t := 3) (p := 27) (v := ?vo_w18) (w1 := (wr.setCell ⟨go16, (x18_2 : Int).toNat, none⟩ (.int .i64 1))) ?hg ?ho ?hn ?hr ?_; (case ho => rfl); (case hg => rfl); (case hn => rfl); (case hr => exact zq174); intro w18 hw; have hg : wr.grownBy w18 (some go16) := (by rw [hw]; exact HP17.2); have hp_ : Kd.R (Kd.int .i64) 3 w18 w.heap.size (fun k_ => some k_ ≠ (u1125001 : Value).ownBlock) (.slice (some ⟨go16, 0, none⟩) x9_2.length co16) y1129 := (by rw [hw, Ny1129.out]; exact HP17.1); clear HP17; have n0_ := Aside0.mk (hp_); have n1_ := Aside0.mk (Kd.S_after (v := (.slice (some ⟨go16, 0, none⟩) x9_2.length co16)) (v1 := (.slice (some ⟨go16, 0, none⟩) x9_2.length co16)) (ok := (fun k_ => some k_ ≠ (u1125001 : Value).ownBlock)) zq106 hg (.inl rfl)); have n2_ := Aside0.mk (Kd.R_after (v := (.slice (some ⟨go16, 0, none⟩) x9_2.length co16)) (v1 := (.slice (some ⟨go16, 0, none⟩) x9_2.length co16)) (ok := (fun _ => True)) (by refine zqfR ?_; exact Kd.R_mono HO_1125001.out (fun _ hk => ⟨trivial, hk⟩)) hg (.inl rfl)); have n3_ := Aside0.mk (blk_grown (g := gb1123) (o := .cells #[.slice none 0 0, .slice none 0 0] 26 (0, 0)) (zqe BK1123.out) hg (Kd.R_ne HO_9.out BK1123.out (by decide))); have n4_ := Aside0.mk (blk_grown (g := gb1124) (o := .cells #[u1125000, u1125001] 26 (0, 0)) (zqe BK1124.out) hg (Kd.R_ne HO_9.out BK1124.out (by decide))); have n5_ := Aside0.mk ((by rw [hw]; exact below_set (HB.out) GB16.out : Below w.heap.size w w18)); clear HO_9; clear HO_1125000; clear HO_1125001; clear BK1123; clear BK1124; clear HB; have HO_9 := n0_; have HO_1125000 := n1_; have HO_1125001 := n2_; have BK1123 := n3_; have BK1124 := n4_; have HB := n5_; clear n0_ n1_ n2_ n3_ n4_ n5_; clear hg hw hp_))
            go_roundg k2
            case measure => have := HK1.out; have := HK2.out; omega
            case rel => exact ⟨(y1129), (wrap64 (x18_2 + 1)), zq105, H', ⟨zq198⟩, ⟨zqfR HO_9.out⟩, ⟨zq106⟩, ⟨by refine zqfR ?_; exact Kd.R_mono HO_1125001.out (fun _ hk => hk.2)⟩, ⟨zqe BK1123.out⟩, ⟨zqe BK1124.out⟩, ⟨zq17⟩⟩
           ·rw [if_neg c15] at H
            exact absurd H (by simp)
          ·rw [if_neg c14] at H
           exact absurd H (by simp)
         ·replace c13 := Bool.eq_false_iff.mpr c13
          subst c13
          have H1 : (impl_made.l1 P Q D k2 a0 a2 x12_1 x9_2 a0 x12_1 a0 (wrap64 (x18_2 + 1)) x1125000_1 x1125001_1) = some (r1, r2) := by rw [if_neg (show ¬ (false = true) by decide)] at H; exact H
          clear H
          have H := H1
          clear H1
          have H' := Aside0.mk H
          clear H
          go_wp2_with (first | (refine goesV_ (some 24) rfl rfl HF1.out HN1.out HD1.out #[.int .i64 x12_1, .int .i64 x18_2] rfl rfl zq68 ?_; refine (HU.out x12_1 x18_2 _ _ A12.out zq61).mono ?_; rintro e w' ⟨rfl, ⟨nd, rfl⟩⟩; refine ⟨_, rfl, ?_⟩))
          go_roundg k2
          case measure => have := HK1.out; have := HK2.out; omega
          case rel => exact ⟨(x9_2), (wrap64 (x18_2 + 1)), zq105, H', ⟨zq198⟩, ⟨zqfR HO_9.out⟩, ⟨zqfS HO_1125000.out⟩, ⟨zqfR HO_1125001.out⟩, ⟨zqe BK1123.out⟩, ⟨zqe BK1124.out⟩, ⟨zq17⟩⟩
        ·rw [if_neg c11] at H
         have c11b0 : decide (x18_2 < a0) = false := decide_eq_false c11
         clear c11
         by_cases c19 : x1125000_1.length < 5864062014805
         ·rw [if_pos c19] at H
          have LMc19 := Aside0.mk c19
          clear c19
          obtain ⟨y1130, hy1130⟩ : ∃ y_ : List (List Int), y_ = (x1125000_1 ++ [x9_2]) := ⟨_, rfl⟩
          replace H : (if x1125001_1.length < 17592186044416 then (impl_made.l0 P Q D k2 a0 a2 a0 (wrap64 (x12_1 + 1)) y1130 (x1125001_1 ++ [Q x12_1])) else (none)) = some (r1, r2) := zqy hy1130 H
          have Ny1130 := Aside0.mk hy1130
          clear hy1130
          by_cases c20 : x1125001_1.length < 17592186044416
          ·rw [if_pos c20] at H
           have LMc20 := Aside0.mk c20
           clear c20
           obtain ⟨y1133, hy1133⟩ : ∃ y_ : List Int, y_ = (x1125001_1 ++ [Q x12_1]) := ⟨_, rfl⟩
           replace H : (impl_made.l0 P Q D k2 a0 a2 a0 (wrap64 (x12_1 + 1)) y1130 y1133) = some (r1, r2) := zqy hy1133 H
           have Ny1133 := Aside0.mk hy1133
           clear hy1133
           have H' := Aside0.mk H
           clear H
           have hnb21 := NB1124_1123.out
           have hnc21 := NB1123_1124.out
           have hcz22_0 : wr.cell? ⟨gb1124, 0, none⟩ = some (u1125000) := (blk_cell BK1124.out 0).trans rfl
           have hcz22_1 : wr.cell? ⟨gb1124, 1, none⟩ = some (u1125001) := (blk_cell BK1124.out 1).trans rfl
           have hfz22_0 := blk_frozen BK1124.out 0
           have hfz22_1 := blk_frozen BK1124.out 1
           obtain ⟨Ao24, co24, eo24⟩ := Kd.R_slice HO_9.out
           subst eo24
           try go_wp2_with (first | ((with_reducible refine gate_builtin (b := .append) (xs := #[.tmp 30, .tmp 32]) rfl ?_); at_builtin; refine Kd.S_append (Kd.slice 3 (Kd.int .i64)) (w0 := w) w.heap.size rfl (.tmp 30) (.tmp 32) 23 24 (.slice none 0 0) 24 rfl Try.underlying23 info24 rfl (by decide) (by omega) u1125000 x1125000_1 x9_2 [.slice Ao24 x9_2.length co24] (fun k_ => some k_ ≠ (u1125001 : Value).ownBlock) (fun k_ => some k_ = (.slice Ao24 x9_2.length co24 : Value).ownBlock) rfl rfl ?aP (fun k_ hk_ => ((Kd.R_mono (ok' := fun k_ => ((fun k_ => some k_ ≠ (u1125001 : Value).ownBlock)) k_ ∧ some k_ ≠ (u1125000 : Value).ownBlock) (Kd.R_apart' (HO_9.out) (Kd.S_typed HO_1125000.out) (by decide)) (fun k_ hk => ⟨hk.1, hk.2⟩))).1 k_ hk_.symm) ?aF ?aO ?aB ?aS ?aL ?_; (case aP => exact Kd.M_row (Kd.R_mono (Kd.R_tight rfl (Kd.R_mono (ok' := fun k_ => ((fun k_ => some k_ ≠ (u1125001 : Value).ownBlock)) k_ ∧ some k_ ≠ (u1125000 : Value).ownBlock) (Kd.R_apart' (HO_9.out) (Kd.S_typed HO_1125000.out) (by decide)) (fun k_ hk => ⟨hk.1, hk.2⟩))) (fun _ h_ => h_))); (case aB => exact zq102); (case aF => exact (fun k_ hk => Kd.fresh' (Kd.R_lt (zqfR HO_1125001.out)) k_ hk)); (case aO => exact (by refine zqfS ?_; exact Kd.S_mono HO_1125000.out (fun k_ hk => ⟨hk.2, fun e_ => hk.1 e_⟩))); (case aS => exact zq95); (case aL => have := LMc19.out; omega); intro v1131 w23 ho hb hg hat; rw [← Ny1130.out] at ho; have n0_ := Aside0.mk (Kd.R_over' (zqfR HO_1125001.out) (Kd.S_typed (zqfS HO_1125000.out)) (by decide) hg); have n1_ := Aside0.mk (blk_grown (g := gb1123) (o := .cells #[.slice none 0 0, .slice none 0 0] 26 (0, 0)) (zqe BK1123.out) hg (Kd.S_ne HO_1125000.out BK1123.out (by decide))); have n2_ := Aside0.mk (blk_grown (g := gb1124) (o := .cells #[u1125000, u1125001] 26 (0, 0)) (zqe BK1124.out) hg (Kd.S_ne HO_1125000.out BK1124.out (by decide))); have n3_ := Aside0.mk (hb); have n4_ := Aside0.mk (ho); clear HO_1125001; clear BK1123; clear BK1124; clear HB; clear HO_1125000; clear HO_9; have HO_1125001 := n0_; have BK1123 := n1_; have BK1124 := n2_; have HB := n3_; have HO1132 := n4_; clear n0_ n1_ n2_ n3_ n4_; clear ho hb hg hat; obtain ⟨Ao25, co25, eo25⟩ := Kd.S_slice HO1132.out; subst eo25; have hcz26_0 : w23.cell? ⟨gb1124, 0, none⟩ = some (u1125000) := (blk_cell BK1124.out 0).trans rfl; have hcz26_1 : w23.cell? ⟨gb1124, 1, none⟩ = some (u1125001) := (blk_cell BK1124.out 1).trans rfl; have hfz26_0 := blk_frozen BK1124.out 0; have hfz26_1 := blk_frozen BK1124.out 1))
           have n0_ : Aside0 (Kd.R (Kd.int .i64) 3 (w23.setCell ⟨gb1124, 0, none⟩ (.slice Ao25 y1130.length co25)) w.heap.size (fun _ => True) u1125001 x1125001_1) := ⟨by refine zqfR ?_; exact Kd.R_mono (Kd.R_far (p := ⟨gb1124, 0, none⟩) (Kd.R_types HO_1125001.out BK1124.out (by decide)) (fun _ hk => hk.2) (.slice Ao25 y1130.length co25)) (fun _ hk => trivial)⟩
           have n1_ : Aside0 (Kd.S (Kd.slice 3 (Kd.int .i64)) 24 (w23.setCell ⟨gb1124, 0, none⟩ (.slice Ao25 y1130.length co25)) w.heap.size (fun k_ => some k_ ≠ (u1125001 : Value).ownBlock) (.slice Ao25 y1130.length co25) y1130) := ⟨by refine zqfS ?_; exact Kd.S_mono (Kd.S_far (p := ⟨gb1124, 0, none⟩) (Kd.S_types HO1132.out BK1124.out (by decide)) (fun _ hk => hk.2) (.slice Ao25 y1130.length co25)) (fun _ hk => hk.1)⟩
           have n2_ : Aside0 ((w23.setCell ⟨gb1124, 0, none⟩ (.slice Ao25 y1130.length co25)).heap[gb1123]? = some (.cells #[.slice none 0 0, .slice none 0 0] 26 (0, 0))) := ⟨zq173⟩
           have n3_ : Aside0 ((w23.setCell ⟨gb1124, 0, none⟩ (.slice Ao25 y1130.length co25)).heap[gb1124]? = some (.cells #[.slice Ao25 y1130.length co25, u1125001] 26 (0, 0))) := ⟨by refine zqe ?_; refine blk_put (cs := #[u1125000, u1125001]) ?_ 0 _ rfl; refine zqe ?_; exact BK1124.out⟩
           have n4_ : Aside0 (Below w.heap.size w (w23.setCell ⟨gb1124, 0, none⟩ (.slice Ao25 y1130.length co25))) := ⟨zq17⟩
           (try clear HO_1125001)
           (try clear HO1132)
           (try clear BK1123)
           (try clear BK1124)
           (try clear HB)
           generalize (w23.setCell ⟨gb1124, 0, none⟩ (.slice Ao25 y1130.length co25)) = w27 at n0_ n1_ n2_ n3_ n4_ ⊢
           have HO_1125001 := n0_
           have HO1132 := n1_
           have BK1123 := n2_
           have BK1124 := n3_
           have HB := n4_
           clear n0_ n1_ n2_ n3_ n4_
           have n0_ := Aside0.mk (Kd.R_drew HO_1125001.out)
           have n1_ := Aside0.mk (Kd.S_drew HO1132.out)
           have n2_ := Aside0.mk (blk_drew BK1123.out)
           have n3_ := Aside0.mk (blk_drew BK1124.out)
           have n4_ := Aside0.mk (below_drew1 HB.out)
           clear HO_1125001
           clear HO1132
           clear BK1123
           clear BK1124
           clear HB
           have HO_1125001 := n0_
           have HO1132 := n1_
           have BK1123 := n2_
           have BK1124 := n3_
           have HB := n4_
           clear n0_ n1_ n2_ n3_ n4_
           refine start_ (n := 9) (S := fun w' => w'.cell? ⟨gb1124, 0, none⟩ = some (.slice Ao25 y1130.length co25) ∧ w'.cell? ⟨gb1124, 1, none⟩ = some (u1125001)) (ds := [8]) #[false, false, false, false, false, false, false, false, false] (by kernel_rfl) rfl rfl ⟨(blk_cell BK1124.out 0).trans rfl, (blk_cell BK1124.out 1).trans rfl⟩ (fun hHeld => ?_); refine with_tabW impl_made.tab13 impl_made.bits13 (fun HT_ HW_ => ?_)
           generalize w27.drew = w28 at HO_1125001 HO1132 BK1123 BK1124 HB hHeld ⊢
           refine zqp 0 35 #[true, false, false, false, false, false, false, false, false] HT_ ?_
           refine zqp 2 37 #[true, false, true, false, false, false, false, false, false] HT_ ?_
           refine zqp 3 38 #[true, false, true, true, false, false, false, false, false] HT_ ?_
           refine zqw 1 36 #[true, true, true, true, false, false, false, false, false] HT_ HW_ hHeld ?_
           refine one_ (i := 4) (N := some 39) #[true, true, true, true, true, false, false, false, false] rfl rfl (one_of HT_.out (by kernel_rfl)) (by decide) (fun K hK => ?_)
           refine goesW_ HF2.out HN2.out HD2.out #[.int .i64 x12_1] (by rfl) rfl rfl rfl zq68 ?_
           refine (HV.out x12_1 _ HDx.out HB.out).mono ?_
           rintro e w' ⟨rfl, ⟨nd, rfl⟩⟩
           refine ⟨_, rfl, ?_⟩
           replace HO_1125001 := Aside0.mk (Kd.R_drewN HO_1125001.out nd)
           replace HO1132 := Aside0.mk (Kd.S_drewN HO1132.out nd)
           replace BK1123 := Aside0.mk (blk_drewN BK1123.out nd)
           replace BK1124 := Aside0.mk (blk_drewN BK1124.out nd)
           replace HB := Aside0.mk (pw_below_drewN HB.out nd)
           refine hK.out _ _ ⟨(blk_cell BK1124.out 0).trans rfl, (blk_cell BK1124.out 1).trans rfl⟩ (fun hHeld => ?_)
           clear hK K
           refine norm_ (a' := ?_) ?_ ?_
           rotate_left
           ·show Act.put _ (some 39) _ = _
            simp only [Act.put, List.setIfInBounds_toArray, List.set_cons_zero, List.set_cons_succ, i64_w, i32_w]
            rfl
           refine one_ (i := 5) (N := some 40) #[true, true, true, true, true, true, false, false, false] rfl rfl (one_of HT_.out (by kernel_rfl)) (by decide) (fun K hK => ?_)
           refine value_ (w1 := ?_) (v := ?_) (by rfl) rfl ?_ ?_
           rotate_left 2
           ·go_simp
            constructor
            ·rfl
            ·rfl
           refine hK.out _ _ ⟨(blk_cell (blk_alloc BK1124.out _) 0).trans rfl, (blk_cell (blk_alloc BK1124.out _) 1).trans rfl⟩ (fun hHeld => ?_)
           clear hK K
           refine norm_ (a' := ?_) ?_ ?_
           rotate_left
           ·show Act.put _ (some 40) _ = _
            simp only [Act.put, List.setIfInBounds_toArray, List.set_cons_zero, List.set_cons_succ, i64_w, i32_w]
            rfl
           refine one_ (i := 6) (N := some 41) #[true, true, true, true, true, true, true, false, false] rfl rfl (one_of HT_.out (by kernel_rfl)) (by decide) (fun K hK => ?_)
           refine Kd.R_append_step (Kd.int .i64) (w0 := w) w.heap.size (by rfl) (.tmp 36) (.tmp 40) 24 3 (.int .i64 0) 8 rfl Try.underlying24 info3 rfl (by decide) (by omega) u1125001 x1125001_1 (Q x12_1) [.int .i64 (Q x12_1)] (fun _ => True) (fun _ => False) rfl rfl ?aP (fun _ hk => hk.elim) ?aF ?aO ?aB ?aS ?aL ?_
           (case aP => exact rfl)
           (case aB => exact zq102)
           (case aF => exact (fun _ _ => trivial))
           (case aO => exact (zqfR HO_1125001.out))
           (case aS => exact zq95)
           (case aL => have := LMc20.out; omega)
           intro v1134 w29 ho hb hg hat
           rw [← Ny1133.out] at ho
           have n0_ := Aside0.mk (blk_grown (g := gb1123) (o := .cells #[.slice none 0 0, .slice none 0 0] 26 (0, 0)) (zqe BK1123.out) hg (Kd.R_ne HO_1125001.out BK1123.out (by decide)))
           have n1_ := Aside0.mk (blk_grown (g := gb1124) (o := .cells #[.slice Ao25 y1130.length co25, u1125001] 26 (0, 0)) (zqe BK1124.out) hg (Kd.R_ne HO_1125001.out BK1124.out (by decide)))
           have n2_ := Aside0.mk (Kd.S_after (ok := (fun _ => True)) (by refine zqfS ?_; exact Kd.S_mono HO1132.out (fun _ hk => ⟨trivial, hk⟩)) hg hat)
           have n3_ := Aside0.mk (hb)
           have n4_ := Aside0.mk (ho)
           clear BK1123
           clear BK1124
           clear HO1132
           clear HB
           clear HO_1125001
           have BK1123 := n0_
           have BK1124 := n1_
           have HO1132 := n2_
           have HB := n3_
           have HO1135 := n4_
           clear n0_ n1_ n2_ n3_ n4_
           clear ho hb hg hat
           obtain ⟨Ao30, co30, eo30⟩ := Kd.R_slice HO1135.out
           (first | subst eo30 | (injection eo30 with f1_ f2_ f3_; have f4_ := f1_.symm; have f5_ := f3_.symm; clear f1_ f2_ f3_; subst f4_; subst f5_))
           refine hK.out _ _ ⟨(blk_cell BK1124.out 0).trans rfl, (blk_cell BK1124.out 1).trans rfl⟩ (fun hHeld => ?_)
           clear hK K
           refine norm_ (a' := ?_) ?_ ?_
           rotate_left
           ·show Act.put _ (some 41) _ = _
            simp only [Act.put, List.setIfInBounds_toArray, List.set_cons_zero, List.set_cons_succ, i64_w, i32_w]
            rfl
           refine zqp 7 42 #[true, true, true, true, true, true, true, true, false] HT_ ?_
           refine last_ (i := 8) (N := none) #[true, true, true, true, true, true, true, true, true] rfl rfl (one_of HT_.out (by kernel_rfl)) (by decide) (fun K hK => ?_)
           have hs31 : w29.cell? ⟨gb1124, 1, none⟩ = some (u1125001) := (blk_cell BK1124.out 1).trans rfl
           have hfs31 := blk_frozen BK1124.out 1
           have hns31_0 := NB1123_1124.out
           have hms31_0 := NB1124_1123.out
           refine skip_ (w1 := ?_) (by rfl) rfl ?_ ?_
           rotate_left
           ·go_simp
            rfl
           refine hK.out _ _ ?_
           clear hK K
           refine done_ (done_of HT_.out (by kernel_rfl)) ?_
           try go_wp2
           go_roundg k2
           case measure => have := HK1.out; have := HK2.out; omega
           case rel => exact ⟨(wrap64 (x12_1 + 1)), (y1130), (y1133), (.slice Ao25 y1130.length co25), (.slice Ao30 y1133.length co30), zq105, H', ⟨zq198⟩, ⟨by refine zqfS ?_; exact Kd.S_mono (Kd.S_far (p := ⟨gb1124, 1, none⟩) (Kd.S_types HO1132.out BK1124.out (by decide)) (fun _ hk => hk.2) (.slice Ao30 y1133.length co30)) (fun _ hk => hk.1.2)⟩, ⟨by refine zqfR ?_; exact Kd.R_mono (Kd.R_far (p := ⟨gb1124, 1, none⟩) (Kd.R_types HO1135.out BK1124.out (by decide)) (fun _ hk => hk.2) (.slice Ao30 y1133.length co30)) (fun _ hk => trivial)⟩, ⟨zq173⟩, ⟨by refine zqe ?_; refine blk_put (cs := #[.slice Ao25 y1130.length co25, u1125001]) ?_ 1 _ rfl; refine zqe ?_; exact BK1124.out⟩, ⟨zq17⟩⟩
          ·rw [if_neg c20] at H
           exact absurd H (by simp)
         ·rw [if_neg c19] at H
          exact absurd H (by simp)
     ·rw [if_neg c8] at H
      exact absurd H (by simp)
    ·rw [if_neg c7_] at H
     exact absurd H (by simp)
   ·rw [if_neg c6] at H
    have c6b0 : decide (x12_1 < a0) = false := decide_eq_false c6
    clear c6
    simp only [Option.some.injEq, Prod.mk.injEq] at H
    obtain ⟨rfl, rfl⟩ := H
    have hnb32 := NB1124_1123.out
    have hnc32 := NB1123_1124.out
    have hcz33_0 : wr.cell? ⟨gb1124, 0, none⟩ = some (u1125000) := (blk_cell BK1124.out 0).trans rfl
    have hcz33_1 : wr.cell? ⟨gb1124, 1, none⟩ = some (u1125001) := (blk_cell BK1124.out 1).trans rfl
    have hfz33_0 := blk_frozen BK1124.out 0
    have hfz33_1 := blk_frozen BK1124.out 1
    obtain ⟨Ao34, co34, eo34⟩ := Kd.S_slice HO_1125000.out
    subst eo34
    have hcz35_0 : wr.cell? ⟨gb1123, 0, none⟩ = some (.slice none 0 0) := (blk_cell BK1123.out 0).trans rfl
    have hcz35_1 : wr.cell? ⟨gb1123, 1, none⟩ = some (.slice none 0 0) := (blk_cell BK1123.out 1).trans rfl
    have hfz35_0 := blk_frozen BK1123.out 0
    have hfz35_1 := blk_frozen BK1123.out 1
    obtain ⟨Ao36, co36, eo36⟩ := Kd.R_slice HO_1125001.out
    subst eo36
    go_wp2
    refine bodyPost_ret (results_cell_row rfl _ _ gb1123 26 #[.slice Ao34 x1125000_1.length co34, .slice Ao36 x1125001_1.length co36] (0, 0) _ rfl (by refine zqe ?_; refine blk_put (cs := #[.slice Ao34 x1125000_1.length co34, .slice none 0 0]) ?_ 1 _ rfl; refine zqe ?_; refine blk_put (cs := #[.slice none 0 0, .slice none 0 0]) ?_ 0 _ rfl; refine zqe ?_; exact BK1123.out) Try.underlying26 rfl (by kernel_rfl)) rfl ?_
    exact ⟨_, _, by first | rfl | (simp [errW_none, errW_some] <;> rfl) | (simp [*, errW_none, errW_some] <;> rfl), by refine zqfS ?_; exact Kd.S_mono (Kd.S_far (p := ⟨gb1123, 1, none⟩) (Kd.S_far (p := ⟨gb1123, 0, none⟩) (Kd.S_types HO_1125000.out BK1123.out (by decide)) (fun _ hk => hk.2) (.slice Ao34 x1125000_1.length co34)) (fun _ hk => hk.2) (.slice Ao36 x1125001_1.length co36)) (fun _ hk => hk.1), by refine zqfR ?_; exact Kd.R_mono (Kd.R_far (p := ⟨gb1123, 1, none⟩) (Kd.R_far (p := ⟨gb1123, 0, none⟩) (Kd.R_types HO_1125001.out BK1123.out (by decide)) (fun _ hk => hk.2) (.slice Ao34 x1125000_1.length co34)) (fun _ hk => hk.2) (.slice Ao36 x1125001_1.length co36)) (fun _ hk => trivial), by repeat (first | (with_reducible first | exact HB.out | apply below_alloc | apply pw_below_drewN | apply below_drew1 | refine below_set ?_ GE1123.out | refine below_set ?_ GE1124.out) | exact HB.out)⟩
end
end
section
def midB (U : List (List Int)) (N : List Int) (k : Nat) : Bool := !((k : Int) == noI U) && !((k : Int) == yesI U N)
def midI (U : List (List Int)) (N : List Int) : List Int := filI U.length (midB U N)
def gluOk (U : List (List Int)) (N : List Int) (V : List (List Int)) (M : List Int) : Bool := logicB U N && (logicB V M && (decide (2 ≤ N.length) && (decide (2 ≤ M.length) && decide (N.length + M.length ≤ 14))))
def gluS (U : List (List Int)) (N : List Int) (V : List (List Int)) (M : List Int) : List Nat := ([0] ++ (midI U N).map (fun _ => 1)) ++ (midI V M).map (fun _ => 2) ++ [0]
def gluK (U : List (List Int)) (N : List Int) (V : List (List Int)) (M : List Int) : List Int := (([0] : List Int) ++ midI U N) ++ midI V M ++ [0]
def gluN (U : List (List Int)) (N : List Int) (V : List (List Int)) (M : List Int) : Nat := (midI U N).length + (midI V M).length + 2
def gluSd (U : List (List Int)) (N : List Int) (V : List (List Int)) (M : List Int) (k : Nat) : Nat := (gluS U N V M).getD k 0
def gluKd (U : List (List Int)) (N : List Int) (V : List (List Int)) (M : List Int) (k : Nat) : Int := (gluK U N V M).getD k 0
def gluR (U : List (List Int)) (N : List Int) (V : List (List Int)) (M : List Int) (x y : Nat) : Bool :=
 if x=0∨y+1=gluN U N V M∨x=y then true else if x+1=gluN U N V M∨y=0 then false
 else if gluSd U N V M x=gluSd U N V M y then at2 (if gluSd U N V M x=1 then U else V) (gluKd U N V M x).toNat (gluKd U N V M y).toNat==1 else false
def gluQ (U : List (List Int)) (N : List Int) (V : List (List Int)) (M : List Int) (x : Nat) : Int :=
 if x=0 then(gluN U N V M:Int) - 1 else if x+1=gluN U N V M then 0
 else optI (findN (gluN U N V M) fun t=>gluSd U N V M t==gluSd U N V M x && gluKd U N V M t==notI (if gluSd U N V M x=1 then N else M) (gluKd U N V M x))
def gluP (U : List (List Int)) (N : List Int) (V : List (List Int)) (M : List Int) (x y : Int) : Option Bool := if 0 ≤ x ∧ x < (gluN U N V M : Int) ∧ 0 ≤ y ∧ y < (gluN U N V M : Int) then some (gluR U N V M x.toNat y.toNat) else none
def gluD (U : List (List Int)) (N : List Int) (V : List (List Int)) (M : List Int) (x : Int) : Bool := decide (0 ≤ x) && decide (x < (gluN U N V M : Int))
def impl_GluedOf.f (l0_0 : List (List Int)) (l0_1 : List Int) (l1_0 : List (List Int)) (l1_1 : List Int) : Option ((List (List Int)) × List Int × Bool) := if gluOk l0_0 l0_1 l1_0 l1_1 = true then (impl_made.f (gluP l0_0 l0_1 l1_0 l1_1) (fun x => gluQ l0_0 l0_1 l1_0 l1_1 x.toNat) (gluD l0_0 l0_1 l1_0 l1_1) 1000 (gluN l0_0 l0_1 l1_0 l1_1 : Int) 0 0).map (fun r => (r.1, r.2, true)) else some ([], [], false)
def sdP (gA gB : Nat) (s : Nat) : Option Addr := if s = 1 then some ⟨gA, 0, none⟩ else if s = 2 then some ⟨gB, 0, none⟩ else none
def gluSS (U : List (List Int)) (N : List Int) (V : List (List Int)) (M : List Int) (j : Nat) : List Nat := if j = 0 then [0] else if j = 1 then [0] ++ (midI U N).map (fun _ => 1) else ([0] ++ (midI U N).map (fun _ => 1)) ++ (midI V M).map (fun _ => 2)
def gluKS (U : List (List Int)) (N : List Int) (V : List (List Int)) (M : List Int) (j : Nat) : List Int := if j = 0 then [0] else if j = 1 then [0] ++ midI U N else ([0] ++ midI U N) ++ midI V M
theorem mid_len (U : List (List Int)) (N : List Int) (k : Nat) : (filI k (midB U N)).length ≤ k := filI_length k (midB U N)
theorem gluSS_len (U : List (List Int)) (N : List Int) (V : List (List Int)) (M : List Int) (j : Nat) : (gluSS U N V M j).length = (gluKS U N V M j).length ∧ 1 ≤ (gluKS U N V M j).length ∧ (gluKS U N V M j).length ≤ U.length + V.length + 1 := by
 have h1:(midI U N).length≤U.length:=filI_length _ _
 have h2:(midI V M).length≤V.length:=filI_length _ _
 unfold gluSS gluKS
 split
 ·simp
 split
 ·simp;omega
 ·simp;omega
theorem glu_data {W : World} {gA gB : Nat} {U : List (List Int)} {N : List Int} {V : List (List Int)} {M : List Int} {vA vB : Adr} (LA : Logic U N) (LB : Logic V M) (hA : View W gA U N vA) (hB : View W gB V M vB) {j : Nat} (hj : j < 2) :
 ∃g U' N' v,(#[.pointer (some ⟨gA,0,none⟩),.pointer (some ⟨gB,0,none⟩)]:Array Value)[j]? =some (.pointer (some ⟨g,0,none⟩))∧View W g U' N' v∧Logic U' N'∧sdP gA gB (j+1)=some ⟨g,0,none⟩∧gluSS U N V M (j+1)=gluSS U N V M j ++ (midI U' N').map (fun _=>j+1)∧gluKS U N V M (j+1)=gluKS U N V M j ++ midI U' N':=by
 have hj2:j=0∨j=1:=by omega
 rcases hj2 with rfl|rfl
 ·exact⟨gA,U,N,vA,rfl,hA,LA,rfl,rfl,rfl⟩
 ·exact⟨gB,V,M,vB,rfl,hB,LB,rfl,rfl,rfl⟩
section
variable {P : Program} {ops : Array Oper} {rest : List Oper} {o : Oper} {a : Act} {Q : Exit → Act → World → Prop}
theorem lit_event {W : World} (hgd : o.guard = none) {N : Tmp} (_hd : o.dst = some N) {cs : Array Value} {t : TypeId} {n : Nat}
 (hrun:(execOp a.eval o).run P W= .ok (.value (.slice (some ⟨W.heap.size,0,none⟩) n n)) (W.alloc (.cells cs t (0,0))))
 (h: ∀g,g=W.heap.size→ ∀w1,w1.heap[g]? =some (.cells cs t (0,0))→Below W.heap.size W w1→wpList P ops Q rest (a.put o.dst (.slice (some ⟨g,0,none⟩) n n)) w1):wpList P ops Q (o :: rest) a W:=
 Kd.event_run hgd hrun (h _ rfl _ (blk_new W _) (below_alloc (Below.refl _ _) _))
end
structure GluJ (w0 : World) (gO gI r0 : Nat) (gA gB : Nat) (xs : List (Option Addr)) (ys : List Int) (p q cp cq : Nat) (W : World) : Prop where
 hb:Below w0.heap.size w0 W
 bO:W.heap[gO]? =some (.cells #[.slice (some ⟨p,0,none⟩) xs.length cp] 101 (0,0))
 bI:W.heap[gI]? =some (.cells #[.slice (some ⟨q,0,none⟩) ys.length cq] 24 (0,0))
 rO:Kd.R ptrK 67 W w0.heap.size (fun k=>k≠r0) (.slice (some ⟨p,0,none⟩) xs.length cp) xs
 rI:Kd.R (Kd.int .i64) 3 W w0.heap.size (fun _=>True) (.slice (some ⟨q,0,none⟩) ys.length cq) ys
 hL:W.heap[r0]? =some (.cells #[.pointer (some ⟨gA,0,none⟩),.pointer (some ⟨gB,0,none⟩)] 67 (0,0))
theorem GluJ.below {w0 : World} {gO gI r0 gA gB : Nat} {xs : List (Option Addr)} {ys : List Int} {p q cp cq : Nat} {W W1 : World} (h : GluJ w0 gO gI r0 gA gB xs ys p q cp cq W) (hb : Below W.heap.size W W1) : GluJ w0 gO gI r0 gA gB xs ys p q cp cq W1 :=
 ⟨below_step h.hb hb,blk_below h.bO hb,blk_below h.bI hb,Kd.R_below h.rO hb,Kd.R_below h.rI hb,blk_below h.hL hb⟩
structure GluK (w0 : World) (gO gI r0 : Nat) (gA gB : Nat) (xs : List (Option Addr)) (pv : Option Addr) (ys : List Int) (kv : Int) (p q cp cq : Nat) (v : Value) (g : Nat) (W : World) : Prop where
 hb:Below w0.heap.size w0 W
 bO:W.heap[gO]? =some (.cells #[.slice (some ⟨p,0,none⟩) xs.length cp] 101 (0,0))
 bI:W.heap[gI]? =some (.cells #[.slice (some ⟨q,0,none⟩) ys.length cq] 24 (0,0))
 rO:Kd.R ptrK 67 W w0.heap.size (fun k=>k≠r0) v (xs ++ [pv])
 rI:Kd.R (Kd.int .i64) 3 W w0.heap.size (fun _=>True) (.slice (some ⟨q,0,none⟩) ys.length cq) ys
 hL:W.heap[r0]? =some (.cells #[.pointer (some ⟨gA,0,none⟩),.pointer (some ⟨gB,0,none⟩)] 67 (0,0))
 l:W.heap[g]? =some (.cells #[.int .i64 kv] 3 (0,0))
theorem row_ne {e1 e2 : TypeId} {α β : Type} {d1 : Kd α} {d2 : Kd β} {W : World} {b1 b2 : Nat} {ok1 ok2 : Nat → Prop} {v1 v2 : Value} {xs : List α} {ys : List β} (h1 : Kd.R d1 e1 W b1 ok1 v1 xs) (h2 : Kd.R d2 e2 W b2 ok2 v2 ys) (hp : 0 < xs.length) (hne : e2 ≠ e1) : v1.ownBlock ≠ v2.ownBlock := by
 obtain⟨g,c,rfl,_,_,cells,hc⟩:=Kd.R_form h1 hp
 exact Kd.R_ne h2 hc hne
theorem GluJ.app {w0 : World} {gO gI r0 gA gB : Nat} {xs : List (Option Addr)} {pv : Option Addr} {ys : List Int} {kv : Int} {p q cp cq g : Nat} {W W1 : World} {v : Value} (h : GluJ w0 gO gI r0 gA gB xs ys p q cp cq W) (hx : 0 < xs.length) (hg : W.grownBy W1 (some p)) (hb : Below w0.heap.size w0 W1)
 (ho:Kd.R ptrK 67 W1 w0.heap.size (fun k=>k≠r0) v (xs ++ [pv])) (l:W.heap[g]? =some (.cells #[.int .i64 kv] 3 (0,0))):GluK w0 gO gI r0 gA gB xs pv ys kv p q cp cq v g W1:=
 ⟨hb,blk_grown h.bO hg (Kd.R_ne h.rO h.bO (by decide)),blk_grown h.bI hg (Kd.R_ne h.rO h.bI (by decide)),ho,Kd.R_grown1 h.rI rfl hg (row_ne h.rO h.rI hx (by decide)),blk_grown h.hL hg (fun e=>h.rO.1 p rfl (Option.some.inj e).symm),blk_grown l hg (Kd.R_ne h.rO l (by decide))⟩
theorem GluJ.app0 {w0 : World} {gO gI r0 gA gB : Nat} {xs : List (Option Addr)} {pv : Option Addr} {ys : List Int} {kv : Int} {p q cp cq : Nat} {W W1 W2 : World} {v : Value} (h : GluJ w0 gO gI r0 gA gB xs ys p q cp cq W) (hx : 0 < xs.length) (hg : W.grownBy W1 (some p)) (hb : Below w0.heap.size w0 W1)
 (ho:Kd.R ptrK 67 W1 w0.heap.size (fun k=>k≠r0) v (xs ++ [pv])) (hW:W2=W1.alloc (.cells #[.int .i64 kv] 3 (0,0))):GluK w0 gO gI r0 gA gB xs pv ys kv p q cp cq v W1.heap.size W2:=by
 subst hW
 exact⟨below_alloc hb _,blk_alloc (blk_grown h.bO hg (Kd.R_ne h.rO h.bO (by decide))) _,blk_alloc (blk_grown h.bI hg (Kd.R_ne h.rO h.bI (by decide))) _,Kd.R_alloc ho _,Kd.R_alloc (Kd.R_grown1 h.rI rfl hg (row_ne h.rO h.rI hx (by decide))) _,blk_alloc (blk_grown h.hL hg (fun e=>h.rO.1 p rfl (Option.some.inj e).symm)) _,blk_new _ _⟩
theorem GluK.app {w0 : World} {gO gI r0 gA gB : Nat} {xs : List (Option Addr)} {pv : Option Addr} {ys : List Int} {kv : Int} {p q cp cq g : Nat} {W W1 : World} {v v1 : Value} (h : GluK w0 gO gI r0 gA gB xs pv ys kv p q cp cq v g W) (hy : 0 < ys.length) (hg : W.grownBy W1 (some q)) (hb : Below w0.heap.size w0 W1)
 (ho:Kd.R (Kd.int .i64) 3 W1 w0.heap.size (fun _=>True) v1 (ys ++ [kv])):
 Below w0.heap.size w0 W1∧W1.heap[gO]? =some (.cells #[.slice (some ⟨p,0,none⟩) xs.length cp] 101 (0,0))∧W1.heap[gI]? =some (.cells #[.slice (some ⟨q,0,none⟩) ys.length cq] 24 (0,0))∧Kd.R ptrK 67 W1 w0.heap.size (fun k=>k≠r0) v (xs ++ [pv])∧Kd.R (Kd.int .i64) 3 W1 w0.heap.size (fun _=>True) v1 (ys ++ [kv])∧W1.heap[r0]? =some (.cells #[.pointer (some ⟨gA,0,none⟩),.pointer (some ⟨gB,0,none⟩)] 67 (0,0)):=
 ⟨hb,blk_grown h.bO hg (Kd.R_ne h.rI h.bO (by decide)),blk_grown h.bI hg (Kd.R_ne h.rI h.bI (by decide)),Kd.R_grown1 h.rO rfl hg (row_ne h.rI h.rO hy (by decide)),ho,blk_grown h.hL hg (Kd.R_ne h.rI h.hL (by decide))⟩
theorem GluJ.close {w0 : World} {gO gI r0 gA gB : Nat} {xs' : List (Option Addr)} {ys' : List Int} {p q cp cq : Nat} {u1 u2 : Value} {W : World} (hgO : w0.heap.size ≤ gO) (hgI : w0.heap.size ≤ gI) (hne : gO ≠ gI)
 (h:Below w0.heap.size w0 W∧W.heap[gO]? =some (.cells #[u1] 101 (0,0))∧W.heap[gI]? =some (.cells #[u2] 24 (0,0))∧Kd.R ptrK 67 W w0.heap.size (fun k=>k≠r0) (.slice (some ⟨p,0,none⟩) xs'.length cp) xs'∧Kd.R (Kd.int .i64) 3 W w0.heap.size (fun _=>True) (.slice (some ⟨q,0,none⟩) ys'.length cq) ys'∧W.heap[r0]? =some (.cells #[.pointer (some ⟨gA,0,none⟩),.pointer (some ⟨gB,0,none⟩)] 67 (0,0))):
 GluJ w0 gO gI r0 gA gB xs' ys' p q cp cq ((W.setCell ⟨gO,0,none⟩ (.slice (some ⟨p,0,none⟩) xs'.length cp)).setCell ⟨gI,0,none⟩ (.slice (some ⟨q,0,none⟩) ys'.length cq)):=by
 obtain⟨hb,bO,bI,rO,rI,hL⟩:=h
 have b1:=blk_far bI (p:=⟨gO,0,none⟩) hne.symm (.slice (some ⟨p,0,none⟩) xs'.length cp)
 exact⟨below_set (below_set hb hgO) hgI,blk_far (one_setCell bO) (p:=⟨gI,0,none⟩) hne _,one_setCell b1,Kd.R_set (Kd.R_set rO bO (by decide) 0 _) b1 (by decide) 0 _,Kd.R_set (Kd.R_set rI bO (by decide) 0 _) b1 (by decide) 0 _,blk_far (blk_far hL (p:=⟨gO,0,none⟩) (fun e=>by rw [e,bO] at hL;injection hL with h1;injection h1 with _ h2;exact absurd h2 (by decide)) _) (p:=⟨gI,0,none⟩) (fun e=>by rw [e,bI] at hL;injection hL with h1;injection h1 with _ h2;exact absurd h2 (by decide)) _⟩
end
def filN (n : Nat) (p : Nat → Bool) : List Nat := (List.range n).filter p
theorem filI_eq (n : Nat) (p : Nat → Bool) : filI n p = (filN n p).map fun (s : Nat) => (s : Int) := rfl
theorem filI_len (n : Nat) (p : Nat → Bool) : (filI n p).length = (filN n p).length := by rw [filI_eq, List.length_map]
theorem filI_at (n : Nat) (p : Nat → Bool) (i : Nat) : at1 (filI n p) i = (((filN n p).getD i 0 : Nat) : Int) := by
 rw [filI_eq]
 simp only [at1,List.getD_eq_getElem?_getD,List.getElem?_map]
 cases (filN n p)[i]? <;> rfl
theorem filN_at {n : Nat} {p : Nat → Bool} {i : Nat} (h : i < (filN n p).length) : (filN n p).getD i 0 < n ∧ p ((filN n p).getD i 0) = true := by
 rw [List.getD_eq_getElem?_getD,List.getElem?_eq_getElem h]
 have h1:=List.mem_filter.1 (List.getElem_mem h)
 exact⟨by simpa using h1.1,h1.2⟩
theorem mem_filI {n : Nat} {p : Nat → Bool} {x : Int} : x ∈ filI n p ↔ ∃ i : Nat, x = (i : Int) ∧ i < n ∧ p i = true := by
 rw [filI_eq,List.mem_map]
 constructor
 ·rintro ⟨i,hi,rfl⟩
  have:=List.mem_filter.1 hi
  exact⟨i,rfl,by simpa using this.1,this.2⟩
 ·rintro ⟨i,rfl,h1,h2⟩
  exact⟨i,List.mem_filter.2 ⟨by simpa using h1,h2⟩,rfl⟩
section
theorem getD_l {α : Type} {l l' : List α} {d : α} {k : Nat} (h : k < l.length) : (l ++ l').getD k d = l.getD k d := by
 rw [List.getD_eq_getElem?_getD,List.getD_eq_getElem?_getD,List.getElem?_append_left h]
theorem getD_r {α : Type} {l l' : List α} {d : α} {k : Nat} (h : l.length ≤ k) : (l ++ l').getD k d = l'.getD (k - l.length) d := by
 rw [List.getD_eq_getElem?_getD,List.getD_eq_getElem?_getD,List.getElem?_append_right h]
theorem add_at (p k : Nat) : (⟨p, 0, none⟩ : Addr).add k = ⟨p, k, none⟩ := by
 by_cases h : k = 0 <;> simp [Addr.add, h]
theorem glu_seg {α : Type} (a b d : α) (A B : List α) (k : Nat) : ((([a] ++ A) ++ B) ++ [b]).getD (k + 1) d = if k < A.length then A.getD k d else if k - A.length < B.length then B.getD (k - A.length) d else if k = A.length + B.length then b else d := by
 have e:(([a] ++ A) ++ B) ++ [b]=a :: (A ++ (B ++ [b])):=by simp
 rw [e,List.getD_cons_succ]
 by_cases h1:k<A.length
 ·rw [if_pos h1,getD_l h1]
 rw [if_neg h1,getD_r (by omega)]
 by_cases h2:k - A.length<B.length
 ·rw [if_pos h2,getD_l h2]
 rw [if_neg h2,getD_r (by omega)]
 by_cases h3:k=A.length+B.length
 ·rw [if_pos h3,show k - A.length - B.length=0 from by omega];rfl
 ·rw [if_neg h3,List.getD_eq_getElem?_getD,List.getElem?_eq_none (by simp;omega)];rfl
theorem mid_mem {U : List (List Int)} {N : List Int} {i : Nat} (h : i < (midI U N).length) : In U ((midI U N).getD i 0) ∧ midB U N ((midI U N).getD i 0).toNat = true := by
 have h1:(midI U N).getD i 0 ∈ midI U N:=by
  rw [List.getD_eq_getElem?_getD,List.getElem?_eq_getElem h]
  exact List.getElem_mem h
 obtain⟨j,e,h2,h3⟩:=mem_filI.1 h1
 rw [e]
 exact⟨⟨by omega,by omega⟩,by simpa using h3⟩
theorem mid_at {U : List (List Int)} {N : List Int} {a : Int} (ha : In U a) (h : midB U N a.toNat = true) : ∃ i, i < (midI U N).length ∧ (midI U N).getD i 0 = a := by
 have h1:a ∈ midI U N:=mem_filI.2 ⟨a.toNat,by have:=ha.1;omega,by have:=ha.1;have:=ha.2;omega,h⟩
 obtain⟨i,hi,e⟩:=List.mem_iff_getElem.1 h1
 exact⟨i,hi,by rw [List.getD_eq_getElem?_getD,List.getElem?_eq_getElem hi];exact e⟩
theorem getD_const {α : Type} {l : List α} {c : Nat} {i : Nat} (h : i < l.length) : (l.map fun _ => c).getD i 0 = c := by
 rw [List.getD_eq_getElem?_getD,List.getElem?_map,List.getElem?_eq_getElem h];rfl
section
variable {U : List (List Int)} {N : List Int} {V : List (List Int)} {M : List Int}
theorem glu_last : gluSd U N V M (gluN U N V M - 1) = 0 := by
 have e:gluN U N V M - 1=((midI U N).length+(midI V M).length)+1:=by unfold gluN;omega
 unfold gluSd gluS
 rw [e,glu_seg]
 rw [if_neg (by simp),if_neg (by simp),if_pos (by simp)]
theorem glu_mid {k : Nat} (h0 : 0 < k) (h1 : k + 1 < gluN U N V M) : (gluSd U N V M k = 1 ∧ In U (gluKd U N V M k) ∧ midB U N (gluKd U N V M k).toNat = true) ∨ (gluSd U N V M k = 2 ∧ In V (gluKd U N V M k) ∧ midB V M (gluKd U N V M k).toNat = true) := by
 obtain⟨i,rfl⟩: ∃i,k=i+1:=⟨k - 1,by omega⟩
 unfold gluN at h1
 unfold gluSd gluKd gluS gluK
 rw [glu_seg,glu_seg,List.length_map,List.length_map]
 by_cases h2:i<(midI U N).length
 ·rw [if_pos h2,if_pos h2,getD_const h2]
  exact .inl ⟨rfl,mid_mem h2⟩
 ·rw [if_neg h2,if_neg h2,if_pos (by omega),if_pos (by omega),getD_const (by omega)]
  exact .inr ⟨rfl,mid_mem (by omega)⟩
theorem glu_find1 {a : Int} (ha : In U a) (h : midB U N a.toNat = true) : ∃ t, t < gluN U N V M ∧ gluSd U N V M t = 1 ∧ gluKd U N V M t = a := by
 obtain⟨i,hi,e⟩:=mid_at ha h
 refine⟨i+1,by unfold gluN;omega,?_,?_⟩
 ·unfold gluSd gluS
  rw [glu_seg,List.length_map,if_pos hi,getD_const hi]
 ·unfold gluKd gluK
  rw [glu_seg,if_pos hi,e]
theorem glu_find2 {a : Int} (ha : In V a) (h : midB V M a.toNat = true) : ∃ t, t < gluN U N V M ∧ gluSd U N V M t = 2 ∧ gluKd U N V M t = a := by
 obtain⟨i,hi,e⟩:=mid_at ha h
 refine⟨(midI U N).length+i+1,by unfold gluN;omega,?_,?_⟩
 ·unfold gluSd gluS
  rw [glu_seg,List.length_map,List.length_map,if_neg (by omega),if_pos (by omega),getD_const (by omega)]
 ·unfold gluKd gluK
  rw [glu_seg,if_neg (by omega),if_pos (by omega),show (midI U N).length+i - (midI U N).length=i from by omega,e]
end
theorem mid_not {U : List (List Int)} {N : List Int} (L : Logic U N) {a : Int} (ha : In U a) (h : midB U N a.toNat = true) : midB U N (notI N a).toNat = true := by
 have hn:=L.in_not ha
 have hno:=L.in_no
 have inv: ∀ {c:Int},In U c→notI N (notI N c)=c:=fun {c} hc=>by
  have h1:=L.inv c.toNat (by have:=hc.1;have:=hc.2;omega)
  unfold notI;rw [h1];have:=hc.1;omega
 have e1:((a.toNat:Nat):Int)=a:=by have:=ha.1;omega
 have e2:(((notI N a).toNat:Nat):Int)=notI N a:=by have:=hn.1;omega
 unfold midB at h ⊢
 rw [e1] at h
 rw [e2]
 simp only [Bool.and_eq_true,Bool.not_eq_true',beq_eq_false_iff_ne,ne_eq] at h ⊢
 refine⟨fun h1=>h.2 ?_,fun h1=>h.1 ?_⟩
 ·have h2:=inv ha;rw [h1] at h2;exact h2.symm
 ·have h2:=inv ha;rw [h1] at h2;unfold yesI at h2;rw [inv hno] at h2;exact h2.symm
theorem GluJ.toI {w0 W : World} {gO gI r0 gA gB gL p q cp cq : Nat} {xs : List (Option Addr)} {ys : List Int} {m : Int} {U : List (List Int)} {N : List Int} {V : List (List Int)} {M : List Int} (h : GluJ w0 gO gI r0 gA gB xs ys p q cp cq W) (hx : xs = (gluS U N V M).map (sdP gA gB)) (hy : ys = gluK U N V M) (hnx : xs.length = gluN U N V M) (hny : ys.length = gluN U N V M)
 (bL:W.heap[gL]? =some (.cells #[.int .i64 m] 3 (0,0))):GluI W gL gO gI ⟨p,0,none⟩ ⟨q,0,none⟩ (gluN U N V M) m cp cq (fun k=>sdP gA gB (gluSd U N V M k)) (gluKd U N V M):=by
 refine⟨bL,hnx ▸ h.bO,hny ▸ h.bI,fun k hk=>?_,fun k hk=>?_⟩
 ·have h1:=(Kd.R_cell none h.rO (k:Int) (by omega) (by omega)).1
  have e:rdOf none xs (k:Int)=sdP gA gB (gluSd U N V M k):=by
   unfold rdOf gluSd
   rw [hx,Int.toNat_natCast,List.getD_eq_getElem?_getD,List.getD_eq_getElem?_getD,List.getElem?_map]
   cases (gluS U N V M)[k]? <;> rfl
  rw [e,Int.toNat_natCast] at h1
  rw [add_at];exact h1
 ·have h1:=(Kd.R_cell (h1:=fun _=>rfl) (enc:=Value.int .i64) 0 h.rI (k:Int) (by omega) (by omega)).1
  have e:rdOf 0 ys (k:Int)=gluKd U N V M k:=by
   unfold rdOf gluKd
   rw [hy,Int.toNat_natCast]
  rw [e,Int.toNat_natCast] at h1
  rw [add_at];exact h1
section
variable {W : World} {U : List (List Int)} {N : List Int} {V : List (List Int)} {M : List Int} {gA gB gL gO gI cP cI : Nat} {P I : Addr} {vA vB : Adr}
theorem glu_hu {W0 : World} (LA : Logic U N) (LB : Logic V M) (hne : gA ≠ gB) (hA : View W0 gA U N vA) (hB : View W0 gB V M vB) (hN : gluN U N V M < 1000 ∧ 2 ≤ gluN U N V M)
 {m:Int} (hm:m=(gluN U N V M:Int) - 1) (hI:GluI W0 gL gO gI P I (gluN U N V M) m cP cI (fun k=>sdP gA gB (gluSd U N V M k)) (gluKd U N V M)) (hW:Below W0.heap.size W0 W) {x y:Int} {b:Bool} (he:gluP U N V M x y=some b):
 Calls Try.prog 115 #[.int .i64 x,.int .i64 y,.pointer (some ⟨gL,0,none⟩),.pointer (some ⟨gO,0,none⟩),.pointer (some ⟨gI,0,none⟩)] W fun e w'=>e= .returned (.bool b)∧Drawn0 W w':=by
 subst hm
 unfold gluP at he
 split at he
 case isFalse=>exact absurd he (by simp)
 case isTrue hr=>
 obtain⟨hx0,hx1,hy0,hy1⟩:=hr
 injection he with he
 have c1:(x=0∨y=(gluN U N V M:Int) - 1∨x=y)→(x.toNat=0∨y.toNat+1=gluN U N V M∨x.toNat=y.toNat):=by omega
 have c1': ¬(x=0∨y=(gluN U N V M:Int) - 1∨x=y)→ ¬(x.toNat=0∨y.toNat+1=gluN U N V M∨x.toNat=y.toNat):=by omega
 have c2:(x=(gluN U N V M:Int) - 1∨y=0)→(x.toNat+1=gluN U N V M∨y.toNat=0):=by omega
 have c2': ¬(x=(gluN U N V M:Int) - 1∨y=0)→ ¬(x.toNat+1=gluN U N V M∨y.toNat=0):=by omega
 refine glu_c1 x y (gluN U N V M) ((gluN U N V M:Int) - 1) (by omega) ⟨hx0,by omega⟩ ⟨hy0,by omega⟩ W gL gO gI P I cP cI _ _ (hI.below hW) b (fun h=>?_) (fun h1 h2=>?_) (fun h1 h2=>?_)
 ·rw [← he];unfold gluR;rw [if_pos (c1 h)]
 ·rw [← he];unfold gluR;rw [if_neg (c1' h1),if_pos (c2 h2)]
 ·have a1:=hA.below hW
  have a2:=hB.below hW
  have g1:0<x.toNat∧x.toNat+1<gluN U N V M:=by omega
  have g2:0<y.toNat∧y.toNat+1<gluN U N V M:=by omega
  have e:b=(if gluSd U N V M x.toNat=gluSd U N V M y.toNat then at2 (if gluSd U N V M x.toNat=1 then U else V) (gluKd U N V M x.toNat).toNat (gluKd U N V M y.toNat).toNat==1 else false):=by
   rw [← he];unfold gluR;rw [if_neg (c1' h1),if_neg (c2' h2)]
  unfold GluP
  rcases glu_mid g1.1 g1.2 with ⟨p1,p2,_⟩|⟨p1,p2,_⟩ <;> rcases glu_mid g2.1 g2.2 with ⟨q1,q2,_⟩|⟨q1,q2,_⟩
  ·exact .inr ⟨gA,U,N,vA,by show sdP gA gB _=_;rw [p1];rfl,by show sdP gA gB _=_;rw [q1];rfl,a1,p2,q2,by rw [e,p1,q1];rfl⟩
  ·exact .inl ⟨gA,gB,U,N,vA,V,M,vB,by show sdP gA gB _=_;rw [p1];rfl,by show sdP gA gB _=_;rw [q1];rfl,hne,a1,a2,by rw [e,p1,q1];rfl⟩
  ·exact .inl ⟨gB,gA,V,M,vB,U,N,vA,by show sdP gA gB _=_;rw [p1];rfl,by show sdP gA gB _=_;rw [q1];rfl,fun h=>hne h.symm,a2,a1,by rw [e,p1,q1];rfl⟩
  ·exact .inr ⟨gB,V,M,vB,by show sdP gA gB _=_;rw [p1];rfl,by show sdP gA gB _=_;rw [q1];rfl,a2,p2,q2,by rw [e,p1,q1];rfl⟩
theorem glu_at {W : World} (hne : gA ≠ gB) (hA : View W gA U N vA) (hB : View W gB V M vB) {s : Nat} (hs : s = 1 ∨ s = 2) {c : Int} {k : Nat} (hk : k < gluN U N V M) (hno : ¬ (gluSd U N V M k = s ∧ gluKd U N V M k = c)) : GluM W (fun k => sdP gA gB (gluSd U N V M k)) (gluKd U N V M) (if s = 1 then gA else gB) c k := by
 unfold GluM
 by_cases h0:k=0
 ·exact .inl (by rw [h0];rfl)
 by_cases h1:k+1=gluN U N V M
 ·exact .inl (by show sdP gA gB _=_;rw [show k=gluN U N V M - 1 from by omega,glu_last];rfl)
 rcases glu_mid (U:=U) (N:=N) (V:=V) (M:=M) (k:=k) (by omega) (by omega) with ⟨p1,_,_⟩|⟨p1,_,_⟩
 ·refine .inr ⟨gA,U,N,vA,by show sdP gA gB _=_;rw [p1];rfl,hA,?_⟩
  rcases hs with rfl|rfl
  ·exact .inr ⟨rfl,fun e=>hno ⟨p1,e⟩⟩
  ·exact .inl hne
 ·refine .inr ⟨gB,V,M,vB,by show sdP gA gB _=_;rw [p1];rfl,hB,?_⟩
  rcases hs with rfl|rfl
  ·exact .inl fun e=>hne e.symm
  ·exact .inr ⟨rfl,fun e=>hno ⟨p1,e⟩⟩
theorem glu_hv {W0 : World} (LA : Logic U N) (LB : Logic V M) (hne : gA ≠ gB) (hA : View W0 gA U N vA) (hB : View W0 gB V M vB) (hN : gluN U N V M < 1000 ∧ 2 ≤ gluN U N V M)
 {m:Int} (hm:m=(gluN U N V M:Int) - 1) (hI:GluI W0 gL gO gI P I (gluN U N V M) m cP cI (fun k=>sdP gA gB (gluSd U N V M k)) (gluKd U N V M)) (hW:Below W0.heap.size W0 W) {x:Int} (he:gluD U N V M x=true):
 Calls Try.prog 116 #[.int .i64 x,.pointer (some ⟨gL,0,none⟩),.pointer (some ⟨gO,0,none⟩),.pointer (some ⟨gI,0,none⟩)] W fun e w'=>e= .returned (.int .i64 (gluQ U N V M x.toNat))∧Drawn0 W w':=by
 subst hm
 have hr:0≤x∧x<(gluN U N V M:Int):=by unfold gluD at he;simpa using he
 by_cases h0:x=0
 ·subst h0
  have h:=glu_c2_first (gluN U N V M) ((gluN U N V M:Int) - 1) (by omega) (by omega) W gL gO gI P I cP cI _ _ (hI.below hW) (by omega)
  rwa [show (gluQ U N V M (0:Int).toNat)=(gluN U N V M:Int) - 1 from if_pos rfl]
 by_cases h1:x=(gluN U N V M:Int) - 1
 ·have e:gluQ U N V M x.toNat=0:=by unfold gluQ;rw [if_neg (by omega),if_pos (by omega)]
  rw [e,h1]
  exact glu_c2_last (gluN U N V M) ((gluN U N V M:Int) - 1) (by omega) (by omega) W gL gO gI P I cP cI _ _ (hI.below hW) (by omega)
 have g1:0<x.toNat∧x.toNat+1<gluN U N V M:=by omega
 have a1:=hA.below hW
 have a2:=hB.below hW
 have eq:gluQ U N V M x.toNat=optI (findN (gluN U N V M) fun t=>gluSd U N V M t==gluSd U N V M x.toNat && gluKd U N V M t==notI (if gluSd U N V M x.toNat=1 then N else M) (gluKd U N V M x.toNat)):=by
  unfold gluQ;rw [if_neg (by omega),if_neg (by omega)]
 rcases glu_mid g1.1 g1.2 with ⟨p1,p2,p3⟩|⟨p1,p2,p3⟩
 ·obtain⟨t0,q1,q2,q3⟩:=glu_find1 (V:=V) (M:=M) (LA.in_not p2) (mid_not LA p2 p3)
  obtain⟨t,ht⟩:=Option.isSome_iff_exists.1 (findN_isSome (n:=gluN U N V M) (p:=fun t=>gluSd U N V M t==gluSd U N V M x.toNat && gluKd U N V M t==notI (if gluSd U N V M x.toNat=1 then N else M) (gluKd U N V M x.toNat)) |>.2 ⟨t0,q1,by show (_ && _)=true;rw [p1,q2,q3];simp⟩)
  rw [eq,ht]
  have h3:=findN_some ht
  rw [p1,Bool.and_eq_true,beq_iff_eq,beq_iff_eq,if_pos rfl] at h3
  refine glu_c2 x (gluN U N V M) ((gluN U N V M:Int) - 1) (by omega) (by omega) W gL gO gI P I cP cI _ _ (hI.below hW) (by omega) U N gA vA (by show sdP gA gB _=_;rw [p1];rfl) a1 p2 t h3.1 ⟨by show sdP gA gB _=_;rw [h3.2.1];rfl,h3.2.2⟩ (fun k hk=>glu_at hne a1 a2 (.inl rfl) (by omega) fun h=>?_)
  have h4:=findN_first ht k hk
  rw [p1,h.1,h.2] at h4
  simp at h4
 ·obtain⟨t0,q1,q2,q3⟩:=glu_find2 (U:=U) (N:=N) (LB.in_not p2) (mid_not LB p2 p3)
  obtain⟨t,ht⟩:=Option.isSome_iff_exists.1 (findN_isSome (n:=gluN U N V M) (p:=fun t=>gluSd U N V M t==gluSd U N V M x.toNat && gluKd U N V M t==notI (if gluSd U N V M x.toNat=1 then N else M) (gluKd U N V M x.toNat)) |>.2 ⟨t0,q1,by show (_ && _)=true;rw [p1,q2,q3];simp⟩)
  rw [eq,ht]
  have h3:=findN_some ht
  rw [p1,Bool.and_eq_true,beq_iff_eq,beq_iff_eq,if_neg (by decide)] at h3
  refine glu_c2 x (gluN U N V M) ((gluN U N V M:Int) - 1) (by omega) (by omega) W gL gO gI P I cP cI _ _ (hI.below hW) (by omega) V M gB vB (by show sdP gA gB _=_;rw [p1];rfl) a2 p2 t h3.1 ⟨by show sdP gA gB _=_;rw [h3.2.1];rfl,h3.2.2⟩ (fun k hk=>glu_at hne a1 a2 (.inr rfl) (by omega) fun h=>?_)
  have h4:=findN_first ht k hk
  rw [p1,h.1,h.2] at h4
  simp at h4
end
end
def impl_GluedOf.T1 : Bool × List (List Nat × List Nat) := (true, [([], []), ([0], [0]), ([], []), ([2, 1], [2]), ([1, 3, 0, 1], [1]), ([3, 4, 0, 1, 2, 3, 4], [3])])
def impl_GluedOf.B1 : List Nat := [0, 1, 0, 7, 15, 31]
theorem impl_GluedOf.tab1 : rtab .any (opsOf Try.f47 1) = impl_GluedOf.T1 := by kernel_rfl
theorem impl_GluedOf.bits1 : waitsOk impl_GluedOf.T1.2 impl_GluedOf.B1 = true := by kernel_rfl
def impl_GluedOf.T12 : Bool × List (List Nat × List Nat) := (true, [([], []), ([], []), ([1], [1]), ([0, 2], [0, 2]), ([], []), ([], []), ([5], [5]), ([4, 6, 3], [4, 6]), ([3, 7, 0, 1, 2, 3], [3]), ([7, 8, 0, 1, 2, 3, 4, 5, 6, 7, 8], [7])])
def impl_GluedOf.B12 : List Nat := [0, 0, 2, 7, 0, 0, 32, 127, 255, 511]
theorem impl_GluedOf.tab12 : rtab .any (opsOf Try.f47 12) = impl_GluedOf.T12 := by kernel_rfl
theorem impl_GluedOf.bits12 : waitsOk impl_GluedOf.T12.2 impl_GluedOf.B12 = true := by kernel_rfl
def impl_GluedOf.T15 : Bool × List (List Nat × List Nat) := (true, [([], []), ([], []), ([0, 1], [0, 1]), ([], []), ([], []), ([3, 4, 2], [3, 4]), ([2, 5, 0, 1, 2], [2]), ([5, 6, 0, 1, 2, 3, 4, 5, 6], [5])])
def impl_GluedOf.B15 : List Nat := [0, 0, 3, 0, 0, 31, 63, 127]
theorem impl_GluedOf.tab15 : rtab .any (opsOf Try.f47 15) = impl_GluedOf.T15 := by kernel_rfl
theorem impl_GluedOf.bits15 : waitsOk impl_GluedOf.T15.2 impl_GluedOf.B15 = true := by kernel_rfl
set_option maxHeartbeats 8000000 in
set_option maxRecDepth 100000 in
theorem impl_GluedOf.calls (A0_0 : Option Addr) (c0_0 : Nat) (l0_0 : List (List Int)) (A0_1 : Option Addr) (c0_1 : Nat) (l0_1 : List Int) (A1_0 : Option Addr) (c1_0 : Nat) (l1_0 : List (List Int)) (A1_1 : Option Addr) (c1_1 : Nat) (l1_1 : List Int) (r1 : List (List Int)) (r2 : List Int) (r3 : Bool) (w : World) (hr0_0 : Kd.C (Kd.slice 3 (Kd.int .i64)) w A0_0 l0_0.length l0_0) (hc0_0 : l0_0.length ≤ c0_0) (hr0_1 : Kd.C (Kd.int .i64) w A0_1 l0_1.length l0_1) (hc0_1 : l0_1.length ≤ c0_1) (hr1_0 : Kd.C (Kd.slice 3 (Kd.int .i64)) w A1_0 l1_0.length l1_0) (hc1_0 : l1_0.length ≤ c1_0) (hr1_1 : Kd.C (Kd.int .i64) w A1_1 l1_1.length l1_1) (hc1_1 : l1_1.length ≤ c1_1) (h : impl_GluedOf.f l0_0 l0_1 l1_0 l1_1 = some (r1, r2, r3)) :
 Calls Try.prog 47 #[.agg #[.slice A0_0 l0_0.length c0_0,.slice A0_1 l0_1.length c0_1],.agg #[.slice A1_0 l1_0.length c1_0,.slice A1_1 l1_1.length c1_1]] w fun e w'=> ∃v0_ v1_:Value,e= .returned (.tuple #[.agg #[v0_,v1_],.bool r3])∧Kd.S (Kd.slice 3 (Kd.int .i64)) 24 w' w.heap.size (fun k_=>some k_≠(v1_:Value).ownBlock) v0_ r1∧Kd.R (Kd.int .i64) 3 w' w.heap.size (fun _=>True) v1_ r2∧Below w.heap.size w w':=by
 obtain⟨kf0,hF0⟩:=told_facts l0_0
 obtain⟨kf1,hF1⟩:=told_facts l1_0
 have hu30:=Try.underlying26
 have hu70:=Try.underlying74
 have hup:=Try.underlying67
 have HF0:=zqm hF0
 have HF1:=zqm hF1
 have HR0_0:=zqm hr0_0
 have HC0_0:=zqm hc0_0
 have HR0_1:=zqm hr0_1
 have HC0_1:=zqm hc0_1
 have HR1_0:=zqm hr1_0
 have HC1_0:=zqm hc1_0
 have HR1_1:=zqm hr1_1
 have HC1_1:=zqm hc1_1
 have HB:=zqm (Below.refl w.heap.size w)
 unfold impl_GluedOf.f gluOk at h
 clear hr0_0 hc0_0 hr0_1 hc0_1 hr1_0 hc1_0 hr1_1 hc1_1 hF0 hF1
 cases hA:logicB l0_0 l0_1 with
 |false=>
  rw [hA,Bool.false_and,if_neg (by simp)] at h
  simp only [Option.some.injEq,Prod.mk.injEq] at h
  obtain⟨rfl,rfl,rfl⟩:=h
  have HLA:=zqm hA
  clear hA
  cases hB:logicB l1_0 l1_1 with
  |false=>
   have HLB:=zqm hB
   clear hB
   go_enter Try.func47,Try.ntmps47
   go_wp2_with (first|((with_reducible refine gate_dst (N:=2) rfl ?_);refine box_event ?hg (N:=2) ?hd (cs:= #[.slice A0_0 l0_0.length c0_0,.slice A0_1 l0_1.length c0_1]) (t:=26) ?hr ?_;(case hd=>rfl);(case hg=>rfl);(case hr=> exact zq9);intro ga hg w1 hbox hb;have n_:=zqm (below_step HB.out hb);clear HB;have HB:=n_;clear n_;have BA:=zqm hbox;have GA:=zqm (show w.heap.size≤ga from zq153);clear hb hbox hg)|((with_reducible refine gate_dst (N:=3) rfl ?_);refine box_event ?hg (N:=3) ?hd (cs:= #[.slice A1_0 l1_0.length c1_0,.slice A1_1 l1_1.length c1_1]) (t:=26) ?hr ?_;(case hd=>rfl);(case hg=>rfl);(case hr=> exact zq9);intro gb hg w2 hbox hb;have n_:=zqm (below_step HB.out hb);have m_:=zqm (blk_below BA.out hb);have GB:=zqm (show w.heap.size≤gb from zq65);clear HB BA;have HB:=n_;have BA:=m_;clear n_ m_;have BBx:=zqm hbox;clear hb hbox hg)|((with_reducible refine gate_dst (N:=4) rfl ?_);refine box_event ?hg (N:=4) ?hd (cs:= #[.slice none 0 0,.slice none 0 0]) (t:=26) ?hr ?_;(case hd=>rfl);(case hg=>rfl);(case hr=> exact zq9);intro gr hg w3 hbox hb;have n_:=zqm (below_step HB.out hb);have m_:=zqm (blk_below BA.out hb);have k_:=zqm (blk_below BBx.out hb);have GR:=zqm (show w.heap.size≤gr from zq65);clear HB BA BBx;have HB:=n_;have BA:=m_;have BBx:=k_;clear n_ m_ k_;have BK:=zqm hbox;clear hb hbox hg))
   refine start_ (n:=6) (S:=(fun w'=>w'.cell? ⟨ga,0,none⟩=some (.slice A0_0 l0_0.length c0_0)∧w'.cell? ⟨ga,1,none⟩=some (.slice A0_1 l0_1.length c0_1)∧w'.cell? ⟨gb,0,none⟩=some (.slice A1_0 l1_0.length c1_0)∧w'.cell? ⟨gb,1,none⟩=some (.slice A1_1 l1_1.length c1_1))) (ds:= []) (zqb 6 0) zqk rfl rfl ⟨(blk_cell (blk_drew BA.out) 0).trans rfl,(blk_cell (blk_drew BA.out) 1).trans rfl,(blk_cell (blk_drew BBx.out) 0).trans rfl,(blk_cell (blk_drew BBx.out) 1).trans rfl⟩ (fun hHeld=>?_)
   refine with_tabW impl_GluedOf.tab1 impl_GluedOf.bits1 (fun HT_ HW_=>?_)
   have n1_:=zqm (below_drew1 HB.out)
   have n2_:=zqm (blk_drew BA.out)
   have n3_:=zqm (blk_drew BBx.out)
   have n4_:=zqm (blk_drew BK.out)
   clear HB BA BBx BK
   have HB:=n1_
   have BA:=n2_
   have BBx:=n3_
   have BK:=n4_
   clear n1_ n2_ n3_ n4_
   generalize w3.drew=w4 at hHeld HB BA BBx BK ⊢
   refine zqw 0 14 (zqb 6 1) HT_ HW_ hHeld ?_
   refine zqw 2 16 (zqb 6 5) HT_ HW_ hHeld ?_
   refine one_ (i:=1) (N:=some 15) (zqb 6 7) rfl rfl (one_of HT_.out zqk) (by decide) (fun K hK=>?_)
   refine goes_ Try.func70 zqk rfl #[.agg #[.slice A0_0 l0_0.length c0_0,.slice A0_1 l0_1.length c0_1]] (by rfl) rfl rfl zq26 ?_
   refine(told_n kf0 _ _ l0_0 _ _ l0_1 _ (Kd.C_below HR0_0.out HB.out) HC0_0.out (Kd.C_below HR0_1.out HB.out) HC0_1.out HF0.out HLA.out).mono ?_
   rintro e w5 ⟨rfl,hb⟩
   refine⟨_,rfl,?_⟩
   have n1_:=zqm (below_step HB.out hb)
   have n2_:=zqm (blk_below BA.out hb)
   have n3_:=zqm (blk_below BBx.out hb)
   have n4_:=zqm (blk_below BK.out hb)
   clear HB BA BBx BK
   have HB:=n1_
   have BA:=n2_
   have BBx:=n3_
   have BK:=n4_
   clear n1_ n2_ n3_ n4_ hb
   refine hK.out _ _ ⟨(blk_cell BA.out 0).trans rfl,(blk_cell BA.out 1).trans rfl,(blk_cell BBx.out 0).trans rfl,(blk_cell BBx.out 1).trans rfl⟩ (fun h5=>?_)
   clear hK K
   refine norm_ (a':=?_) ?_ ?_
   rotate_left
   ·show Act.put _ (some 15) _=_
    simp only [Act.put,List.setIfInBounds_toArray,List.set_cons_zero,List.set_cons_succ,i64_w,i32_w]
    rfl
   refine one_ (i:=3) (N:=some 17) (zqb 6 15) rfl rfl (one_of HT_.out zqk) (by decide) (fun K hK=>?_)
   refine goes_ Try.func70 zqk rfl #[.agg #[.slice A1_0 l1_0.length c1_0,.slice A1_1 l1_1.length c1_1]] (by rfl) rfl rfl zq26 ?_
   refine(told_n kf1 _ _ l1_0 _ _ l1_1 _ (Kd.C_below HR1_0.out HB.out) HC1_0.out (Kd.C_below HR1_1.out HB.out) HC1_1.out HF1.out HLB.out).mono ?_
   rintro e w6 ⟨rfl,hb⟩
   refine⟨_,rfl,?_⟩
   have n1_:=zqm (below_step HB.out hb)
   have n2_:=zqm (blk_below BA.out hb)
   have n3_:=zqm (blk_below BBx.out hb)
   have n4_:=zqm (blk_below BK.out hb)
   clear HB BA BBx BK
   have HB:=n1_
   have BA:=n2_
   have BBx:=n3_
   have BK:=n4_
   clear n1_ n2_ n3_ n4_ hb
   refine hK.out _ _ ⟨(blk_cell BA.out 0).trans rfl,(blk_cell BA.out 1).trans rfl,(blk_cell BBx.out 0).trans rfl,(blk_cell BBx.out 1).trans rfl⟩ (fun h6=>?_)
   clear hK K
   refine norm_ (a':=?_) ?_ ?_
   rotate_left
   ·show Act.put _ (some 17) _=_
    simp only [Act.put,List.setIfInBounds_toArray,List.set_cons_zero,List.set_cons_succ,i64_w,i32_w]
    rfl
   refine zqp 4 6 (zqb 6 31) HT_ ?_
   refine zqp 5 7 (zqb 6 63) HT_ ?_
   refine done_ (done_of HT_.out zqk) ?_
   have hcz0:w6.cell? ⟨gr,0,none⟩=some (.slice none 0 0):=(blk_cell BK.out 0).trans rfl
   have hcz1:w6.cell? ⟨gr,1,none⟩=some (.slice none 0 0):=(blk_cell BK.out 1).trans rfl
   have hfz0:=blk_frozen BK.out 0
   have hfz1:=blk_frozen BK.out 1
   have ha1:w6.cell? ⟨ga,1,none⟩=some (.slice A0_1 l0_1.length c0_1):=(blk_cell BA.out 1).trans rfl
   have hb1:w6.cell? ⟨gb,1,none⟩=some (.slice A1_1 l1_1.length c1_1):=(blk_cell BBx.out 1).trans rfl
   go_wp2
   refine bodyPost_ret (results_ct rfl _ _ gr 26 #[.slice none 0 0,.slice none 0 0] (0,0) _ rfl zq25 Try.underlying26 rfl zqk) rfl ?_
   exact⟨_,_,rfl,Kd.S_nil _ _ _ _ _,Kd.R_nil _ _ _ _ _,zq36⟩
  |true=>
   have HLB:=zqm hB
   clear hB
   go_enter Try.func47,Try.ntmps47
   go_wp2_with (first|((with_reducible refine gate_dst (N:=2) rfl ?_);refine box_event ?hg (N:=2) ?hd (cs:= #[.slice A0_0 l0_0.length c0_0,.slice A0_1 l0_1.length c0_1]) (t:=26) ?hr ?_;(case hd=>rfl);(case hg=>rfl);(case hr=> exact zq9);intro ga hg w1 hbox hb;have n_:=zqm (below_step HB.out hb);clear HB;have HB:=n_;clear n_;have BA:=zqm hbox;have GA:=zqm (show w.heap.size≤ga from zq153);clear hb hbox hg)|((with_reducible refine gate_dst (N:=3) rfl ?_);refine box_event ?hg (N:=3) ?hd (cs:= #[.slice A1_0 l1_0.length c1_0,.slice A1_1 l1_1.length c1_1]) (t:=26) ?hr ?_;(case hd=>rfl);(case hg=>rfl);(case hr=> exact zq9);intro gb hg w2 hbox hb;have n_:=zqm (below_step HB.out hb);have m_:=zqm (blk_below BA.out hb);have GB:=zqm (show w.heap.size≤gb from zq65);clear HB BA;have HB:=n_;have BA:=m_;clear n_ m_;have BBx:=zqm hbox;clear hb hbox hg)|((with_reducible refine gate_dst (N:=4) rfl ?_);refine box_event ?hg (N:=4) ?hd (cs:= #[.slice none 0 0,.slice none 0 0]) (t:=26) ?hr ?_;(case hd=>rfl);(case hg=>rfl);(case hr=> exact zq9);intro gr hg w3 hbox hb;have n_:=zqm (below_step HB.out hb);have m_:=zqm (blk_below BA.out hb);have k_:=zqm (blk_below BBx.out hb);have GR:=zqm (show w.heap.size≤gr from zq65);clear HB BA BBx;have HB:=n_;have BA:=m_;have BBx:=k_;clear n_ m_ k_;have BK:=zqm hbox;clear hb hbox hg))
   refine start_ (n:=6) (S:=(fun w'=>w'.cell? ⟨ga,0,none⟩=some (.slice A0_0 l0_0.length c0_0)∧w'.cell? ⟨ga,1,none⟩=some (.slice A0_1 l0_1.length c0_1)∧w'.cell? ⟨gb,0,none⟩=some (.slice A1_0 l1_0.length c1_0)∧w'.cell? ⟨gb,1,none⟩=some (.slice A1_1 l1_1.length c1_1))) (ds:= []) (zqb 6 0) zqk rfl rfl ⟨(blk_cell (blk_drew BA.out) 0).trans rfl,(blk_cell (blk_drew BA.out) 1).trans rfl,(blk_cell (blk_drew BBx.out) 0).trans rfl,(blk_cell (blk_drew BBx.out) 1).trans rfl⟩ (fun hHeld=>?_)
   refine with_tabW impl_GluedOf.tab1 impl_GluedOf.bits1 (fun HT_ HW_=>?_)
   have n1_:=zqm (below_drew1 HB.out)
   have n2_:=zqm (blk_drew BA.out)
   have n3_:=zqm (blk_drew BBx.out)
   have n4_:=zqm (blk_drew BK.out)
   clear HB BA BBx BK
   have HB:=n1_
   have BA:=n2_
   have BBx:=n3_
   have BK:=n4_
   clear n1_ n2_ n3_ n4_
   generalize w3.drew=w4 at hHeld HB BA BBx BK ⊢
   refine zqw 0 14 (zqb 6 1) HT_ HW_ hHeld ?_
   refine zqw 2 16 (zqb 6 5) HT_ HW_ hHeld ?_
   refine one_ (i:=1) (N:=some 15) (zqb 6 7) rfl rfl (one_of HT_.out zqk) (by decide) (fun K hK=>?_)
   refine goes_ Try.func70 zqk rfl #[.agg #[.slice A0_0 l0_0.length c0_0,.slice A0_1 l0_1.length c0_1]] (by rfl) rfl rfl zq26 ?_
   refine(told_n kf0 _ _ l0_0 _ _ l0_1 _ (Kd.C_below HR0_0.out HB.out) HC0_0.out (Kd.C_below HR0_1.out HB.out) HC0_1.out HF0.out HLA.out).mono ?_
   rintro e w5 ⟨rfl,hb⟩
   refine⟨_,rfl,?_⟩
   have n1_:=zqm (below_step HB.out hb)
   have n2_:=zqm (blk_below BA.out hb)
   have n3_:=zqm (blk_below BBx.out hb)
   have n4_:=zqm (blk_below BK.out hb)
   clear HB BA BBx BK
   have HB:=n1_
   have BA:=n2_
   have BBx:=n3_
   have BK:=n4_
   clear n1_ n2_ n3_ n4_ hb
   refine hK.out _ _ ⟨(blk_cell BA.out 0).trans rfl,(blk_cell BA.out 1).trans rfl,(blk_cell BBx.out 0).trans rfl,(blk_cell BBx.out 1).trans rfl⟩ (fun h5=>?_)
   clear hK K
   refine norm_ (a':=?_) ?_ ?_
   rotate_left
   ·show Act.put _ (some 15) _=_
    simp only [Act.put,List.setIfInBounds_toArray,List.set_cons_zero,List.set_cons_succ,i64_w,i32_w]
    rfl
   refine one_ (i:=3) (N:=some 17) (zqb 6 15) rfl rfl (one_of HT_.out zqk) (by decide) (fun K hK=>?_)
   refine goes_ Try.func70 zqk rfl #[.agg #[.slice A1_0 l1_0.length c1_0,.slice A1_1 l1_1.length c1_1]] (by rfl) rfl rfl zq26 ?_
   refine(told_y kf1 _ _ l1_0 _ _ l1_1 _ (Kd.C_below HR1_0.out HB.out) HC1_0.out (Kd.C_below HR1_1.out HB.out) HC1_1.out HF1.out HLB.out).mono ?_
   rintro e w6 ⟨gB,vgB,rfl,hv,hge,hb⟩
   refine⟨_,rfl,?_⟩
   have HVB:=zqm hv
   have GgB:=zqm (Nat.le_trans (below_size HB.out) hge)
   have n1_:=zqm (below_step HB.out hb)
   have n2_:=zqm (blk_below BA.out hb)
   have n3_:=zqm (blk_below BBx.out hb)
   have n4_:=zqm (blk_below BK.out hb)
   clear HB BA BBx BK
   have HB:=n1_
   have BA:=n2_
   have BBx:=n3_
   have BK:=n4_
   clear n1_ n2_ n3_ n4_ hb hv hge
   refine hK.out _ _ ⟨(blk_cell BA.out 0).trans rfl,(blk_cell BA.out 1).trans rfl,(blk_cell BBx.out 0).trans rfl,(blk_cell BBx.out 1).trans rfl⟩ (fun h6=>?_)
   clear hK K
   refine norm_ (a':=?_) ?_ ?_
   rotate_left
   ·show Act.put _ (some 17) _=_
    simp only [Act.put,List.setIfInBounds_toArray,List.set_cons_zero,List.set_cons_succ,i64_w,i32_w]
    rfl
   refine zqp 4 6 (zqb 6 31) HT_ ?_
   refine zqp 5 7 (zqb 6 63) HT_ ?_
   refine done_ (done_of HT_.out zqk) ?_
   have hcz0:w6.cell? ⟨gr,0,none⟩=some (.slice none 0 0):=(blk_cell BK.out 0).trans rfl
   have hcz1:w6.cell? ⟨gr,1,none⟩=some (.slice none 0 0):=(blk_cell BK.out 1).trans rfl
   have hfz0:=blk_frozen BK.out 0
   have hfz1:=blk_frozen BK.out 1
   have ha1:w6.cell? ⟨ga,1,none⟩=some (.slice A0_1 l0_1.length c0_1):=(blk_cell BA.out 1).trans rfl
   have hb1:w6.cell? ⟨gb,1,none⟩=some (.slice A1_1 l1_1.length c1_1):=(blk_cell BBx.out 1).trans rfl
   go_wp2
   refine bodyPost_ret (results_ct rfl _ _ gr 26 #[.slice none 0 0,.slice none 0 0] (0,0) _ rfl zq25 Try.underlying26 rfl zqk) rfl ?_
   exact⟨_,_,rfl,Kd.S_nil _ _ _ _ _,Kd.R_nil _ _ _ _ _,zq36⟩
 |true=>
 have HLA:=zqm hA
 rw [hA,Bool.true_and] at h
 clear hA
 cases hB:logicB l1_0 l1_1 with
 |false=>
  rw [hB,Bool.false_and,if_neg (by simp)] at h
  simp only [Option.some.injEq,Prod.mk.injEq] at h
  obtain⟨rfl,rfl,rfl⟩:=h
  have HLB:=zqm hB
  clear hB
  go_enter Try.func47,Try.ntmps47
  go_wp2_with (first|((with_reducible refine gate_dst (N:=2) rfl ?_);refine box_event ?hg (N:=2) ?hd (cs:= #[.slice A0_0 l0_0.length c0_0,.slice A0_1 l0_1.length c0_1]) (t:=26) ?hr ?_;(case hd=>rfl);(case hg=>rfl);(case hr=> exact zq9);intro ga hg w1 hbox hb;have n_:=zqm (below_step HB.out hb);clear HB;have HB:=n_;clear n_;have BA:=zqm hbox;have GA:=zqm (show w.heap.size≤ga from zq153);clear hb hbox hg)|((with_reducible refine gate_dst (N:=3) rfl ?_);refine box_event ?hg (N:=3) ?hd (cs:= #[.slice A1_0 l1_0.length c1_0,.slice A1_1 l1_1.length c1_1]) (t:=26) ?hr ?_;(case hd=>rfl);(case hg=>rfl);(case hr=> exact zq9);intro gb hg w2 hbox hb;have n_:=zqm (below_step HB.out hb);have m_:=zqm (blk_below BA.out hb);have GB:=zqm (show w.heap.size≤gb from zq65);clear HB BA;have HB:=n_;have BA:=m_;clear n_ m_;have BBx:=zqm hbox;clear hb hbox hg)|((with_reducible refine gate_dst (N:=4) rfl ?_);refine box_event ?hg (N:=4) ?hd (cs:= #[.slice none 0 0,.slice none 0 0]) (t:=26) ?hr ?_;(case hd=>rfl);(case hg=>rfl);(case hr=> exact zq9);intro gr hg w3 hbox hb;have n_:=zqm (below_step HB.out hb);have m_:=zqm (blk_below BA.out hb);have k_:=zqm (blk_below BBx.out hb);have GR:=zqm (show w.heap.size≤gr from zq65);clear HB BA BBx;have HB:=n_;have BA:=m_;have BBx:=k_;clear n_ m_ k_;have BK:=zqm hbox;clear hb hbox hg))
  refine start_ (n:=6) (S:=(fun w'=>w'.cell? ⟨ga,0,none⟩=some (.slice A0_0 l0_0.length c0_0)∧w'.cell? ⟨ga,1,none⟩=some (.slice A0_1 l0_1.length c0_1)∧w'.cell? ⟨gb,0,none⟩=some (.slice A1_0 l1_0.length c1_0)∧w'.cell? ⟨gb,1,none⟩=some (.slice A1_1 l1_1.length c1_1))) (ds:= []) (zqb 6 0) zqk rfl rfl ⟨(blk_cell (blk_drew BA.out) 0).trans rfl,(blk_cell (blk_drew BA.out) 1).trans rfl,(blk_cell (blk_drew BBx.out) 0).trans rfl,(blk_cell (blk_drew BBx.out) 1).trans rfl⟩ (fun hHeld=>?_)
  refine with_tabW impl_GluedOf.tab1 impl_GluedOf.bits1 (fun HT_ HW_=>?_)
  have n1_:=zqm (below_drew1 HB.out)
  have n2_:=zqm (blk_drew BA.out)
  have n3_:=zqm (blk_drew BBx.out)
  have n4_:=zqm (blk_drew BK.out)
  clear HB BA BBx BK
  have HB:=n1_
  have BA:=n2_
  have BBx:=n3_
  have BK:=n4_
  clear n1_ n2_ n3_ n4_
  generalize w3.drew=w4 at hHeld HB BA BBx BK ⊢
  refine zqw 0 14 (zqb 6 1) HT_ HW_ hHeld ?_
  refine zqw 2 16 (zqb 6 5) HT_ HW_ hHeld ?_
  refine one_ (i:=1) (N:=some 15) (zqb 6 7) rfl rfl (one_of HT_.out zqk) (by decide) (fun K hK=>?_)
  refine goes_ Try.func70 zqk rfl #[.agg #[.slice A0_0 l0_0.length c0_0,.slice A0_1 l0_1.length c0_1]] (by rfl) rfl rfl zq26 ?_
  refine(told_y kf0 _ _ l0_0 _ _ l0_1 _ (Kd.C_below HR0_0.out HB.out) HC0_0.out (Kd.C_below HR0_1.out HB.out) HC0_1.out HF0.out HLA.out).mono ?_
  rintro e w5 ⟨gA,vgA,rfl,hv,hge,hb⟩
  refine⟨_,rfl,?_⟩
  have HVA:=zqm hv
  have GgA:=zqm (Nat.le_trans (below_size HB.out) hge)
  have n1_:=zqm (below_step HB.out hb)
  have n2_:=zqm (blk_below BA.out hb)
  have n3_:=zqm (blk_below BBx.out hb)
  have n4_:=zqm (blk_below BK.out hb)
  clear HB BA BBx BK
  have HB:=n1_
  have BA:=n2_
  have BBx:=n3_
  have BK:=n4_
  clear n1_ n2_ n3_ n4_ hb hv hge
  refine hK.out _ _ ⟨(blk_cell BA.out 0).trans rfl,(blk_cell BA.out 1).trans rfl,(blk_cell BBx.out 0).trans rfl,(blk_cell BBx.out 1).trans rfl⟩ (fun h5=>?_)
  clear hK K
  refine norm_ (a':=?_) ?_ ?_
  rotate_left
  ·show Act.put _ (some 15) _=_
   simp only [Act.put,List.setIfInBounds_toArray,List.set_cons_zero,List.set_cons_succ,i64_w,i32_w]
   rfl
  refine one_ (i:=3) (N:=some 17) (zqb 6 15) rfl rfl (one_of HT_.out zqk) (by decide) (fun K hK=>?_)
  refine goes_ Try.func70 zqk rfl #[.agg #[.slice A1_0 l1_0.length c1_0,.slice A1_1 l1_1.length c1_1]] (by rfl) rfl rfl zq26 ?_
  refine(told_n kf1 _ _ l1_0 _ _ l1_1 _ (Kd.C_below HR1_0.out HB.out) HC1_0.out (Kd.C_below HR1_1.out HB.out) HC1_1.out HF1.out HLB.out).mono ?_
  rintro e w6 ⟨rfl,hb⟩
  refine⟨_,rfl,?_⟩
  have n0_:=zqm (HVA.out.below hb)
  skip
  clear HVA
  have HVA:=n0_
  clear n0_
  have n1_:=zqm (below_step HB.out hb)
  have n2_:=zqm (blk_below BA.out hb)
  have n3_:=zqm (blk_below BBx.out hb)
  have n4_:=zqm (blk_below BK.out hb)
  clear HB BA BBx BK
  have HB:=n1_
  have BA:=n2_
  have BBx:=n3_
  have BK:=n4_
  clear n1_ n2_ n3_ n4_ hb
  refine hK.out _ _ ⟨(blk_cell BA.out 0).trans rfl,(blk_cell BA.out 1).trans rfl,(blk_cell BBx.out 0).trans rfl,(blk_cell BBx.out 1).trans rfl⟩ (fun h6=>?_)
  clear hK K
  refine norm_ (a':=?_) ?_ ?_
  rotate_left
  ·show Act.put _ (some 17) _=_
   simp only [Act.put,List.setIfInBounds_toArray,List.set_cons_zero,List.set_cons_succ,i64_w,i32_w]
   rfl
  refine zqp 4 6 (zqb 6 31) HT_ ?_
  refine zqp 5 7 (zqb 6 63) HT_ ?_
  refine done_ (done_of HT_.out zqk) ?_
  have hcz0:w6.cell? ⟨gr,0,none⟩=some (.slice none 0 0):=(blk_cell BK.out 0).trans rfl
  have hcz1:w6.cell? ⟨gr,1,none⟩=some (.slice none 0 0):=(blk_cell BK.out 1).trans rfl
  have hfz0:=blk_frozen BK.out 0
  have hfz1:=blk_frozen BK.out 1
  have ha1:w6.cell? ⟨ga,1,none⟩=some (.slice A0_1 l0_1.length c0_1):=(blk_cell BA.out 1).trans rfl
  have hb1:w6.cell? ⟨gb,1,none⟩=some (.slice A1_1 l1_1.length c1_1):=(blk_cell BBx.out 1).trans rfl
  go_wp2
  refine bodyPost_ret (results_ct rfl _ _ gr 26 #[.slice none 0 0,.slice none 0 0] (0,0) _ rfl zq25 Try.underlying26 rfl zqk) rfl ?_
  exact⟨_,_,rfl,Kd.S_nil _ _ _ _ _,Kd.R_nil _ _ _ _ _,zq36⟩
 |true=>
 have HLB:=zqm hB
 rw [hB,Bool.true_and] at h
 clear hB
 by_cases h2a:2≤l0_1.length
 ·rw [decide_eq_true h2a,Bool.true_and] at h
  have p1:((l0_1.length:Int)<2)=False:=eq_false (by omega)
  have p1':(l0_1.length<2)=False:=eq_false (by omega)
  have H2A:=zqm h2a
  clear h2a
  by_cases h2b:2≤l1_1.length
  ·rw [decide_eq_true h2b,Bool.true_and] at h
   have p2:((l1_1.length:Int)<2)=False:=eq_false (by omega)
   have p2':(l1_1.length<2)=False:=eq_false (by omega)
   have H2B:=zqm h2b
   clear h2b
   obtain⟨tot,htot⟩: ∃tot:Int,tot=wrap64 (wrap64 ((l0_1.length:Int)+(l1_1.length:Int)) - 2):=⟨_,rfl⟩
   have HSA:=zqm (show l0_1.length≤12 from by have:=(logicB_iff.1 HLA.out).len;have:=(logicB_iff.1 HLA.out).small;omega)
   have HSB:=zqm (show l1_1.length≤12 from by have:=(logicB_iff.1 HLB.out).len;have:=(logicB_iff.1 HLB.out).small;omega)
   have htot2:tot=(l0_1.length:Int)+(l1_1.length:Int) - 2:=by
    rw [htot]
    have:=HSA.out
    have:=HSB.out
    rw [wrap_small (x:=(l0_1.length:Int)+(l1_1.length:Int)) (by omega) (by omega)]
    have:=H2A.out
    exact wrap_small (by omega) (by omega)
   have HT:=zqm htot2
   have htot':=htot.symm
   clear htot htot2
   by_cases h14:l0_1.length+l1_1.length≤14
   ·rw [decide_eq_true h14,if_pos rfl] at h
    have p3:(12<tot)=False:=eq_false (by have:=HT.out;omega)
    have p3':decide (12<tot)=false:=decide_eq_false (by have:=HT.out;omega)
    have H14:=zqm h14
    obtain⟨rr,hmade,hrr⟩:=Option.map_eq_some_iff.1 h
    obtain⟨m1,m2⟩:=rr
    simp only [Prod.mk.injEq] at hrr
    obtain⟨rfl,rfl,rfl⟩:=hrr
    have HMADE:=zqm hmade
    clear h14 h hmade
    go_enter Try.func47,Try.ntmps47
    go_wp2_with (first|((with_reducible refine gate_dst (N:=2) rfl ?_);refine box_event ?hg (N:=2) ?hd (cs:= #[.slice A0_0 l0_0.length c0_0,.slice A0_1 l0_1.length c0_1]) (t:=26) ?hr ?_;(case hd=>rfl);(case hg=>rfl);(case hr=> exact zq9);intro ga hg w1 hbox hb;have n_:=zqm (below_step HB.out hb);clear HB;have HB:=n_;clear n_;have BA:=zqm hbox;have GA:=zqm (show w.heap.size≤ga from zq153);clear hb hbox hg)|((with_reducible refine gate_dst (N:=3) rfl ?_);refine box_event ?hg (N:=3) ?hd (cs:= #[.slice A1_0 l1_0.length c1_0,.slice A1_1 l1_1.length c1_1]) (t:=26) ?hr ?_;(case hd=>rfl);(case hg=>rfl);(case hr=> exact zq9);intro gb hg w2 hbox hb;have n_:=zqm (below_step HB.out hb);have m_:=zqm (blk_below BA.out hb);have GB:=zqm (show w.heap.size≤gb from zq65);clear HB BA;have HB:=n_;have BA:=m_;clear n_ m_;have BBx:=zqm hbox;clear hb hbox hg)|((with_reducible refine gate_dst (N:=4) rfl ?_);refine box_event ?hg (N:=4) ?hd (cs:= #[.slice none 0 0,.slice none 0 0]) (t:=26) ?hr ?_;(case hd=>rfl);(case hg=>rfl);(case hr=> exact zq9);intro gr hg w3 hbox hb;have n_:=zqm (below_step HB.out hb);have m_:=zqm (blk_below BA.out hb);have k_:=zqm (blk_below BBx.out hb);have GR:=zqm (show w.heap.size≤gr from zq65);clear HB BA BBx;have HB:=n_;have BA:=m_;have BBx:=k_;clear n_ m_ k_;have BK:=zqm hbox;clear hb hbox hg))
    refine start_ (n:=6) (S:=(fun w'=>w'.cell? ⟨ga,0,none⟩=some (.slice A0_0 l0_0.length c0_0)∧w'.cell? ⟨ga,1,none⟩=some (.slice A0_1 l0_1.length c0_1)∧w'.cell? ⟨gb,0,none⟩=some (.slice A1_0 l1_0.length c1_0)∧w'.cell? ⟨gb,1,none⟩=some (.slice A1_1 l1_1.length c1_1))) (ds:= []) (zqb 6 0) zqk rfl rfl ⟨(blk_cell (blk_drew BA.out) 0).trans rfl,(blk_cell (blk_drew BA.out) 1).trans rfl,(blk_cell (blk_drew BBx.out) 0).trans rfl,(blk_cell (blk_drew BBx.out) 1).trans rfl⟩ (fun hHeld=>?_)
    refine with_tabW impl_GluedOf.tab1 impl_GluedOf.bits1 (fun HT_ HW_=>?_)
    have n1_:=zqm (below_drew1 HB.out)
    have n2_:=zqm (blk_drew BA.out)
    have n3_:=zqm (blk_drew BBx.out)
    have n4_:=zqm (blk_drew BK.out)
    clear HB BA BBx BK
    have HB:=n1_
    have BA:=n2_
    have BBx:=n3_
    have BK:=n4_
    clear n1_ n2_ n3_ n4_
    generalize w3.drew=w4 at hHeld HB BA BBx BK ⊢
    refine zqw 0 14 (zqb 6 1) HT_ HW_ hHeld ?_
    refine zqw 2 16 (zqb 6 5) HT_ HW_ hHeld ?_
    refine one_ (i:=1) (N:=some 15) (zqb 6 7) rfl rfl (one_of HT_.out zqk) (by decide) (fun K hK=>?_)
    refine goes_ Try.func70 zqk rfl #[.agg #[.slice A0_0 l0_0.length c0_0,.slice A0_1 l0_1.length c0_1]] (by rfl) rfl rfl zq26 ?_
    refine(told_y kf0 _ _ l0_0 _ _ l0_1 _ (Kd.C_below HR0_0.out HB.out) HC0_0.out (Kd.C_below HR0_1.out HB.out) HC0_1.out HF0.out HLA.out).mono ?_
    rintro e w5 ⟨gA,vgA,rfl,hv,hge,hb⟩
    refine⟨_,rfl,?_⟩
    have HVA:=zqm hv
    have GgA:=zqm (Nat.le_trans (below_size HB.out) hge)
    have n1_:=zqm (below_step HB.out hb)
    have n2_:=zqm (blk_below BA.out hb)
    have n3_:=zqm (blk_below BBx.out hb)
    have n4_:=zqm (blk_below BK.out hb)
    clear HB BA BBx BK
    have HB:=n1_
    have BA:=n2_
    have BBx:=n3_
    have BK:=n4_
    clear n1_ n2_ n3_ n4_ hb hv hge
    refine hK.out _ _ ⟨(blk_cell BA.out 0).trans rfl,(blk_cell BA.out 1).trans rfl,(blk_cell BBx.out 0).trans rfl,(blk_cell BBx.out 1).trans rfl⟩ (fun h5=>?_)
    clear hK K
    refine norm_ (a':=?_) ?_ ?_
    rotate_left
    ·show Act.put _ (some 15) _=_
     simp only [Act.put,List.setIfInBounds_toArray,List.set_cons_zero,List.set_cons_succ,i64_w,i32_w]
     rfl
    refine one_ (i:=3) (N:=some 17) (zqb 6 15) rfl rfl (one_of HT_.out zqk) (by decide) (fun K hK=>?_)
    refine goes_ Try.func70 zqk rfl #[.agg #[.slice A1_0 l1_0.length c1_0,.slice A1_1 l1_1.length c1_1]] (by rfl) rfl rfl zq26 ?_
    refine(told_y kf1 _ _ l1_0 _ _ l1_1 _ (Kd.C_below HR1_0.out HB.out) HC1_0.out (Kd.C_below HR1_1.out HB.out) HC1_1.out HF1.out HLB.out).mono ?_
    rintro e w6 ⟨gB,vgB,rfl,hv,hge,hb⟩
    refine⟨_,rfl,?_⟩
    have HVB:=zqm hv
    have GgB:=zqm (Nat.le_trans (below_size HB.out) hge)
    have n0_:=zqm (HVA.out.below hb)
    have HNE:=zqm (show gA≠gB from fun e=>by have h1:=HVA.out.blk;have h2:gA<w5.heap.size:=blk_lt h1;have h3:=hge;omega)
    clear HVA
    have HVA:=n0_
    clear n0_
    have n1_:=zqm (below_step HB.out hb)
    have n2_:=zqm (blk_below BA.out hb)
    have n3_:=zqm (blk_below BBx.out hb)
    have n4_:=zqm (blk_below BK.out hb)
    clear HB BA BBx BK
    have HB:=n1_
    have BA:=n2_
    have BBx:=n3_
    have BK:=n4_
    clear n1_ n2_ n3_ n4_ hb hv hge
    refine hK.out _ _ ⟨(blk_cell BA.out 0).trans rfl,(blk_cell BA.out 1).trans rfl,(blk_cell BBx.out 0).trans rfl,(blk_cell BBx.out 1).trans rfl⟩ (fun h6=>?_)
    clear hK K
    refine norm_ (a':=?_) ?_ ?_
    rotate_left
    ·show Act.put _ (some 17) _=_
     simp only [Act.put,List.setIfInBounds_toArray,List.set_cons_zero,List.set_cons_succ,i64_w,i32_w]
     rfl
    refine zqp 4 6 (zqb 6 31) HT_ ?_
    refine zqp 5 7 (zqb 6 63) HT_ ?_
    refine done_ (done_of HT_.out zqk) ?_
    have hcz0:w6.cell? ⟨gr,0,none⟩=some (.slice none 0 0):=(blk_cell BK.out 0).trans rfl
    have hcz1:w6.cell? ⟨gr,1,none⟩=some (.slice none 0 0):=(blk_cell BK.out 1).trans rfl
    have hfz0:=blk_frozen BK.out 0
    have hfz1:=blk_frozen BK.out 1
    have ha1:w6.cell? ⟨ga,1,none⟩=some (.slice A0_1 l0_1.length c0_1):=(blk_cell BA.out 1).trans rfl
    have hb1:w6.cell? ⟨gb,1,none⟩=some (.slice A1_1 l1_1.length c1_1):=(blk_cell BBx.out 1).trans rfl
    go_wp2_with (first|((with_reducible refine gate_dst (N:=48) rfl ?_);refine Kd.R_lit ptrK _ 67 ?hg (N:=48) ?hd (xs:= [none]) (inner:= [.pointer none]) (ok:=fun _=>True) (okp:=fun _=>True) ?hr ?hp (fun _ hk=>hk) trivial (Below.refl _ _) (Nat.le_refl _) (by simp) ?_;(case hd=>rfl);(case hg=>rfl);(case hr=> exact zq9);(case hp=>exact(Reps.one (show Kd.M ptrK _ _ _ none [.pointer none] from rfl) (Reps.none _ _)));intro u_ w7 ho hb hg_ hnew_;obtain⟨p0,cp,rfl,_,hp0,_⟩:=Kd.R_form ho (by simp);have H6:=zqm hb;have HO:=zqm ho;have HP:=zqm hp0;clear ho hb hg_ hnew_ hp0)|((with_reducible refine gate_dst (N:=49) rfl ?_);refine Kd.R_lit (Kd.int .i64) _ 3 ?hg (N:=49) ?hd (xs:= [0]) (inner:= [.int .i64 0]) (ok:=fun _=>True) (okp:=fun _=>True) ?hr ?hp (fun _ hk=>hk) trivial (Below.refl _ _) (Nat.le_refl _) (by simp) ?_;(case hd=>rfl);(case hg=>rfl);(case hr=> exact zq9);(case hp=>exact(Reps.one (show Kd.M (Kd.int .i64) _ _ _ 0 [.int .i64 0] from rfl) (Reps.none _ _)));intro u_ w8 ho hb hg_ hnew_;obtain⟨q0,cq,rfl,hp0,_⟩:=Kd.R_form ho (by simp);have HI:=zqm (Kd.R_lower ho (below_size H6.out));have n0_:=zqm (below_step H6.out hb);have n1_:=zqm (Kd.R_below HO.out hb);have n2_:=zqm (Nat.lt_of_lt_of_le HP.out (below_size hb));clear H6 HO HP;have H6:=n0_;have HO:=n1_;have HP:=n2_;clear n0_ n1_ n2_;clear ho hb hg_ hnew_ hp0)|((with_reducible refine gate_dst (N:=8) rfl ?_);refine box_event ?hg (N:=8) ?hd (cs:= #[.slice none 0 0]) (t:=101) ?hr ?_;(case hd=>rfl);(case hg=>rfl);(case hr=> exact zq9);intro gO hg w9 hbox hb;have GO:=zqm (show w6.heap.size≤gO from by rw [hg];exact below_size H6.out);have n0_:=zqm (below_step H6.out hb);have n1_:=zqm (Kd.R_below HO.out hb);have n2_:=zqm (Nat.lt_of_lt_of_le HP.out (below_size hb));have n3_:=zqm (Kd.R_below HI.out hb);have n4_:=zqm (hbox);clear H6 HO HP HI;have H6:=n0_;have HO:=n1_;have HP:=n2_;have HI:=n3_;have BO:=n4_;clear n0_ n1_ n2_ n3_ n4_;clear hbox hb hg)|((with_reducible refine gate_dst (N:=9) rfl ?_);refine box_event ?hg (N:=9) ?hd (cs:= #[.slice none 0 0]) (t:=24) ?hr ?_;(case hd=>rfl);(case hg=>rfl);(case hr=> exact zq9);intro gI hg w10 hbox hb;have GI:=zqm (show w6.heap.size≤gI from by rw [hg];exact below_size H6.out);have GNE:=zqm (show gO≠gI from by have h1:=blk_lt BO.out;omega);have n0_:=zqm (below_step H6.out hb);have n1_:=zqm (Kd.R_below HO.out hb);have n2_:=zqm (Nat.lt_of_lt_of_le HP.out (below_size hb));have n3_:=zqm (Kd.R_below HI.out hb);have n4_:=zqm (blk_below BO.out hb);have n5_:=zqm (hbox);clear H6 HO HP HI BO;have H6:=n0_;have HO:=n1_;have HP:=n2_;have HI:=n3_;have BO:=n4_;have BI:=n5_;clear n0_ n1_ n2_ n3_ n4_ n5_;clear hbox hb hg;have hcO:w10.cell? ⟨gO,0,none⟩=some (.slice none 0 0):=(blk_cell BO.out 0).trans rfl;have hfO:=blk_frozen BO.out 0;have hcI:w10.cell? ⟨gI,0,none⟩=some (.slice none 0 0):=(blk_cell BI.out 0).trans rfl;have hfI:=blk_frozen BI.out 0;have d1:(gO=gI)=False:=eq_false GNE.out;have d2:(gI=gO)=False:=eq_false (fun e=>GNE.out e.symm);have hcI2:(w10.setCell ⟨gO,0,none⟩ (.slice (some ⟨p0,0,none⟩) 1 cp)).cell? ⟨gI,0,none⟩=some (.slice none 0 0):=(World.cell?_setCell_far w10 ⟨gO,0,none⟩ ⟨gI,0,none⟩ _ GNE.out).trans hcI)|((with_reducible refine gate_dst (N:=52) rfl ?_);refine lit_event ?hg (N:=52) ?hd (cs:= #[.pointer (some ⟨gA,0,none⟩),.pointer (some ⟨gB,0,none⟩)]) (t:=67) (n:=2) ?hr ?_;(case hd=>rfl);(case hg=>rfl);(case hr=> exact zq9);intro r0 hg w11 hbox hb;have RR:=zqm hbox;have RB:=zqm hb;have RG:=zqm hg;clear hbox hb hg))
    have h1:=blk_far BI.out (p:=⟨gO,0,none⟩) GNE.out.symm (.slice (some ⟨p0,0,none⟩) [(none:Option Addr)].length cp)
    have HJ:=zqm (show GluJ w6 gO gI r0 gA gB [none] [0] p0 q0 cp cq w11 from ⟨below_step (below_set (below_set H6.out GO.out) GI.out) RB.out,blk_below (blk_far (one_setCell BO.out) (p:=⟨gI,0,none⟩) GNE.out _) RB.out,blk_below (one_setCell h1) RB.out,Kd.R_reok rfl (Kd.R_below (Kd.R_set (Kd.R_set HO.out BO.out (by decide) 0 _) h1 (by decide) 0 _) RB.out) (fun k hk=>by have h2:=HP.out;have h3:p0=k:=Option.some.inj hk;have h4:=RG.out;rw [World.size_setCell,World.size_setCell] at h4;omega),Kd.R_below (Kd.R_set (Kd.R_set HI.out BO.out (by decide) 0 _) h1 (by decide) 0 _) RB.out,RR.out⟩)
    clear h1 hcO hfO hcI hcI2 hfI H6 HO HI BO BI HP RR RB RG
    go_loopg [54] 3 (fun kq v54 W=> ∃(j p q cp cq:Nat),v54= .int .i64 j∧Aside0 (j+kq=3)∧Aside0 (j≤2)∧Aside0 (GluJ w6 gO gI r0 gA gB ((gluSS l0_0 l0_1 l1_0 l1_1 j).map (sdP gA gB)) (gluKS l0_0 l0_1 l1_0 l1_1 j) p q cp cq W))
    case atStart=>exact⟨0,p0,q0,cp,cq,rfl,⟨by omega⟩,⟨by omega⟩,HJ⟩
    case round=>
     clear HJ
     obtain⟨j,p,q,cp,cq,rfl,HK,HK2,HJ⟩:=hrel
     cases gk with
     |zero=>exact absurd HK.out (by have:=HK2.out;omega)
     |succ kn=>
     by_cases hlt:j<2
     ·have hlt':decide ((j:Int)<2)=true:=decide_eq_true (by omega)
      have hlt'':decide (j<2)=true:=decide_eq_true hlt
      have q1_:(j<2)=True:=eq_true hlt
      have q2_:(2≤j)=False:=eq_false (by omega)
      have q3_:((2:Int)≤(j:Int))=False:=eq_false (by omega)
      have HLT:=zqm hlt
      obtain⟨g,U',N',v,hcell,hv,hlg,hsd,hss,hks⟩:=glu_data (U:=l0_0) (N:=l0_1) (V:=l1_0) (M:=l1_1) (logicB_iff.1 HLA.out) (logicB_iff.1 HLB.out) HVA.out HVB.out hlt
      have HV:=zqm hv
      have HLG:=zqm hlg
      have HSD:=zqm hsd
      have HSS:=zqm hss
      have HKS:=zqm hks
      have HSM:=zqm hlg.small
      have hl_:wr.cell? ⟨r0,j,none⟩=some (.pointer (some ⟨g,0,none⟩)):=(blk_cell HJ.out.hL j).trans hcell
      have hf0:=(HV.out.below HJ.out.hb).f0
      clear hcell hv hlg hsd hss hks
      go_wp2_with fail
      go_loopg [63] (U'.length+1) (fun kq v63 W=> ∃(k p q cp cq:Nat),v63= .int .i64 k∧Aside0 (k+kq=U'.length+1)∧Aside0 (k≤U'.length)∧Aside0 (GluJ w6 gO gI r0 gA gB ((gluSS l0_0 l0_1 l1_0 l1_1 j ++ (filI k (midB U' N')).map (fun _=>j+1)).map (sdP gA gB)) (gluKS l0_0 l0_1 l1_0 l1_1 j ++ filI k (midB U' N')) p q cp cq W))
      case atStart=>exact⟨0,p,q,cp,cq,rfl,⟨by omega⟩,⟨by omega⟩,⟨by simpa [filI] using HJ.out⟩⟩
      case round=>
       clear HJ hf0 hl_
       obtain⟨k,p,q,cp,cq,rfl,HKk,HKk2,HJ⟩:=hrel
       cases gk with
       |zero=>exact absurd HKk.out (by have:=HKk2.out;omega)
       |succ kk=>
       by_cases hlk:k<U'.length
       ·have hlk':decide (k<U'.length)=true:=decide_eq_true hlk
        have HLK:=zqm hlk
        clear hlk
        have f4_:=(HV.out.below HJ.out.hb).f4
        have f5_:=(HV.out.below HJ.out.hb).f5
        obtain⟨nv,hnv⟩: ∃nv,nv=noI U':=⟨_,rfl⟩
        obtain⟨yv,hyv⟩: ∃yv,yv=yesI U' N':=⟨_,rfl⟩
        rw [← hnv] at f4_
        rw [← hyv] at f5_
        by_cases c1:(k:Int)=nv
        ·have e1_:((k:Int) !=nv)=false:=by simp [c1]
         have HM:=zqm (show midB U' N' k=false from by unfold midB;rw [← hnv,← hyv];simp [c1])
         clear c1 hnv hyv
         go_wp2_with fail
         go_roundg kk
         case measure=>omega
         case rel=>exact⟨k+1,p,q,cp,cq,zq140,⟨by have:=HKk.out;omega⟩,⟨by have:=HLK.out;omega⟩,⟨by rw [filI_succ,if_neg (by rw [HM.out];simp)];exact HJ.out⟩⟩
        ·have e1_:((k:Int) !=nv)=true:=by simpa using c1
         by_cases c2:(k:Int)=yv
         ·have e2_:((k:Int) !=yv)=false:=by simp [c2]
          have HM:=zqm (show midB U' N' k=false from by unfold midB;rw [← hnv,← hyv];simp [c2])
          clear c1 hnv hyv c2
          go_wp2_with fail
          go_roundg kk
          case measure=>omega
          case rel=>exact⟨k+1,p,q,cp,cq,zq140,⟨by have:=HKk.out;omega⟩,⟨by have:=HLK.out;omega⟩,⟨by rw [filI_succ,if_neg (by rw [HM.out];simp)];exact HJ.out⟩⟩
         ·have e2_:((k:Int) !=yv)=true:=by simpa using c2
          have HM:=zqm (show midB U' N' k=true from by unfold midB;rw [← hnv,← hyv];simp [c1,c2])
          clear c1 c2 hnv hyv
          obtain⟨xs,hxs⟩: ∃xs,xs=((gluSS l0_0 l0_1 l1_0 l1_1 j ++ (filI k (midB U' N')).map (fun _=>j+1)).map (sdP gA gB)):=⟨_,rfl⟩
          obtain⟨ys,hys⟩: ∃ys,ys=gluKS l0_0 l0_1 l1_0 l1_1 j ++ filI k (midB U' N'):=⟨_,rfl⟩
          have HJx:=zqm (show GluJ w6 gO gI r0 gA gB xs ys p q cp cq _ from by rw [hxs,hys];exact HJ.out)
          have HLN:=zqm (gluSS_len l0_0 l0_1 l1_0 l1_1 j)
          have HML:=zqm (mid_len U' N' k)
          have HXL:=zqm (show xs.length≤1000∧0<xs.length from by rw [hxs];have h1:=HLN.out;have h2:=HML.out;have h3:=HLK.out;have h4:=HSM.out;have h5:=(logicB_iff.1 HLA.out).small;have h6:=(logicB_iff.1 HLB.out).small;simp only [List.length_map,List.length_append];omega)
          have HYL:=zqm (show ys.length≤1000∧0<ys.length from by rw [hys];have h1:=HLN.out;have h2:=HML.out;have h3:=HLK.out;have h4:=HSM.out;have h5:=(logicB_iff.1 HLA.out).small;have h6:=(logicB_iff.1 HLB.out).small;simp only [List.length_append];omega)
          have HXP:=zqm HXL.out.2
          have HYP:=zqm HYL.out.2
          have HXS:=zqm hxs
          have HYS:=zqm hys
          have h0_:=(blk_cell HJx.out.bO 0).trans rfl
          clear hxs hys HJ h0_
          go_wp2_with fail
          have HJd:=zqm (HJx.out.below (below_drew1 (Below.refl _ _)))
          refine start_ (n:=10) (S:=(fun w'=>w'.cell? ⟨gO,0,none⟩=some (.slice (some ⟨p,0,none⟩) xs.length cp)∧w'.cell? ⟨gI,0,none⟩=some (.slice (some ⟨q,0,none⟩) ys.length cq))) (ds:= [8,9]) (zqb 10 0) zqk rfl rfl ⟨(blk_cell HJd.out.bO 0).trans rfl,(blk_cell HJd.out.bI 0).trans rfl⟩ (fun hHeld=>?_)
          refine with_tabW impl_GluedOf.tab12 impl_GluedOf.bits12 (fun HT_ HW_=>?_)
          clear HJx
          generalize wr.drew=wd at hHeld HJd ⊢
          refine zqw 0 80 (zqb 10 1) HT_ HW_ hHeld ?_
          refine zqp 1 81 (zqb 10 3) HT_ ?_
          refine zqw 4 84 (zqb 10 19) HT_ HW_ hHeld ?_
          refine zqp 5 85 (zqb 10 51) HT_ ?_
          refine join_ (σ:=Nat × Value × Nat) 3 (zqb 10 127) (fun s=> [(82,.slice (some ⟨s.1,0,none⟩) 1 1),(83,s.2.1),(86,.slice (some ⟨s.2.2,0,none⟩) 1 1)]) (fun s W=>GluK w6 gO gI r0 gA gB xs ((some ⟨g,0,none⟩):Option Addr) ys (k:Int) p q cp cq s.2.1 s.2.2 W) ?cont ?paths
          case paths=>
           intro hjoin
           have HJN:=zqm hjoin
           clear hjoin
           refine two_ (i:=2) (j:=6) (Ni:=some 82) (Nj:=some 86) (zqb 10 55) (zqb 10 115) rfl rfl rfl rfl zqk (by decide) (by decide) (fun K hK=>?_) (fun K hK=>?_)
           ·skip
            refine event_step (w1:=World.alloc wd (.cells #[.pointer ((some ⟨g,0,none⟩):Option Addr)] 67)) (v:= .slice (some ⟨(wd).heap.size,0,none⟩) 1 1) (by rfl) ?hr1 ?_
            case hr1=>first|(go_simp;done)|(go_simp;rfl)
            refine hK.out _ _ ⟨(blk_cell ((HJd.out.below (below_alloc (Below.refl _ _) (.cells #[.pointer ((some ⟨g,0,none⟩):Option Addr)] 67)))).bO 0).trans rfl,(blk_cell ((HJd.out.below (below_alloc (Below.refl _ _) (.cells #[.pointer ((some ⟨g,0,none⟩):Option Addr)] 67)))).bI 0).trans rfl⟩ (fun hH1=>?_)
            clear hK K
            refine norm_ (a':=?_) ?_ ?_
            rotate_left
            ·show Act.put _ (some 82) _=_
             simp only [Act.put,List.setIfInBounds_toArray,List.set_cons_zero,List.set_cons_succ,i64_w,i32_w]
             rfl
            refine two_ (i:=3) (j:=6) (Ni:=some 83) (Nj:=some 86) (zqb 10 63) (zqb 10 119) rfl rfl rfl rfl zqk (by decide) (by decide) (fun K hK=>?_) (fun K hK=>?_)
            ·skip
             refine app_at ptrK (w0:=w6) w6.heap.size (by rfl) (.tmp 80) (.tmp 82) 101 67 (.pointer none) 8 rfl Try.underlying101 infoPtr rfl rfl (by omega) (.slice (some ⟨p,0,none⟩) xs.length cp) xs ((some ⟨g,0,none⟩):Option Addr) (.pointer ((some ⟨g,0,none⟩):Option Addr)) (fun k=>k≠r0) (fun _=>False) rfl wd.heap.size rfl (blk_new _ _) rfl rfl (fun _ hk=>hk.elim) (fun kz hk=>by have h1:=blk_lt (HJd.out.below (below_alloc (Below.refl _ _) (.cells #[.pointer ((some ⟨g,0,none⟩):Option Addr)] 67))).hL;omega) (HJd.out.below (below_alloc (Below.refl _ _) (.cells #[.pointer ((some ⟨g,0,none⟩):Option Addr)] 67))).rO (HJd.out.below (below_alloc (Below.refl _ _) (.cells #[.pointer ((some ⟨g,0,none⟩):Option Addr)] 67))).hb (below_size (HJd.out.below (below_alloc (Below.refl _ _) (.cells #[.pointer ((some ⟨g,0,none⟩):Option Addr)] 67))).hb) (by have:=HXL.out;omega) ?_
             intro v1 w13 ho hb hg
             have GK:=fun W2 (e:W2=World.alloc w13 (.cells #[.int .i64 (k:Int)] 3))=>GluJ.app0 (kv:=(k:Int)) (HJd.out.below (below_alloc (Below.refl _ _) (.cells #[.pointer ((some ⟨g,0,none⟩):Option Addr)] 67))) HXP.out hg hb ho e
             have hS1:=(⟨(blk_cell (blk_grown (HJd.out.below (below_alloc (Below.refl _ _) (.cells #[.pointer ((some ⟨g,0,none⟩):Option Addr)] 67))).bO hg (Kd.R_ne (HJd.out.below (below_alloc (Below.refl _ _) (.cells #[.pointer ((some ⟨g,0,none⟩):Option Addr)] 67))).rO (HJd.out.below (below_alloc (Below.refl _ _) (.cells #[.pointer ((some ⟨g,0,none⟩):Option Addr)] 67))).bO (by decide))) 0).trans rfl,(blk_cell (blk_grown (HJd.out.below (below_alloc (Below.refl _ _) (.cells #[.pointer ((some ⟨g,0,none⟩):Option Addr)] 67))).bI hg (Kd.R_ne (HJd.out.below (below_alloc (Below.refl _ _) (.cells #[.pointer ((some ⟨g,0,none⟩):Option Addr)] 67))).rO (HJd.out.below (below_alloc (Below.refl _ _) (.cells #[.pointer ((some ⟨g,0,none⟩):Option Addr)] 67))).bI (by decide))) 0).trans rfl⟩:w13.cell? ⟨gO,0,none⟩=some (.slice (some ⟨p,0,none⟩) xs.length cp)∧w13.cell? ⟨gI,0,none⟩=some (.slice (some ⟨q,0,none⟩) ys.length cq))
             refine hK.out _ _ hS1 (fun hH2=>?_)
             clear hK K
             refine norm_ (a':=?_) ?_ ?_
             rotate_left
             ·show Act.put _ (some 83) _=_
              simp only [Act.put,List.setIfInBounds_toArray,List.set_cons_zero,List.set_cons_succ,i64_w,i32_w]
              rfl
             refine one_ (i:=6) (N:=some 86) (zqb 10 127) rfl rfl (one_of HT_.out zqk) (by decide) (fun K hK=>?_)
             refine event_step (w1:=World.alloc w13 (.cells #[.int .i64 (k:Int)] 3)) (v:= .slice (some ⟨(w13).heap.size,0,none⟩) 1 1) (by rfl) ?hr1 ?_
             case hr1=>first|(go_simp;done)|(go_simp;rfl)
             refine hK.out _ _ ⟨(blk_cell (GK _ rfl).bO 0).trans rfl,(blk_cell (GK _ rfl).bI 0).trans rfl⟩ (fun hH3=>?_)
             clear hK K
             refine norm_ (a':=?_) ?_ ?_
             rotate_left
             ·show Act.put _ (some 86) _=_
              simp only [Act.put,List.setIfInBounds_toArray,List.set_cons_zero,List.set_cons_succ,i64_w,i32_w]
              rfl
             refine norm_ ?_ (HJN.out (wd.heap.size,v1,w13.heap.size) _ (GK _ rfl))
             show _=putAll _ _
             simp only [putAll,Act.put,List.setIfInBounds_toArray,List.set_cons_zero,List.set_cons_succ]
            ·skip
             refine event_step (w1:=World.alloc (World.alloc wd (.cells #[.pointer ((some ⟨g,0,none⟩):Option Addr)] 67)) (.cells #[.int .i64 (k:Int)] 3)) (v:= .slice (some ⟨((World.alloc wd (.cells #[.pointer ((some ⟨g,0,none⟩):Option Addr)] 67))).heap.size,0,none⟩) 1 1) (by rfl) ?hr1 ?_
             case hr1=>first|(go_simp;done)|(go_simp;rfl)
             refine hK.out _ _ ⟨(blk_cell (((HJd.out.below (below_alloc (Below.refl _ _) (.cells #[.pointer ((some ⟨g,0,none⟩):Option Addr)] 67))).below (below_alloc (Below.refl _ _) (.cells #[.int .i64 (k:Int)] 3)))).bO 0).trans rfl,(blk_cell (((HJd.out.below (below_alloc (Below.refl _ _) (.cells #[.pointer ((some ⟨g,0,none⟩):Option Addr)] 67))).below (below_alloc (Below.refl _ _) (.cells #[.int .i64 (k:Int)] 3)))).bI 0).trans rfl⟩ (fun hH2=>?_)
             clear hK K
             refine norm_ (a':=?_) ?_ ?_
             rotate_left
             ·show Act.put _ (some 86) _=_
              simp only [Act.put,List.setIfInBounds_toArray,List.set_cons_zero,List.set_cons_succ,i64_w,i32_w]
              rfl
             refine one_ (i:=3) (N:=some 83) (zqb 10 127) rfl rfl (one_of HT_.out zqk) (by decide) (fun K hK=>?_)
             refine app_at ptrK (w0:=w6) w6.heap.size (by rfl) (.tmp 80) (.tmp 82) 101 67 (.pointer none) 8 rfl Try.underlying101 infoPtr rfl rfl (by omega) (.slice (some ⟨p,0,none⟩) xs.length cp) xs ((some ⟨g,0,none⟩):Option Addr) (.pointer ((some ⟨g,0,none⟩):Option Addr)) (fun k=>k≠r0) (fun _=>False) rfl wd.heap.size rfl (blk_alloc (blk_new _ _) _) rfl rfl (fun _ hk=>hk.elim) (fun kz hk=>by have h1:=blk_lt ((HJd.out.below (below_alloc (Below.refl _ _) (.cells #[.pointer ((some ⟨g,0,none⟩):Option Addr)] 67))).below (below_alloc (Below.refl _ _) (.cells #[.int .i64 (k:Int)] 3))).hL;omega) ((HJd.out.below (below_alloc (Below.refl _ _) (.cells #[.pointer ((some ⟨g,0,none⟩):Option Addr)] 67))).below (below_alloc (Below.refl _ _) (.cells #[.int .i64 (k:Int)] 3))).rO ((HJd.out.below (below_alloc (Below.refl _ _) (.cells #[.pointer ((some ⟨g,0,none⟩):Option Addr)] 67))).below (below_alloc (Below.refl _ _) (.cells #[.int .i64 (k:Int)] 3))).hb (below_size ((HJd.out.below (below_alloc (Below.refl _ _) (.cells #[.pointer ((some ⟨g,0,none⟩):Option Addr)] 67))).below (below_alloc (Below.refl _ _) (.cells #[.int .i64 (k:Int)] 3))).hb) (by have:=HXL.out;omega) ?_
             intro v1 w13 ho hb hg
             have GK:=GluJ.app (kv:=(k:Int)) (g:=((World.alloc wd (.cells #[.pointer ((some ⟨g,0,none⟩):Option Addr)] 67))).heap.size) ((HJd.out.below (below_alloc (Below.refl _ _) (.cells #[.pointer ((some ⟨g,0,none⟩):Option Addr)] 67))).below (below_alloc (Below.refl _ _) (.cells #[.int .i64 (k:Int)] 3))) HXP.out hg hb ho (blk_new _ _)
             refine hK.out _ _ ⟨(blk_cell GK.bO 0).trans rfl,(blk_cell GK.bI 0).trans rfl⟩ (fun hH3=>?_)
             clear hK K
             refine norm_ (a':=?_) ?_ ?_
             rotate_left
             ·show Act.put _ (some 83) _=_
              simp only [Act.put,List.setIfInBounds_toArray,List.set_cons_zero,List.set_cons_succ,i64_w,i32_w]
              rfl
             refine norm_ ?_ (HJN.out (wd.heap.size,v1,((World.alloc wd (.cells #[.pointer ((some ⟨g,0,none⟩):Option Addr)] 67))).heap.size) _ GK)
             show _=putAll _ _
             simp only [putAll,Act.put,List.setIfInBounds_toArray,List.set_cons_zero,List.set_cons_succ]
           ·skip
            refine event_step (w1:=World.alloc wd (.cells #[.int .i64 (k:Int)] 3)) (v:= .slice (some ⟨(wd).heap.size,0,none⟩) 1 1) (by rfl) ?hr1 ?_
            case hr1=>first|(go_simp;done)|(go_simp;rfl)
            refine hK.out _ _ ⟨(blk_cell ((HJd.out.below (below_alloc (Below.refl _ _) (.cells #[.int .i64 (k:Int)] 3)))).bO 0).trans rfl,(blk_cell ((HJd.out.below (below_alloc (Below.refl _ _) (.cells #[.int .i64 (k:Int)] 3)))).bI 0).trans rfl⟩ (fun hH1=>?_)
            clear hK K
            refine norm_ (a':=?_) ?_ ?_
            rotate_left
            ·show Act.put _ (some 86) _=_
             simp only [Act.put,List.setIfInBounds_toArray,List.set_cons_zero,List.set_cons_succ,i64_w,i32_w]
             rfl
            refine one_ (i:=2) (N:=some 82) (zqb 10 119) rfl rfl (one_of HT_.out zqk) (by decide) (fun K hK=>?_)
            refine event_step (w1:=World.alloc (World.alloc wd (.cells #[.int .i64 (k:Int)] 3)) (.cells #[.pointer ((some ⟨g,0,none⟩):Option Addr)] 67)) (v:= .slice (some ⟨((World.alloc wd (.cells #[.int .i64 (k:Int)] 3))).heap.size,0,none⟩) 1 1) (by rfl) ?hr1 ?_
            case hr1=>first|(go_simp;done)|(go_simp;rfl)
            refine hK.out _ _ ⟨(blk_cell (((HJd.out.below (below_alloc (Below.refl _ _) (.cells #[.int .i64 (k:Int)] 3))).below (below_alloc (Below.refl _ _) (.cells #[.pointer ((some ⟨g,0,none⟩):Option Addr)] 67)))).bO 0).trans rfl,(blk_cell (((HJd.out.below (below_alloc (Below.refl _ _) (.cells #[.int .i64 (k:Int)] 3))).below (below_alloc (Below.refl _ _) (.cells #[.pointer ((some ⟨g,0,none⟩):Option Addr)] 67)))).bI 0).trans rfl⟩ (fun hH2=>?_)
            clear hK K
            refine norm_ (a':=?_) ?_ ?_
            rotate_left
            ·show Act.put _ (some 82) _=_
             simp only [Act.put,List.setIfInBounds_toArray,List.set_cons_zero,List.set_cons_succ,i64_w,i32_w]
             rfl
            refine one_ (i:=3) (N:=some 83) (zqb 10 127) rfl rfl (one_of HT_.out zqk) (by decide) (fun K hK=>?_)
            refine app_at ptrK (w0:=w6) w6.heap.size (by rfl) (.tmp 80) (.tmp 82) 101 67 (.pointer none) 8 rfl Try.underlying101 infoPtr rfl rfl (by omega) (.slice (some ⟨p,0,none⟩) xs.length cp) xs ((some ⟨g,0,none⟩):Option Addr) (.pointer ((some ⟨g,0,none⟩):Option Addr)) (fun k=>k≠r0) (fun _=>False) rfl ((World.alloc wd (.cells #[.int .i64 (k:Int)] 3))).heap.size rfl (blk_new _ _) rfl rfl (fun _ hk=>hk.elim) (fun kz hk=>by have h1:=blk_lt ((HJd.out.below (below_alloc (Below.refl _ _) (.cells #[.int .i64 (k:Int)] 3))).below (below_alloc (Below.refl _ _) (.cells #[.pointer ((some ⟨g,0,none⟩):Option Addr)] 67))).hL;omega) ((HJd.out.below (below_alloc (Below.refl _ _) (.cells #[.int .i64 (k:Int)] 3))).below (below_alloc (Below.refl _ _) (.cells #[.pointer ((some ⟨g,0,none⟩):Option Addr)] 67))).rO ((HJd.out.below (below_alloc (Below.refl _ _) (.cells #[.int .i64 (k:Int)] 3))).below (below_alloc (Below.refl _ _) (.cells #[.pointer ((some ⟨g,0,none⟩):Option Addr)] 67))).hb (below_size ((HJd.out.below (below_alloc (Below.refl _ _) (.cells #[.int .i64 (k:Int)] 3))).below (below_alloc (Below.refl _ _) (.cells #[.pointer ((some ⟨g,0,none⟩):Option Addr)] 67))).hb) (by have:=HXL.out;omega) ?_
            intro v1 w13 ho hb hg
            have GK:=GluJ.app (kv:=(k:Int)) (g:=wd.heap.size) ((HJd.out.below (below_alloc (Below.refl _ _) (.cells #[.int .i64 (k:Int)] 3))).below (below_alloc (Below.refl _ _) (.cells #[.pointer ((some ⟨g,0,none⟩):Option Addr)] 67))) HXP.out hg hb ho (blk_alloc (blk_new _ _) _)
            refine hK.out _ _ ⟨(blk_cell GK.bO 0).trans rfl,(blk_cell GK.bI 0).trans rfl⟩ (fun hH3=>?_)
            clear hK K
            refine norm_ (a':=?_) ?_ ?_
            rotate_left
            ·show Act.put _ (some 83) _=_
             simp only [Act.put,List.setIfInBounds_toArray,List.set_cons_zero,List.set_cons_succ,i64_w,i32_w]
             rfl
            refine norm_ ?_ (HJN.out (((World.alloc wd (.cells #[.int .i64 (k:Int)] 3))).heap.size,v1,wd.heap.size) _ GK)
            show _=putAll _ _
            simp only [putAll,Act.put,List.setIfInBounds_toArray,List.set_cons_zero,List.set_cons_succ]
          case cont=>
           rintro ⟨g82,v83,g86⟩ w13 hGK
           have GK:=zqm hGK
           clear hGK HJd
           refine norm_ (a':=?_) ?_ ?_
           rotate_left
           ·simp only [putAll,Act.put,List.setIfInBounds_toArray,List.set_cons_zero,List.set_cons_succ];rfl
           refine one_ (i:=7) (N:=some 87) (zqb 10 255) rfl rfl (one_of HT_.out zqk) (by decide) (fun K hK=>?_)
           refine app_at (Kd.int .i64) (w0:=w6) w6.heap.size (by rfl) (.tmp 84) (.tmp 86) 24 3 (.int .i64 0) 8 rfl Try.underlying24 infoInt rfl rfl (by omega) (.slice (some ⟨q,0,none⟩) ys.length cq) ys (k:Int) (.int .i64 (k:Int)) (fun _=>True) (fun _=>False) rfl g86 rfl GK.out.l rfl rfl (fun _ hk=>hk.elim) (fun _ _=>trivial) GK.out.rI GK.out.hb (below_size GK.out.hb) (by have:=HYL.out;omega) ?_
           intro v1 w14 ho hb hg
           have GM:=zqm (GluK.app GK.out HYP.out hg hb ho)
           obtain⟨p',cp',rfl,_⟩:=Kd.R_form GK.out.rO (by simp)
           obtain⟨q',cq',rfl,_⟩:=Kd.R_form ho (by simp)
           refine hK.out _ _ ⟨(blk_cell GM.out.2.1 0).trans rfl,(blk_cell GM.out.2.2.1 0).trans rfl⟩ (fun hH4=>?_)
           clear hK K
           refine norm_ (a':=?_) ?_ ?_
           rotate_left
           ·show Act.put _ (some 87) _=_
            simp only [Act.put,List.setIfInBounds_toArray,List.set_cons_zero,List.set_cons_succ,i64_w,i32_w]
            rfl
           clear ho hb hg GK
           have HCL:=zqm (show GluJ w6 gO gI r0 gA gB (xs ++ [((some ⟨g,0,none⟩):Option Addr)]) (ys ++ [(k:Int)]) p' q' cp' cq' _ from GluJ.close GO.out GI.out GNE.out GM.out)
           have hs1_:w14.cell? ⟨gO,0,none⟩=some (.slice (some ⟨p,0,none⟩) xs.length cp):=(blk_cell GM.out.2.1 0).trans rfl
           have hf1_:=blk_frozen GM.out.2.1 0
           have hs2_:w14.cell? ⟨gI,0,none⟩=some (.slice (some ⟨q,0,none⟩) ys.length cq):=(blk_cell GM.out.2.2.1 0).trans rfl
           have hf2_:=blk_frozen GM.out.2.2.1 0
           have hs3_:=(World.cell?_setCell_far w14 ⟨gO,0,none⟩ ⟨gI,0,none⟩ (.slice (some ⟨p',0,none⟩) (xs ++ [((some ⟨g,0,none⟩):Option Addr)]).length cp') GNE.out).trans hs2_
           refine last_ (i:=8) (N:=none) (zqb 10 511) rfl rfl (one_of HT_.out zqk) (by decide) (fun K hK=>?_)
           refine skip_ (w1:=w14.setCell ⟨gO,0,none⟩ (.slice (some ⟨p',0,none⟩) (xs ++ [((some ⟨g,0,none⟩):Option Addr)]).length cp')) (by rfl) rfl ?_ ?_
           ·go_simp
           refine hK.out _ _ ?_
           clear hK K
           refine last_ (i:=9) (N:=none) (zqb 10 1023) rfl rfl (one_of HT_.out zqk) (by decide) (fun K hK=>?_)
           refine skip_ (w1:=(w14.setCell ⟨gO,0,none⟩ (.slice (some ⟨p',0,none⟩) (xs ++ [((some ⟨g,0,none⟩):Option Addr)]).length cp')).setCell ⟨gI,0,none⟩ (.slice (some ⟨q',0,none⟩) (ys ++ [(k:Int)]).length cq')) (by rfl) rfl ?_ ?_
           ·go_simp
           refine hK.out _ _ ?_
           clear hK K
           generalize (w14.setCell ⟨gO,0,none⟩ (.slice (some ⟨p',0,none⟩) (xs ++ [((some ⟨g,0,none⟩):Option Addr)]).length cp')).setCell ⟨gI,0,none⟩ (.slice (some ⟨q',0,none⟩) (ys ++ [(k:Int)]).length cq')=w15 at HCL ⊢
           clear hs1_ hf1_ hs2_ hf2_ hs3_ GM
           refine done_ (done_of HT_.out zqk) ?_
           have E1:((gluSS l0_0 l0_1 l1_0 l1_1 j ++ (filI (k+1) (midB U' N')).map (fun _=>j+1)).map (sdP gA gB))=xs ++ [((some ⟨g,0,none⟩):Option Addr)]:=by rw [HXS.out,filI_succ,if_pos HM.out];simp only [List.map_append,List.append_assoc,List.map_cons,List.map_nil,HSD.out]
           have E2:gluKS l0_0 l0_1 l1_0 l1_1 j ++ filI (k+1) (midB U' N')=ys ++ [(k:Int)]:=by rw [HYS.out,filI_succ,if_pos HM.out,List.append_assoc]
           go_wp2_with fail
           go_roundg kk
           case measure=>omega
           case rel=>exact⟨k+1,p',q',cp',cq',zq140,⟨by have:=HKk.out;omega⟩,⟨by have:=HLK.out;omega⟩,⟨by rw [E1,E2];exact HCL.out⟩⟩
       ·have hlk':decide (k<U'.length)=false:=decide_eq_false hlk
        have hkk:k=U'.length:=by have:=HKk2.out;omega
        clear hlk
        go_wp2_with fail
        go_roundg kn
        case measure=>omega
        case rel=>exact⟨j+1,p,q,cp,cq,by first|go_num|(rw [wrap_small (by omega) (by omega)];go_num),⟨by have:=HK.out;omega⟩,⟨by have:=HLT.out;omega⟩,⟨by rw [HSS.out,HKS.out];have h:=HJ.out;rw [hkk] at h;exact h⟩⟩
     ·have hlt':decide ((j:Int)<2)=false:=decide_eq_false (by omega)
      have hlt'':decide (j<2)=false:=decide_eq_false hlt
      obtain rfl:j=2:=by have:=HK2.out;omega
      clear hlt
      obtain⟨xs,hxs⟩: ∃xs,xs=(gluSS l0_0 l0_1 l1_0 l1_1 2).map (sdP gA gB):=⟨_,rfl⟩
      obtain⟨ys,hys⟩: ∃ys,ys=gluKS l0_0 l0_1 l1_0 l1_1 2:=⟨_,rfl⟩
      have HJx:=zqm (show GluJ w6 gO gI r0 gA gB xs ys p q cp cq _ from by rw [hxs,hys];exact HJ.out)
      have HLN:=zqm (gluSS_len l0_0 l0_1 l1_0 l1_1 2)
      have HXL:=zqm (show xs.length≤1000∧0<xs.length from by rw [hxs];have h1:=HLN.out;have h5:=(logicB_iff.1 HLA.out).small;have h6:=(logicB_iff.1 HLB.out).small;simp only [List.length_map];omega)
      have HYL:=zqm (show ys.length≤1000∧0<ys.length from by rw [hys];have h1:=HLN.out;have h5:=(logicB_iff.1 HLA.out).small;have h6:=(logicB_iff.1 HLB.out).small;omega)
      have HXP:=zqm HXL.out.2
      have HYP:=zqm HYL.out.2
      have HXS:=zqm hxs
      have HYS:=zqm hys
      clear hxs hys HJ
      go_wp2_with fail
      have HJd:=zqm (HJx.out.below (below_drew1 (Below.refl _ _)))
      refine start_ (n:=8) (S:=(fun w'=>w'.cell? ⟨gO,0,none⟩=some (.slice (some ⟨p,0,none⟩) xs.length cp)∧w'.cell? ⟨gI,0,none⟩=some (.slice (some ⟨q,0,none⟩) ys.length cq))) (ds:= [6,7]) (zqb 8 0) zqk rfl rfl ⟨(blk_cell HJd.out.bO 0).trans rfl,(blk_cell HJd.out.bI 0).trans rfl⟩ (fun hHeld=>?_)
      refine with_tabW impl_GluedOf.tab15 impl_GluedOf.bits15 (fun HT_ HW_=>?_)
      clear HJx
      generalize wr.drew=wd at hHeld HJd ⊢
      refine zqw 0 90 (zqb 8 1) HT_ HW_ hHeld ?_
      refine zqw 3 93 (zqb 8 9) HT_ HW_ hHeld ?_
      refine join_ (σ:=Nat × Value × Nat) 3 (zqb 8 31) (fun s=> [(91,.slice (some ⟨s.1,0,none⟩) 1 1),(92,s.2.1),(94,.slice (some ⟨s.2.2,0,none⟩) 1 1)]) (fun s W=>GluK w6 gO gI r0 gA gB xs (none:Option Addr) ys (0:Int) p q cp cq s.2.1 s.2.2 W) ?cont ?paths
      case paths=>
       intro hjoin
       have HJN:=zqm hjoin
       clear hjoin
       refine two_ (i:=1) (j:=4) (Ni:=some 91) (Nj:=some 94) (zqb 8 11) (zqb 8 25) rfl rfl rfl rfl zqk (by decide) (by decide) (fun K hK=>?_) (fun K hK=>?_)
       ·skip
        refine event_step (w1:=World.alloc wd (.cells #[.pointer (none:Option Addr)] 67)) (v:= .slice (some ⟨(wd).heap.size,0,none⟩) 1 1) (by rfl) ?hr1 ?_
        case hr1=>first|(go_simp;done)|(go_simp;rfl)
        refine hK.out _ _ ⟨(blk_cell ((HJd.out.below (below_alloc (Below.refl _ _) (.cells #[.pointer (none:Option Addr)] 67)))).bO 0).trans rfl,(blk_cell ((HJd.out.below (below_alloc (Below.refl _ _) (.cells #[.pointer (none:Option Addr)] 67)))).bI 0).trans rfl⟩ (fun hH1=>?_)
        clear hK K
        refine norm_ (a':=?_) ?_ ?_
        rotate_left
        ·show Act.put _ (some 91) _=_
         simp only [Act.put,List.setIfInBounds_toArray,List.set_cons_zero,List.set_cons_succ,i64_w,i32_w]
         rfl
        refine two_ (i:=2) (j:=4) (Ni:=some 92) (Nj:=some 94) (zqb 8 15) (zqb 8 27) rfl rfl rfl rfl zqk (by decide) (by decide) (fun K hK=>?_) (fun K hK=>?_)
        ·skip
         refine app_at ptrK (w0:=w6) w6.heap.size (by rfl) (.tmp 90) (.tmp 91) 101 67 (.pointer none) 8 rfl Try.underlying101 infoPtr rfl rfl (by omega) (.slice (some ⟨p,0,none⟩) xs.length cp) xs (none:Option Addr) (.pointer (none:Option Addr)) (fun k=>k≠r0) (fun _=>False) rfl wd.heap.size rfl (blk_new _ _) rfl rfl (fun _ hk=>hk.elim) (fun kz hk=>by have h1:=blk_lt (HJd.out.below (below_alloc (Below.refl _ _) (.cells #[.pointer (none:Option Addr)] 67))).hL;omega) (HJd.out.below (below_alloc (Below.refl _ _) (.cells #[.pointer (none:Option Addr)] 67))).rO (HJd.out.below (below_alloc (Below.refl _ _) (.cells #[.pointer (none:Option Addr)] 67))).hb (below_size (HJd.out.below (below_alloc (Below.refl _ _) (.cells #[.pointer (none:Option Addr)] 67))).hb) (by have:=HXL.out;omega) ?_
         intro v1 w13 ho hb hg
         have GK:=fun W2 (e:W2=World.alloc w13 (.cells #[.int .i64 (0:Int)] 3))=>GluJ.app0 (kv:=(0:Int)) (HJd.out.below (below_alloc (Below.refl _ _) (.cells #[.pointer (none:Option Addr)] 67))) HXP.out hg hb ho e
         have hS1:=(⟨(blk_cell (blk_grown (HJd.out.below (below_alloc (Below.refl _ _) (.cells #[.pointer (none:Option Addr)] 67))).bO hg (Kd.R_ne (HJd.out.below (below_alloc (Below.refl _ _) (.cells #[.pointer (none:Option Addr)] 67))).rO (HJd.out.below (below_alloc (Below.refl _ _) (.cells #[.pointer (none:Option Addr)] 67))).bO (by decide))) 0).trans rfl,(blk_cell (blk_grown (HJd.out.below (below_alloc (Below.refl _ _) (.cells #[.pointer (none:Option Addr)] 67))).bI hg (Kd.R_ne (HJd.out.below (below_alloc (Below.refl _ _) (.cells #[.pointer (none:Option Addr)] 67))).rO (HJd.out.below (below_alloc (Below.refl _ _) (.cells #[.pointer (none:Option Addr)] 67))).bI (by decide))) 0).trans rfl⟩:w13.cell? ⟨gO,0,none⟩=some (.slice (some ⟨p,0,none⟩) xs.length cp)∧w13.cell? ⟨gI,0,none⟩=some (.slice (some ⟨q,0,none⟩) ys.length cq))
         refine hK.out _ _ hS1 (fun hH2=>?_)
         clear hK K
         refine norm_ (a':=?_) ?_ ?_
         rotate_left
         ·show Act.put _ (some 92) _=_
          simp only [Act.put,List.setIfInBounds_toArray,List.set_cons_zero,List.set_cons_succ,i64_w,i32_w]
          rfl
         refine one_ (i:=4) (N:=some 94) (zqb 8 31) rfl rfl (one_of HT_.out zqk) (by decide) (fun K hK=>?_)
         refine event_step (w1:=World.alloc w13 (.cells #[.int .i64 (0:Int)] 3)) (v:= .slice (some ⟨(w13).heap.size,0,none⟩) 1 1) (by rfl) ?hr1 ?_
         case hr1=>first|(go_simp;done)|(go_simp;rfl)
         refine hK.out _ _ ⟨(blk_cell (GK _ rfl).bO 0).trans rfl,(blk_cell (GK _ rfl).bI 0).trans rfl⟩ (fun hH3=>?_)
         clear hK K
         refine norm_ (a':=?_) ?_ ?_
         rotate_left
         ·show Act.put _ (some 94) _=_
          simp only [Act.put,List.setIfInBounds_toArray,List.set_cons_zero,List.set_cons_succ,i64_w,i32_w]
          rfl
         refine norm_ ?_ (HJN.out (wd.heap.size,v1,w13.heap.size) _ (GK _ rfl))
         show _=putAll _ _
         simp only [putAll,Act.put,List.setIfInBounds_toArray,List.set_cons_zero,List.set_cons_succ]
        ·skip
         refine event_step (w1:=World.alloc (World.alloc wd (.cells #[.pointer (none:Option Addr)] 67)) (.cells #[.int .i64 (0:Int)] 3)) (v:= .slice (some ⟨((World.alloc wd (.cells #[.pointer (none:Option Addr)] 67))).heap.size,0,none⟩) 1 1) (by rfl) ?hr1 ?_
         case hr1=>first|(go_simp;done)|(go_simp;rfl)
         refine hK.out _ _ ⟨(blk_cell (((HJd.out.below (below_alloc (Below.refl _ _) (.cells #[.pointer (none:Option Addr)] 67))).below (below_alloc (Below.refl _ _) (.cells #[.int .i64 (0:Int)] 3)))).bO 0).trans rfl,(blk_cell (((HJd.out.below (below_alloc (Below.refl _ _) (.cells #[.pointer (none:Option Addr)] 67))).below (below_alloc (Below.refl _ _) (.cells #[.int .i64 (0:Int)] 3)))).bI 0).trans rfl⟩ (fun hH2=>?_)
         clear hK K
         refine norm_ (a':=?_) ?_ ?_
         rotate_left
         ·show Act.put _ (some 94) _=_
          simp only [Act.put,List.setIfInBounds_toArray,List.set_cons_zero,List.set_cons_succ,i64_w,i32_w]
          rfl
         refine one_ (i:=2) (N:=some 92) (zqb 8 31) rfl rfl (one_of HT_.out zqk) (by decide) (fun K hK=>?_)
         refine app_at ptrK (w0:=w6) w6.heap.size (by rfl) (.tmp 90) (.tmp 91) 101 67 (.pointer none) 8 rfl Try.underlying101 infoPtr rfl rfl (by omega) (.slice (some ⟨p,0,none⟩) xs.length cp) xs (none:Option Addr) (.pointer (none:Option Addr)) (fun k=>k≠r0) (fun _=>False) rfl wd.heap.size rfl (blk_alloc (blk_new _ _) _) rfl rfl (fun _ hk=>hk.elim) (fun kz hk=>by have h1:=blk_lt ((HJd.out.below (below_alloc (Below.refl _ _) (.cells #[.pointer (none:Option Addr)] 67))).below (below_alloc (Below.refl _ _) (.cells #[.int .i64 (0:Int)] 3))).hL;omega) ((HJd.out.below (below_alloc (Below.refl _ _) (.cells #[.pointer (none:Option Addr)] 67))).below (below_alloc (Below.refl _ _) (.cells #[.int .i64 (0:Int)] 3))).rO ((HJd.out.below (below_alloc (Below.refl _ _) (.cells #[.pointer (none:Option Addr)] 67))).below (below_alloc (Below.refl _ _) (.cells #[.int .i64 (0:Int)] 3))).hb (below_size ((HJd.out.below (below_alloc (Below.refl _ _) (.cells #[.pointer (none:Option Addr)] 67))).below (below_alloc (Below.refl _ _) (.cells #[.int .i64 (0:Int)] 3))).hb) (by have:=HXL.out;omega) ?_
         intro v1 w13 ho hb hg
         have GK:=GluJ.app (kv:=(0:Int)) (g:=((World.alloc wd (.cells #[.pointer (none:Option Addr)] 67))).heap.size) ((HJd.out.below (below_alloc (Below.refl _ _) (.cells #[.pointer (none:Option Addr)] 67))).below (below_alloc (Below.refl _ _) (.cells #[.int .i64 (0:Int)] 3))) HXP.out hg hb ho (blk_new _ _)
         refine hK.out _ _ ⟨(blk_cell GK.bO 0).trans rfl,(blk_cell GK.bI 0).trans rfl⟩ (fun hH3=>?_)
         clear hK K
         refine norm_ (a':=?_) ?_ ?_
         rotate_left
         ·show Act.put _ (some 92) _=_
          simp only [Act.put,List.setIfInBounds_toArray,List.set_cons_zero,List.set_cons_succ,i64_w,i32_w]
          rfl
         refine norm_ ?_ (HJN.out (wd.heap.size,v1,((World.alloc wd (.cells #[.pointer (none:Option Addr)] 67))).heap.size) _ GK)
         show _=putAll _ _
         simp only [putAll,Act.put,List.setIfInBounds_toArray,List.set_cons_zero,List.set_cons_succ]
       ·skip
        refine event_step (w1:=World.alloc wd (.cells #[.int .i64 (0:Int)] 3)) (v:= .slice (some ⟨(wd).heap.size,0,none⟩) 1 1) (by rfl) ?hr1 ?_
        case hr1=>first|(go_simp;done)|(go_simp;rfl)
        refine hK.out _ _ ⟨(blk_cell ((HJd.out.below (below_alloc (Below.refl _ _) (.cells #[.int .i64 (0:Int)] 3)))).bO 0).trans rfl,(blk_cell ((HJd.out.below (below_alloc (Below.refl _ _) (.cells #[.int .i64 (0:Int)] 3)))).bI 0).trans rfl⟩ (fun hH1=>?_)
        clear hK K
        refine norm_ (a':=?_) ?_ ?_
        rotate_left
        ·show Act.put _ (some 94) _=_
         simp only [Act.put,List.setIfInBounds_toArray,List.set_cons_zero,List.set_cons_succ,i64_w,i32_w]
         rfl
        refine one_ (i:=1) (N:=some 91) (zqb 8 27) rfl rfl (one_of HT_.out zqk) (by decide) (fun K hK=>?_)
        refine event_step (w1:=World.alloc (World.alloc wd (.cells #[.int .i64 (0:Int)] 3)) (.cells #[.pointer (none:Option Addr)] 67)) (v:= .slice (some ⟨((World.alloc wd (.cells #[.int .i64 (0:Int)] 3))).heap.size,0,none⟩) 1 1) (by rfl) ?hr1 ?_
        case hr1=>first|(go_simp;done)|(go_simp;rfl)
        refine hK.out _ _ ⟨(blk_cell (((HJd.out.below (below_alloc (Below.refl _ _) (.cells #[.int .i64 (0:Int)] 3))).below (below_alloc (Below.refl _ _) (.cells #[.pointer (none:Option Addr)] 67)))).bO 0).trans rfl,(blk_cell (((HJd.out.below (below_alloc (Below.refl _ _) (.cells #[.int .i64 (0:Int)] 3))).below (below_alloc (Below.refl _ _) (.cells #[.pointer (none:Option Addr)] 67)))).bI 0).trans rfl⟩ (fun hH2=>?_)
        clear hK K
        refine norm_ (a':=?_) ?_ ?_
        rotate_left
        ·show Act.put _ (some 91) _=_
         simp only [Act.put,List.setIfInBounds_toArray,List.set_cons_zero,List.set_cons_succ,i64_w,i32_w]
         rfl
        refine one_ (i:=2) (N:=some 92) (zqb 8 31) rfl rfl (one_of HT_.out zqk) (by decide) (fun K hK=>?_)
        refine app_at ptrK (w0:=w6) w6.heap.size (by rfl) (.tmp 90) (.tmp 91) 101 67 (.pointer none) 8 rfl Try.underlying101 infoPtr rfl rfl (by omega) (.slice (some ⟨p,0,none⟩) xs.length cp) xs (none:Option Addr) (.pointer (none:Option Addr)) (fun k=>k≠r0) (fun _=>False) rfl ((World.alloc wd (.cells #[.int .i64 (0:Int)] 3))).heap.size rfl (blk_new _ _) rfl rfl (fun _ hk=>hk.elim) (fun kz hk=>by have h1:=blk_lt ((HJd.out.below (below_alloc (Below.refl _ _) (.cells #[.int .i64 (0:Int)] 3))).below (below_alloc (Below.refl _ _) (.cells #[.pointer (none:Option Addr)] 67))).hL;omega) ((HJd.out.below (below_alloc (Below.refl _ _) (.cells #[.int .i64 (0:Int)] 3))).below (below_alloc (Below.refl _ _) (.cells #[.pointer (none:Option Addr)] 67))).rO ((HJd.out.below (below_alloc (Below.refl _ _) (.cells #[.int .i64 (0:Int)] 3))).below (below_alloc (Below.refl _ _) (.cells #[.pointer (none:Option Addr)] 67))).hb (below_size ((HJd.out.below (below_alloc (Below.refl _ _) (.cells #[.int .i64 (0:Int)] 3))).below (below_alloc (Below.refl _ _) (.cells #[.pointer (none:Option Addr)] 67))).hb) (by have:=HXL.out;omega) ?_
        intro v1 w13 ho hb hg
        have GK:=GluJ.app (kv:=(0:Int)) (g:=wd.heap.size) ((HJd.out.below (below_alloc (Below.refl _ _) (.cells #[.int .i64 (0:Int)] 3))).below (below_alloc (Below.refl _ _) (.cells #[.pointer (none:Option Addr)] 67))) HXP.out hg hb ho (blk_alloc (blk_new _ _) _)
        refine hK.out _ _ ⟨(blk_cell GK.bO 0).trans rfl,(blk_cell GK.bI 0).trans rfl⟩ (fun hH3=>?_)
        clear hK K
        refine norm_ (a':=?_) ?_ ?_
        rotate_left
        ·show Act.put _ (some 92) _=_
         simp only [Act.put,List.setIfInBounds_toArray,List.set_cons_zero,List.set_cons_succ,i64_w,i32_w]
         rfl
        refine norm_ ?_ (HJN.out (((World.alloc wd (.cells #[.int .i64 (0:Int)] 3))).heap.size,v1,wd.heap.size) _ GK)
        show _=putAll _ _
        simp only [putAll,Act.put,List.setIfInBounds_toArray,List.set_cons_zero,List.set_cons_succ]
      case cont=>
       rintro ⟨g82,v83,g86⟩ w13 hGK
       have GK:=zqm hGK
       clear hGK HJd
       refine norm_ (a':=?_) ?_ ?_
       rotate_left
       ·simp only [putAll,Act.put,List.setIfInBounds_toArray,List.set_cons_zero,List.set_cons_succ];rfl
       refine one_ (i:=5) (N:=some 95) (zqb 8 63) rfl rfl (one_of HT_.out zqk) (by decide) (fun K hK=>?_)
       refine app_at (Kd.int .i64) (w0:=w6) w6.heap.size (by rfl) (.tmp 93) (.tmp 94) 24 3 (.int .i64 0) 8 rfl Try.underlying24 infoInt rfl rfl (by omega) (.slice (some ⟨q,0,none⟩) ys.length cq) ys (0:Int) (.int .i64 (0:Int)) (fun _=>True) (fun _=>False) rfl g86 rfl GK.out.l rfl rfl (fun _ hk=>hk.elim) (fun _ _=>trivial) GK.out.rI GK.out.hb (below_size GK.out.hb) (by have:=HYL.out;omega) ?_
       intro v1 w14 ho hb hg
       have GM:=zqm (GluK.app GK.out HYP.out hg hb ho)
       obtain⟨p',cp',rfl,_⟩:=Kd.R_form GK.out.rO (by simp)
       obtain⟨q',cq',rfl,_⟩:=Kd.R_form ho (by simp)
       refine hK.out _ _ ⟨(blk_cell GM.out.2.1 0).trans rfl,(blk_cell GM.out.2.2.1 0).trans rfl⟩ (fun hH4=>?_)
       clear hK K
       refine norm_ (a':=?_) ?_ ?_
       rotate_left
       ·show Act.put _ (some 95) _=_
        simp only [Act.put,List.setIfInBounds_toArray,List.set_cons_zero,List.set_cons_succ,i64_w,i32_w]
        rfl
       clear ho hb hg GK
       have HCL:=zqm (show GluJ w6 gO gI r0 gA gB (xs ++ [(none:Option Addr)]) (ys ++ [(0:Int)]) p' q' cp' cq' _ from GluJ.close GO.out GI.out GNE.out GM.out)
       have hs1_:w14.cell? ⟨gO,0,none⟩=some (.slice (some ⟨p,0,none⟩) xs.length cp):=(blk_cell GM.out.2.1 0).trans rfl
       have hf1_:=blk_frozen GM.out.2.1 0
       have hs2_:w14.cell? ⟨gI,0,none⟩=some (.slice (some ⟨q,0,none⟩) ys.length cq):=(blk_cell GM.out.2.2.1 0).trans rfl
       have hf2_:=blk_frozen GM.out.2.2.1 0
       have hs3_:=(World.cell?_setCell_far w14 ⟨gO,0,none⟩ ⟨gI,0,none⟩ (.slice (some ⟨p',0,none⟩) (xs ++ [(none:Option Addr)]).length cp') GNE.out).trans hs2_
       refine last_ (i:=6) (N:=none) (zqb 8 127) rfl rfl (one_of HT_.out zqk) (by decide) (fun K hK=>?_)
       refine skip_ (w1:=w14.setCell ⟨gO,0,none⟩ (.slice (some ⟨p',0,none⟩) (xs ++ [(none:Option Addr)]).length cp')) (by rfl) rfl ?_ ?_
       ·go_simp
       refine hK.out _ _ ?_
       clear hK K
       refine last_ (i:=7) (N:=none) (zqb 8 255) rfl rfl (one_of HT_.out zqk) (by decide) (fun K hK=>?_)
       refine skip_ (w1:=(w14.setCell ⟨gO,0,none⟩ (.slice (some ⟨p',0,none⟩) (xs ++ [(none:Option Addr)]).length cp')).setCell ⟨gI,0,none⟩ (.slice (some ⟨q',0,none⟩) (ys ++ [(0:Int)]).length cq')) (by rfl) rfl ?_ ?_
       ·go_simp
       refine hK.out _ _ ?_
       clear hK K
       generalize (w14.setCell ⟨gO,0,none⟩ (.slice (some ⟨p',0,none⟩) (xs ++ [(none:Option Addr)]).length cp')).setCell ⟨gI,0,none⟩ (.slice (some ⟨q',0,none⟩) (ys ++ [(0:Int)]).length cq')=w15 at HCL ⊢
       clear hs1_ hf1_ hs2_ hf2_ hs3_ GM
       refine done_ (done_of HT_.out zqk) ?_
       obtain⟨xs',hxs'⟩: ∃xs',xs'=xs ++ [(none:Option Addr)]:=⟨_,rfl⟩
       obtain⟨ys',hys'⟩: ∃ys',ys'=ys ++ [(0:Int)]:=⟨_,rfl⟩
       rw [← hxs',← hys'] at HCL
       have EX:=zqm (show xs'=(gluS l0_0 l0_1 l1_0 l1_1).map (sdP gA gB) from by rw [hxs',HXS.out];simp [gluS,gluSS,sdP])
       have EY:=zqm (show ys'=gluK l0_0 l0_1 l1_0 l1_1 from by rw [hys',HYS.out];rfl)
       have ENX:=zqm (show xs'.length=gluN l0_0 l0_1 l1_0 l1_1 from by rw [EX.out];simp only [gluS,gluN,List.length_map,List.length_append,List.length_cons,List.length_nil];omega)
       have ENY:=zqm (show ys'.length=gluN l0_0 l0_1 l1_0 l1_1 from by rw [EY.out];simp only [gluK,gluN,List.length_append,List.length_cons,List.length_nil];omega)
       have HN:=zqm (show gluN l0_0 l0_1 l1_0 l1_1<1000∧2≤gluN l0_0 l0_1 l1_0 l1_1 from by have h1:=mid_len l0_0 l0_1 l0_0.length;have h2:=mid_len l1_0 l1_1 l1_0.length;have h5:=(logicB_iff.1 HLA.out).small;have h6:=(logicB_iff.1 HLB.out).small;unfold gluN midI;omega)
       try rw [← hxs']
       clear hxs' hys' HXS HYS
       obtain⟨nn,hnn⟩: ∃nn:Int,nn=(gluN l0_0 l0_1 l1_0 l1_1:Int):=⟨_,rfl⟩
       have hw1:wrap64 ((xs'.length:Int) - 1)=nn - 1:=by rw [ENX.out,hnn];exact wrap_small (by have:=HN.out;omega) (by have:=HN.out;omega)
       have hw2:wrap64 nn=nn:=by rw [hnn];exact wrap_small (by omega) (by have h:=HN.out;omega)
       have HNN:=zqm hnn
       clear hnn
       have n1_:=zqm (blk_below BK.out HCL.out.hb)
       have n2_:=zqm (below_step HB.out HCL.out.hb)
       have n3_:=zqm (HVA.out.below HCL.out.hb)
       have n4_:=zqm (HVB.out.below HCL.out.hb)
       clear BK HB HVA HVB BA BBx hcz0 hcz1 hfz0 hfz1 ha1 hb1 h5 h6 GA GB
       have BK:=n1_
       have HB:=n2_
       have HVA:=n3_
       have HVB:=n4_
       clear n1_ n2_ n3_ n4_
       have hcO:w15.cell? ⟨gO,0,none⟩=some (.slice (some ⟨p',0,none⟩) xs'.length cp'):=(blk_cell HCL.out.bO 0).trans rfl
       go_wp2_with (first|((with_reducible refine gate_dst (N:=13) rfl ?_);refine box_event ?hg (N:=13) ?hd (cs:= #[.int .i64 0]) (t:=3) ?hr ?_;(case hd=>rfl);(case hg=>rfl);(case hr=> exact zq9);intro gL hg w16 hbox hb;have RL:=zqm hbox;have RB:=zqm hb;have GL:=zqm (show w15.heap.size≤gL from zq153);clear hbox hb hg;have hcL:w16.cell? ⟨gL,0,none⟩=some (.int .i64 0):=(blk_cell RL.out 0).trans rfl;have hfL:=blk_frozen RL.out 0;have hcO1:w16.cell? ⟨gO,0,none⟩=some (.slice (some ⟨p',0,none⟩) xs'.length cp'):=(blk_cell (blk_below HCL.out.bO RB.out) 0).trans rfl))
       have RB2:=zqm (show Below w15.heap.size w15 (w16.setCell ⟨gL,0,none⟩ (.int .i64 (nn - 1))) from below_set RB.out GL.out)
       have RI:=zqm (GluJ.toI (HCL.out.below RB2.out) EX.out EY.out ENX.out ENY.out (one_setCell RL.out))
       refine(impl_made.calls (gluP l0_0 l0_1 l1_0 l1_1) (fun x=>gluQ l0_0 l0_1 l1_0 l1_1 x.toNat) (gluD l0_0 l0_1 l1_0 l1_1) 1000 nn 0 115 116 _ _ #[.pointer (some ⟨gL,0,none⟩),.pointer (some ⟨gO,0,none⟩),.pointer (some ⟨gI,0,none⟩)] #[.pointer (some ⟨gL,0,none⟩),.pointer (some ⟨gO,0,none⟩),.pointer (some ⟨gI,0,none⟩)] Try.func115 zqk rfl Try.func116 zqk rfl m1 m2 (w16.setCell ⟨gL,0,none⟩ (.int .i64 (nn - 1))) ?hu ?hv (by rw [HNN.out];exact HMADE.out)).mono ?_
       case hu=>exact fun x y b W he hW=>glu_hu (logicB_iff.1 HLA.out) (logicB_iff.1 HLB.out) HNE.out (HVA.out.below RB2.out) (HVB.out.below RB2.out) HN.out (by rw [HNN.out]) RI.out hW he
       case hv=>exact fun x W he hW=>glu_hv (logicB_iff.1 HLA.out) (logicB_iff.1 HLB.out) HNE.out (HVA.out.below RB2.out) (HVB.out.below RB2.out) HN.out (by rw [HNN.out]) RI.out hW he
       rintro e w18 ⟨v0_,v1_,rfl,hs,hr,hb⟩
       obtain⟨A0,c0,rfl⟩:=Kd.R_slice (Kd.S_R hs)
       obtain⟨A1,c1,rfl⟩:=Kd.R_slice hr
       have hsz:=zqm (show w.heap.size≤((w16.setCell ⟨gL,0,none⟩ (.int .i64 (nn - 1)))).heap.size from below_size (below_step HB.out RB2.out))
       have HS:=zqm (Kd.S_lower hs hsz.out)
       have HR:=zqm (Kd.R_lower hr hsz.out)
       have n0_:=zqm (below_step (below_step HB.out RB2.out) hb)
       have n1_:=zqm (blk_below (blk_below BK.out RB2.out) hb)
       clear HB BK hs hr hb RI RB2 hsz
       have HB:=n0_
       have BK:=n1_
       clear n0_ n1_
       have hk0:w18.cell? ⟨gr,0,none⟩=some (.slice none 0 0):=(blk_cell BK.out 0).trans rfl
       have hk1:w18.cell? ⟨gr,1,none⟩=some (.slice none 0 0):=(blk_cell BK.out 1).trans rfl
       have hkf0:=blk_frozen BK.out 0
       have hkf1:=blk_frozen BK.out 1
       go_wp2
       refine bodyPost_ret (results_ct rfl _ _ gr 26 #[.slice A0 m1.length c0,.slice A1 m2.length c1] (0,0) _ rfl (by(with_reducible repeat(first|refine blk_drewN ?_ _|refine blk_drew ?_));refine blk_put (cs:= #[.slice A0 m1.length c0,.slice none 0 0]) ?_ 1 _ rfl;refine blk_put (cs:= #[.slice none 0 0,.slice none 0 0]) ?_ 0 _ rfl;exact BK.out) Try.underlying26 rfl zqk) rfl ?_
       exact⟨_,_,rfl,Kd.S_mono (Kd.S_far (p:=⟨gr,1,none⟩) (Kd.S_far (p:=⟨gr,0,none⟩) (Kd.S_types HS.out BK.out (by decide)) (fun _ hk=>hk.2) _) (fun _ hk=>hk.2) _) (fun _ hk=>hk.1),Kd.R_mono (Kd.R_far (p:=⟨gr,1,none⟩) (Kd.R_far (p:=⟨gr,0,none⟩) (Kd.R_types HR.out BK.out (by decide)) (fun _ hk=>hk.2) _) (fun _ hk=>hk.2) _) (fun _ _=>trivial),zq36⟩
   ·rw [decide_eq_false h14,if_neg (by simp)] at h
    simp only [Option.some.injEq,Prod.mk.injEq] at h
    obtain⟨rfl,rfl,rfl⟩:=h
    have p3:(12<tot)=True:=eq_true (by have:=HT.out;omega)
    have p3':decide (12<tot)=true:=decide_eq_true (by have:=HT.out;omega)
    clear h14
    go_enter Try.func47,Try.ntmps47
    go_wp2_with (first|((with_reducible refine gate_dst (N:=2) rfl ?_);refine box_event ?hg (N:=2) ?hd (cs:= #[.slice A0_0 l0_0.length c0_0,.slice A0_1 l0_1.length c0_1]) (t:=26) ?hr ?_;(case hd=>rfl);(case hg=>rfl);(case hr=> exact zq9);intro ga hg w1 hbox hb;have n_:=zqm (below_step HB.out hb);clear HB;have HB:=n_;clear n_;have BA:=zqm hbox;have GA:=zqm (show w.heap.size≤ga from zq153);clear hb hbox hg)|((with_reducible refine gate_dst (N:=3) rfl ?_);refine box_event ?hg (N:=3) ?hd (cs:= #[.slice A1_0 l1_0.length c1_0,.slice A1_1 l1_1.length c1_1]) (t:=26) ?hr ?_;(case hd=>rfl);(case hg=>rfl);(case hr=> exact zq9);intro gb hg w2 hbox hb;have n_:=zqm (below_step HB.out hb);have m_:=zqm (blk_below BA.out hb);have GB:=zqm (show w.heap.size≤gb from zq65);clear HB BA;have HB:=n_;have BA:=m_;clear n_ m_;have BBx:=zqm hbox;clear hb hbox hg)|((with_reducible refine gate_dst (N:=4) rfl ?_);refine box_event ?hg (N:=4) ?hd (cs:= #[.slice none 0 0,.slice none 0 0]) (t:=26) ?hr ?_;(case hd=>rfl);(case hg=>rfl);(case hr=> exact zq9);intro gr hg w3 hbox hb;have n_:=zqm (below_step HB.out hb);have m_:=zqm (blk_below BA.out hb);have k_:=zqm (blk_below BBx.out hb);have GR:=zqm (show w.heap.size≤gr from zq65);clear HB BA BBx;have HB:=n_;have BA:=m_;have BBx:=k_;clear n_ m_ k_;have BK:=zqm hbox;clear hb hbox hg))
    refine start_ (n:=6) (S:=(fun w'=>w'.cell? ⟨ga,0,none⟩=some (.slice A0_0 l0_0.length c0_0)∧w'.cell? ⟨ga,1,none⟩=some (.slice A0_1 l0_1.length c0_1)∧w'.cell? ⟨gb,0,none⟩=some (.slice A1_0 l1_0.length c1_0)∧w'.cell? ⟨gb,1,none⟩=some (.slice A1_1 l1_1.length c1_1))) (ds:= []) (zqb 6 0) zqk rfl rfl ⟨(blk_cell (blk_drew BA.out) 0).trans rfl,(blk_cell (blk_drew BA.out) 1).trans rfl,(blk_cell (blk_drew BBx.out) 0).trans rfl,(blk_cell (blk_drew BBx.out) 1).trans rfl⟩ (fun hHeld=>?_)
    refine with_tabW impl_GluedOf.tab1 impl_GluedOf.bits1 (fun HT_ HW_=>?_)
    have n1_:=zqm (below_drew1 HB.out)
    have n2_:=zqm (blk_drew BA.out)
    have n3_:=zqm (blk_drew BBx.out)
    have n4_:=zqm (blk_drew BK.out)
    clear HB BA BBx BK
    have HB:=n1_
    have BA:=n2_
    have BBx:=n3_
    have BK:=n4_
    clear n1_ n2_ n3_ n4_
    generalize w3.drew=w4 at hHeld HB BA BBx BK ⊢
    refine zqw 0 14 (zqb 6 1) HT_ HW_ hHeld ?_
    refine zqw 2 16 (zqb 6 5) HT_ HW_ hHeld ?_
    refine one_ (i:=1) (N:=some 15) (zqb 6 7) rfl rfl (one_of HT_.out zqk) (by decide) (fun K hK=>?_)
    refine goes_ Try.func70 zqk rfl #[.agg #[.slice A0_0 l0_0.length c0_0,.slice A0_1 l0_1.length c0_1]] (by rfl) rfl rfl zq26 ?_
    refine(told_y kf0 _ _ l0_0 _ _ l0_1 _ (Kd.C_below HR0_0.out HB.out) HC0_0.out (Kd.C_below HR0_1.out HB.out) HC0_1.out HF0.out HLA.out).mono ?_
    rintro e w5 ⟨gA,vgA,rfl,hv,hge,hb⟩
    refine⟨_,rfl,?_⟩
    have HVA:=zqm hv
    have GgA:=zqm (Nat.le_trans (below_size HB.out) hge)
    have n1_:=zqm (below_step HB.out hb)
    have n2_:=zqm (blk_below BA.out hb)
    have n3_:=zqm (blk_below BBx.out hb)
    have n4_:=zqm (blk_below BK.out hb)
    clear HB BA BBx BK
    have HB:=n1_
    have BA:=n2_
    have BBx:=n3_
    have BK:=n4_
    clear n1_ n2_ n3_ n4_ hb hv hge
    refine hK.out _ _ ⟨(blk_cell BA.out 0).trans rfl,(blk_cell BA.out 1).trans rfl,(blk_cell BBx.out 0).trans rfl,(blk_cell BBx.out 1).trans rfl⟩ (fun h5=>?_)
    clear hK K
    refine norm_ (a':=?_) ?_ ?_
    rotate_left
    ·show Act.put _ (some 15) _=_
     simp only [Act.put,List.setIfInBounds_toArray,List.set_cons_zero,List.set_cons_succ,i64_w,i32_w]
     rfl
    refine one_ (i:=3) (N:=some 17) (zqb 6 15) rfl rfl (one_of HT_.out zqk) (by decide) (fun K hK=>?_)
    refine goes_ Try.func70 zqk rfl #[.agg #[.slice A1_0 l1_0.length c1_0,.slice A1_1 l1_1.length c1_1]] (by rfl) rfl rfl zq26 ?_
    refine(told_y kf1 _ _ l1_0 _ _ l1_1 _ (Kd.C_below HR1_0.out HB.out) HC1_0.out (Kd.C_below HR1_1.out HB.out) HC1_1.out HF1.out HLB.out).mono ?_
    rintro e w6 ⟨gB,vgB,rfl,hv,hge,hb⟩
    refine⟨_,rfl,?_⟩
    have HVB:=zqm hv
    have GgB:=zqm (Nat.le_trans (below_size HB.out) hge)
    have n0_:=zqm (HVA.out.below hb)
    have HNE:=zqm (show gA≠gB from fun e=>by have h1:=HVA.out.blk;have h2:gA<w5.heap.size:=blk_lt h1;have h3:=hge;omega)
    clear HVA
    have HVA:=n0_
    clear n0_
    have n1_:=zqm (below_step HB.out hb)
    have n2_:=zqm (blk_below BA.out hb)
    have n3_:=zqm (blk_below BBx.out hb)
    have n4_:=zqm (blk_below BK.out hb)
    clear HB BA BBx BK
    have HB:=n1_
    have BA:=n2_
    have BBx:=n3_
    have BK:=n4_
    clear n1_ n2_ n3_ n4_ hb hv hge
    refine hK.out _ _ ⟨(blk_cell BA.out 0).trans rfl,(blk_cell BA.out 1).trans rfl,(blk_cell BBx.out 0).trans rfl,(blk_cell BBx.out 1).trans rfl⟩ (fun h6=>?_)
    clear hK K
    refine norm_ (a':=?_) ?_ ?_
    rotate_left
    ·show Act.put _ (some 17) _=_
     simp only [Act.put,List.setIfInBounds_toArray,List.set_cons_zero,List.set_cons_succ,i64_w,i32_w]
     rfl
    refine zqp 4 6 (zqb 6 31) HT_ ?_
    refine zqp 5 7 (zqb 6 63) HT_ ?_
    refine done_ (done_of HT_.out zqk) ?_
    have hcz0:w6.cell? ⟨gr,0,none⟩=some (.slice none 0 0):=(blk_cell BK.out 0).trans rfl
    have hcz1:w6.cell? ⟨gr,1,none⟩=some (.slice none 0 0):=(blk_cell BK.out 1).trans rfl
    have hfz0:=blk_frozen BK.out 0
    have hfz1:=blk_frozen BK.out 1
    have ha1:w6.cell? ⟨ga,1,none⟩=some (.slice A0_1 l0_1.length c0_1):=(blk_cell BA.out 1).trans rfl
    have hb1:w6.cell? ⟨gb,1,none⟩=some (.slice A1_1 l1_1.length c1_1):=(blk_cell BBx.out 1).trans rfl
    go_wp2
    refine bodyPost_ret (results_ct rfl _ _ gr 26 #[.slice none 0 0,.slice none 0 0] (0,0) _ rfl zq25 Try.underlying26 rfl zqk) rfl ?_
    exact⟨_,_,rfl,Kd.S_nil _ _ _ _ _,Kd.R_nil _ _ _ _ _,zq36⟩
  ·rw [decide_eq_false h2b,Bool.false_and,if_neg (by simp)] at h
   simp only [Option.some.injEq,Prod.mk.injEq] at h
   obtain⟨rfl,rfl,rfl⟩:=h
   have p2:((l1_1.length:Int)<2)=True:=eq_true (by omega)
   have p2':(l1_1.length<2)=True:=eq_true (by omega)
   clear h2b
   go_enter Try.func47,Try.ntmps47
   go_wp2_with (first|((with_reducible refine gate_dst (N:=2) rfl ?_);refine box_event ?hg (N:=2) ?hd (cs:= #[.slice A0_0 l0_0.length c0_0,.slice A0_1 l0_1.length c0_1]) (t:=26) ?hr ?_;(case hd=>rfl);(case hg=>rfl);(case hr=> exact zq9);intro ga hg w1 hbox hb;have n_:=zqm (below_step HB.out hb);clear HB;have HB:=n_;clear n_;have BA:=zqm hbox;have GA:=zqm (show w.heap.size≤ga from zq153);clear hb hbox hg)|((with_reducible refine gate_dst (N:=3) rfl ?_);refine box_event ?hg (N:=3) ?hd (cs:= #[.slice A1_0 l1_0.length c1_0,.slice A1_1 l1_1.length c1_1]) (t:=26) ?hr ?_;(case hd=>rfl);(case hg=>rfl);(case hr=> exact zq9);intro gb hg w2 hbox hb;have n_:=zqm (below_step HB.out hb);have m_:=zqm (blk_below BA.out hb);have GB:=zqm (show w.heap.size≤gb from zq65);clear HB BA;have HB:=n_;have BA:=m_;clear n_ m_;have BBx:=zqm hbox;clear hb hbox hg)|((with_reducible refine gate_dst (N:=4) rfl ?_);refine box_event ?hg (N:=4) ?hd (cs:= #[.slice none 0 0,.slice none 0 0]) (t:=26) ?hr ?_;(case hd=>rfl);(case hg=>rfl);(case hr=> exact zq9);intro gr hg w3 hbox hb;have n_:=zqm (below_step HB.out hb);have m_:=zqm (blk_below BA.out hb);have k_:=zqm (blk_below BBx.out hb);have GR:=zqm (show w.heap.size≤gr from zq65);clear HB BA BBx;have HB:=n_;have BA:=m_;have BBx:=k_;clear n_ m_ k_;have BK:=zqm hbox;clear hb hbox hg))
   refine start_ (n:=6) (S:=(fun w'=>w'.cell? ⟨ga,0,none⟩=some (.slice A0_0 l0_0.length c0_0)∧w'.cell? ⟨ga,1,none⟩=some (.slice A0_1 l0_1.length c0_1)∧w'.cell? ⟨gb,0,none⟩=some (.slice A1_0 l1_0.length c1_0)∧w'.cell? ⟨gb,1,none⟩=some (.slice A1_1 l1_1.length c1_1))) (ds:= []) (zqb 6 0) zqk rfl rfl ⟨(blk_cell (blk_drew BA.out) 0).trans rfl,(blk_cell (blk_drew BA.out) 1).trans rfl,(blk_cell (blk_drew BBx.out) 0).trans rfl,(blk_cell (blk_drew BBx.out) 1).trans rfl⟩ (fun hHeld=>?_)
   refine with_tabW impl_GluedOf.tab1 impl_GluedOf.bits1 (fun HT_ HW_=>?_)
   have n1_:=zqm (below_drew1 HB.out)
   have n2_:=zqm (blk_drew BA.out)
   have n3_:=zqm (blk_drew BBx.out)
   have n4_:=zqm (blk_drew BK.out)
   clear HB BA BBx BK
   have HB:=n1_
   have BA:=n2_
   have BBx:=n3_
   have BK:=n4_
   clear n1_ n2_ n3_ n4_
   generalize w3.drew=w4 at hHeld HB BA BBx BK ⊢
   refine zqw 0 14 (zqb 6 1) HT_ HW_ hHeld ?_
   refine zqw 2 16 (zqb 6 5) HT_ HW_ hHeld ?_
   refine one_ (i:=1) (N:=some 15) (zqb 6 7) rfl rfl (one_of HT_.out zqk) (by decide) (fun K hK=>?_)
   refine goes_ Try.func70 zqk rfl #[.agg #[.slice A0_0 l0_0.length c0_0,.slice A0_1 l0_1.length c0_1]] (by rfl) rfl rfl zq26 ?_
   refine(told_y kf0 _ _ l0_0 _ _ l0_1 _ (Kd.C_below HR0_0.out HB.out) HC0_0.out (Kd.C_below HR0_1.out HB.out) HC0_1.out HF0.out HLA.out).mono ?_
   rintro e w5 ⟨gA,vgA,rfl,hv,hge,hb⟩
   refine⟨_,rfl,?_⟩
   have HVA:=zqm hv
   have GgA:=zqm (Nat.le_trans (below_size HB.out) hge)
   have n1_:=zqm (below_step HB.out hb)
   have n2_:=zqm (blk_below BA.out hb)
   have n3_:=zqm (blk_below BBx.out hb)
   have n4_:=zqm (blk_below BK.out hb)
   clear HB BA BBx BK
   have HB:=n1_
   have BA:=n2_
   have BBx:=n3_
   have BK:=n4_
   clear n1_ n2_ n3_ n4_ hb hv hge
   refine hK.out _ _ ⟨(blk_cell BA.out 0).trans rfl,(blk_cell BA.out 1).trans rfl,(blk_cell BBx.out 0).trans rfl,(blk_cell BBx.out 1).trans rfl⟩ (fun h5=>?_)
   clear hK K
   refine norm_ (a':=?_) ?_ ?_
   rotate_left
   ·show Act.put _ (some 15) _=_
    simp only [Act.put,List.setIfInBounds_toArray,List.set_cons_zero,List.set_cons_succ,i64_w,i32_w]
    rfl
   refine one_ (i:=3) (N:=some 17) (zqb 6 15) rfl rfl (one_of HT_.out zqk) (by decide) (fun K hK=>?_)
   refine goes_ Try.func70 zqk rfl #[.agg #[.slice A1_0 l1_0.length c1_0,.slice A1_1 l1_1.length c1_1]] (by rfl) rfl rfl zq26 ?_
   refine(told_y kf1 _ _ l1_0 _ _ l1_1 _ (Kd.C_below HR1_0.out HB.out) HC1_0.out (Kd.C_below HR1_1.out HB.out) HC1_1.out HF1.out HLB.out).mono ?_
   rintro e w6 ⟨gB,vgB,rfl,hv,hge,hb⟩
   refine⟨_,rfl,?_⟩
   have HVB:=zqm hv
   have GgB:=zqm (Nat.le_trans (below_size HB.out) hge)
   have n0_:=zqm (HVA.out.below hb)
   have HNE:=zqm (show gA≠gB from fun e=>by have h1:=HVA.out.blk;have h2:gA<w5.heap.size:=blk_lt h1;have h3:=hge;omega)
   clear HVA
   have HVA:=n0_
   clear n0_
   have n1_:=zqm (below_step HB.out hb)
   have n2_:=zqm (blk_below BA.out hb)
   have n3_:=zqm (blk_below BBx.out hb)
   have n4_:=zqm (blk_below BK.out hb)
   clear HB BA BBx BK
   have HB:=n1_
   have BA:=n2_
   have BBx:=n3_
   have BK:=n4_
   clear n1_ n2_ n3_ n4_ hb hv hge
   refine hK.out _ _ ⟨(blk_cell BA.out 0).trans rfl,(blk_cell BA.out 1).trans rfl,(blk_cell BBx.out 0).trans rfl,(blk_cell BBx.out 1).trans rfl⟩ (fun h6=>?_)
   clear hK K
   refine norm_ (a':=?_) ?_ ?_
   rotate_left
   ·show Act.put _ (some 17) _=_
    simp only [Act.put,List.setIfInBounds_toArray,List.set_cons_zero,List.set_cons_succ,i64_w,i32_w]
    rfl
   refine zqp 4 6 (zqb 6 31) HT_ ?_
   refine zqp 5 7 (zqb 6 63) HT_ ?_
   refine done_ (done_of HT_.out zqk) ?_
   have hcz0:w6.cell? ⟨gr,0,none⟩=some (.slice none 0 0):=(blk_cell BK.out 0).trans rfl
   have hcz1:w6.cell? ⟨gr,1,none⟩=some (.slice none 0 0):=(blk_cell BK.out 1).trans rfl
   have hfz0:=blk_frozen BK.out 0
   have hfz1:=blk_frozen BK.out 1
   have ha1:w6.cell? ⟨ga,1,none⟩=some (.slice A0_1 l0_1.length c0_1):=(blk_cell BA.out 1).trans rfl
   have hb1:w6.cell? ⟨gb,1,none⟩=some (.slice A1_1 l1_1.length c1_1):=(blk_cell BBx.out 1).trans rfl
   go_wp2
   refine bodyPost_ret (results_ct rfl _ _ gr 26 #[.slice none 0 0,.slice none 0 0] (0,0) _ rfl zq25 Try.underlying26 rfl zqk) rfl ?_
   exact⟨_,_,rfl,Kd.S_nil _ _ _ _ _,Kd.R_nil _ _ _ _ _,zq36⟩
 ·rw [decide_eq_false h2a,Bool.false_and,if_neg (by simp)] at h
  simp only [Option.some.injEq,Prod.mk.injEq] at h
  obtain⟨rfl,rfl,rfl⟩:=h
  have p1:((l0_1.length:Int)<2)=True:=eq_true (by omega)
  have p1':(l0_1.length<2)=True:=eq_true (by omega)
  clear h2a
  go_enter Try.func47,Try.ntmps47
  go_wp2_with (first|((with_reducible refine gate_dst (N:=2) rfl ?_);refine box_event ?hg (N:=2) ?hd (cs:= #[.slice A0_0 l0_0.length c0_0,.slice A0_1 l0_1.length c0_1]) (t:=26) ?hr ?_;(case hd=>rfl);(case hg=>rfl);(case hr=> exact zq9);intro ga hg w1 hbox hb;have n_:=zqm (below_step HB.out hb);clear HB;have HB:=n_;clear n_;have BA:=zqm hbox;have GA:=zqm (show w.heap.size≤ga from zq153);clear hb hbox hg)|((with_reducible refine gate_dst (N:=3) rfl ?_);refine box_event ?hg (N:=3) ?hd (cs:= #[.slice A1_0 l1_0.length c1_0,.slice A1_1 l1_1.length c1_1]) (t:=26) ?hr ?_;(case hd=>rfl);(case hg=>rfl);(case hr=> exact zq9);intro gb hg w2 hbox hb;have n_:=zqm (below_step HB.out hb);have m_:=zqm (blk_below BA.out hb);have GB:=zqm (show w.heap.size≤gb from zq65);clear HB BA;have HB:=n_;have BA:=m_;clear n_ m_;have BBx:=zqm hbox;clear hb hbox hg)|((with_reducible refine gate_dst (N:=4) rfl ?_);refine box_event ?hg (N:=4) ?hd (cs:= #[.slice none 0 0,.slice none 0 0]) (t:=26) ?hr ?_;(case hd=>rfl);(case hg=>rfl);(case hr=> exact zq9);intro gr hg w3 hbox hb;have n_:=zqm (below_step HB.out hb);have m_:=zqm (blk_below BA.out hb);have k_:=zqm (blk_below BBx.out hb);have GR:=zqm (show w.heap.size≤gr from zq65);clear HB BA BBx;have HB:=n_;have BA:=m_;have BBx:=k_;clear n_ m_ k_;have BK:=zqm hbox;clear hb hbox hg))
  refine start_ (n:=6) (S:=(fun w'=>w'.cell? ⟨ga,0,none⟩=some (.slice A0_0 l0_0.length c0_0)∧w'.cell? ⟨ga,1,none⟩=some (.slice A0_1 l0_1.length c0_1)∧w'.cell? ⟨gb,0,none⟩=some (.slice A1_0 l1_0.length c1_0)∧w'.cell? ⟨gb,1,none⟩=some (.slice A1_1 l1_1.length c1_1))) (ds:= []) (zqb 6 0) zqk rfl rfl ⟨(blk_cell (blk_drew BA.out) 0).trans rfl,(blk_cell (blk_drew BA.out) 1).trans rfl,(blk_cell (blk_drew BBx.out) 0).trans rfl,(blk_cell (blk_drew BBx.out) 1).trans rfl⟩ (fun hHeld=>?_)
  refine with_tabW impl_GluedOf.tab1 impl_GluedOf.bits1 (fun HT_ HW_=>?_)
  have n1_:=zqm (below_drew1 HB.out)
  have n2_:=zqm (blk_drew BA.out)
  have n3_:=zqm (blk_drew BBx.out)
  have n4_:=zqm (blk_drew BK.out)
  clear HB BA BBx BK
  have HB:=n1_
  have BA:=n2_
  have BBx:=n3_
  have BK:=n4_
  clear n1_ n2_ n3_ n4_
  generalize w3.drew=w4 at hHeld HB BA BBx BK ⊢
  refine zqw 0 14 (zqb 6 1) HT_ HW_ hHeld ?_
  refine zqw 2 16 (zqb 6 5) HT_ HW_ hHeld ?_
  refine one_ (i:=1) (N:=some 15) (zqb 6 7) rfl rfl (one_of HT_.out zqk) (by decide) (fun K hK=>?_)
  refine goes_ Try.func70 zqk rfl #[.agg #[.slice A0_0 l0_0.length c0_0,.slice A0_1 l0_1.length c0_1]] (by rfl) rfl rfl zq26 ?_
  refine(told_y kf0 _ _ l0_0 _ _ l0_1 _ (Kd.C_below HR0_0.out HB.out) HC0_0.out (Kd.C_below HR0_1.out HB.out) HC0_1.out HF0.out HLA.out).mono ?_
  rintro e w5 ⟨gA,vgA,rfl,hv,hge,hb⟩
  refine⟨_,rfl,?_⟩
  have HVA:=zqm hv
  have GgA:=zqm (Nat.le_trans (below_size HB.out) hge)
  have n1_:=zqm (below_step HB.out hb)
  have n2_:=zqm (blk_below BA.out hb)
  have n3_:=zqm (blk_below BBx.out hb)
  have n4_:=zqm (blk_below BK.out hb)
  clear HB BA BBx BK
  have HB:=n1_
  have BA:=n2_
  have BBx:=n3_
  have BK:=n4_
  clear n1_ n2_ n3_ n4_ hb hv hge
  refine hK.out _ _ ⟨(blk_cell BA.out 0).trans rfl,(blk_cell BA.out 1).trans rfl,(blk_cell BBx.out 0).trans rfl,(blk_cell BBx.out 1).trans rfl⟩ (fun h5=>?_)
  clear hK K
  refine norm_ (a':=?_) ?_ ?_
  rotate_left
  ·show Act.put _ (some 15) _=_
   simp only [Act.put,List.setIfInBounds_toArray,List.set_cons_zero,List.set_cons_succ,i64_w,i32_w]
   rfl
  refine one_ (i:=3) (N:=some 17) (zqb 6 15) rfl rfl (one_of HT_.out zqk) (by decide) (fun K hK=>?_)
  refine goes_ Try.func70 zqk rfl #[.agg #[.slice A1_0 l1_0.length c1_0,.slice A1_1 l1_1.length c1_1]] (by rfl) rfl rfl zq26 ?_
  refine(told_y kf1 _ _ l1_0 _ _ l1_1 _ (Kd.C_below HR1_0.out HB.out) HC1_0.out (Kd.C_below HR1_1.out HB.out) HC1_1.out HF1.out HLB.out).mono ?_
  rintro e w6 ⟨gB,vgB,rfl,hv,hge,hb⟩
  refine⟨_,rfl,?_⟩
  have HVB:=zqm hv
  have GgB:=zqm (Nat.le_trans (below_size HB.out) hge)
  have n0_:=zqm (HVA.out.below hb)
  have HNE:=zqm (show gA≠gB from fun e=>by have h1:=HVA.out.blk;have h2:gA<w5.heap.size:=blk_lt h1;have h3:=hge;omega)
  clear HVA
  have HVA:=n0_
  clear n0_
  have n1_:=zqm (below_step HB.out hb)
  have n2_:=zqm (blk_below BA.out hb)
  have n3_:=zqm (blk_below BBx.out hb)
  have n4_:=zqm (blk_below BK.out hb)
  clear HB BA BBx BK
  have HB:=n1_
  have BA:=n2_
  have BBx:=n3_
  have BK:=n4_
  clear n1_ n2_ n3_ n4_ hb hv hge
  refine hK.out _ _ ⟨(blk_cell BA.out 0).trans rfl,(blk_cell BA.out 1).trans rfl,(blk_cell BBx.out 0).trans rfl,(blk_cell BBx.out 1).trans rfl⟩ (fun h6=>?_)
  clear hK K
  refine norm_ (a':=?_) ?_ ?_
  rotate_left
  ·show Act.put _ (some 17) _=_
   simp only [Act.put,List.setIfInBounds_toArray,List.set_cons_zero,List.set_cons_succ,i64_w,i32_w]
   rfl
  refine zqp 4 6 (zqb 6 31) HT_ ?_
  refine zqp 5 7 (zqb 6 63) HT_ ?_
  refine done_ (done_of HT_.out zqk) ?_
  have hcz0:w6.cell? ⟨gr,0,none⟩=some (.slice none 0 0):=(blk_cell BK.out 0).trans rfl
  have hcz1:w6.cell? ⟨gr,1,none⟩=some (.slice none 0 0):=(blk_cell BK.out 1).trans rfl
  have hfz0:=blk_frozen BK.out 0
  have hfz1:=blk_frozen BK.out 1
  have ha1:w6.cell? ⟨ga,1,none⟩=some (.slice A0_1 l0_1.length c0_1):=(blk_cell BA.out 1).trans rfl
  have hb1:w6.cell? ⟨gb,1,none⟩=some (.slice A1_1 l1_1.length c1_1):=(blk_cell BBx.out 1).trans rfl
  go_wp2
  refine bodyPost_ret (results_ct rfl _ _ gr 26 #[.slice none 0 0,.slice none 0 0] (0,0) _ rfl zq25 Try.underlying26 rfl zqk) rfl ?_
  exact⟨_,_,rfl,Kd.S_nil _ _ _ _ _,Kd.R_nil _ _ _ _ _,zq36⟩
def setP (x y : Int) : Bool := Go.bits .andNot .i64 x y == 0
def setQ (n : Int) (x : Int) : Int := Go.bits .andNot .i64 n x
theorem sets_c1 (x y : Int) (W : World) : Calls Try.prog 113 #[.int .i64 x, .int .i64 y] W fun e w' => e = .returned (.bool (setP x y)) ∧ Drawn0 W w' := by
 unfold setP
 go_enter Try.func113,Try.ntmps113
 go_wp2
 go_ret
 exact⟨rfl,by repeat(first|exact Drawn0.refl _|apply Drawn0.step)⟩
theorem sets_c2 (x n : Int) (g : Nat) (W : World) (hG : W.heap[g]? = some (.cells #[.int .i64 n] 3 (0, 0))) : Calls Try.prog 114 #[.int .i64 x, .pointer (some ⟨g, 0, none⟩)] W fun e w' => e = .returned (.int .i64 (setQ n x)) ∧ Drawn0 W w' := by
 unfold setQ
 have x0:W.cell? ⟨g,0,none⟩=some (.int .i64 n):=(blk_cell hG 0).trans rfl
 clear hG
 go_enter Try.func114,Try.ntmps114
 go_wp2
 go_ret
 exact⟨rfl,by repeat(first|exact Drawn0.refl _|apply Drawn0.step)⟩
def sets0 : List (List Int) × List Int := (impl_made.f (fun x y => some (setP x y)) (setQ 0) (fun _ => true) 200 1 0 0).getD ([], [])
theorem sets0_eq : impl_made.f (fun x y => some (setP x y)) (setQ 0) (fun _ => true) 200 1 0 0 = some (sets0.1, sets0.2) := by kernel_rfl
def sets1 : List (List Int) × List Int := (impl_made.f (fun x y => some (setP x y)) (setQ 1) (fun _ => true) 200 2 0 0).getD ([], [])
theorem sets1_eq : impl_made.f (fun x y => some (setP x y)) (setQ 1) (fun _ => true) 200 2 0 0 = some (sets1.1, sets1.2) := by kernel_rfl
def sets2 : List (List Int) × List Int := (impl_made.f (fun x y => some (setP x y)) (setQ 3) (fun _ => true) 200 4 0 0).getD ([], [])
theorem sets2_eq : impl_made.f (fun x y => some (setP x y)) (setQ 3) (fun _ => true) 200 4 0 0 = some (sets2.1, sets2.2) := by kernel_rfl
def sets3 : List (List Int) × List Int := (impl_made.f (fun x y => some (setP x y)) (setQ 7) (fun _ => true) 200 8 0 0).getD ([], [])
theorem sets3_eq : impl_made.f (fun x y => some (setP x y)) (setQ 7) (fun _ => true) 200 8 0 0 = some (sets3.1, sets3.2) := by kernel_rfl
def impl_SetsOf.f (a0 : Int) : Option ((List (List Int)) × List Int × Bool) := if a0 = 0 then some (sets0.1, sets0.2, true) else if a0 = 1 then some (sets1.1, sets1.2, true) else if a0 = 2 then some (sets2.1, sets2.2, true) else if a0 = 3 then some (sets3.1, sets3.2, true) else some ([], [], false)
set_option maxHeartbeats 4000000 in
set_option maxRecDepth 100000 in
theorem impl_SetsOf.calls (a0 : Int) (r1 : List (List Int)) (r2 : List Int) (r3 : Bool) (w : World) (h : impl_SetsOf.f a0 = some (r1, r2, r3)) :
 Calls Try.prog 46 #[.int .i64 a0] w fun e w'=> ∃v0_ v1_:Value,e= .returned (.tuple #[.agg #[v0_,v1_],.bool r3])∧Kd.S (Kd.slice 3 (Kd.int .i64)) 24 w' w.heap.size (fun k_=>some k_≠(v1_:Value).ownBlock) v0_ r1∧Kd.R (Kd.int .i64) 3 w' w.heap.size (fun _=>True) v1_ r2∧Below w.heap.size w w':=by
 unfold impl_SetsOf.f at h
 by_cases h2:a0=0
 ·rw [if_pos h2] at h
  subst h2
  simp only [Option.some.injEq,Prod.mk.injEq] at h
  obtain⟨rfl,rfl,rfl⟩:=h
  have hu30:=Try.underlying26
  have e1:shl .i64 1 0=1:=by kernel_rfl
  have HB:=zqm (Below.refl w.heap.size w)
  go_enter Try.func46,Try.ntmps46
  go_wp2_with (first|((with_reducible refine gate_dst (N:=2) rfl ?_);refine box_event ?hg (N:=2) ?hd (cs:= #[.slice none 0 0,.slice none 0 0]) (t:=26) ?hr ?_;(case hd=>rfl);(case hg=>rfl);(case hr=> exact zq9);intro gb hg w1 hbox hb;have GE:=zqm (show w.heap.size≤gb from zq65);have n0_:=zqm (below_step HB.out hb);have BK:=zqm hbox;clear HB;have HB:=n0_;clear n0_ hb hbox hg)|((with_reducible refine gate_callee (f:=97) rfl ?_);refine goesL_ (some 18) rfl rfl Try.func97 zqk rfl #[.int .i64 1,.func (.func 113) #[] #[],.func (.func 114) #[] #[.pointer (some ⟨w1.heap.size,0,none⟩)]] rfl zq26 ?_;refine(impl_made.calls (fun x y=>some (setP x y)) (setQ 0) (fun _=>true) 200 1 0 113 114 _ _ #[] #[.pointer (some ⟨w1.heap.size,0,none⟩)] Try.func113 zqk rfl Try.func114 zqk rfl sets0.1 sets0.2 _ ?hu ?hv sets0_eq).mono ?_;(case hu=> exact zq128);(case hv=>exact fun x W _ hW=>sets_c2 x 0 w1.heap.size W (blk_below (MapKept.heap_alloc w1 _).1 hW));rintro e w3 ⟨v0_,v1_,rfl,hs,hr,hb⟩;refine⟨_,rfl,?_⟩;obtain⟨A0,c0,rfl⟩:=Kd.R_slice (Kd.S_R hs);obtain⟨A1,c1,rfl⟩:=Kd.R_slice hr;have HS:=zqm (Kd.S_lower hs (show w.heap.size≤_ from below_size (below_alloc HB.out _)));have HR:=zqm (Kd.R_lower hr (show w.heap.size≤_ from below_size (below_alloc HB.out _)));have n0_:=zqm (below_step (below_alloc HB.out _) hb);have n1_:=zqm (blk_below (blk_alloc BK.out _) hb);clear HB BK hs hr hb;have HB:=n0_;have BK:=n1_;clear n0_ n1_;have hcz0:w3.cell? ⟨gb,0,none⟩=some (.slice none 0 0):=(blk_cell BK.out 0).trans rfl;have hcz1:w3.cell? ⟨gb,1,none⟩=some (.slice none 0 0):=(blk_cell BK.out 1).trans rfl;have hfz0:=blk_frozen BK.out 0;have hfz1:=blk_frozen BK.out 1))
  refine bodyPost_ret (results_ct rfl _ _ gb 26 #[.slice A0 sets0.1.length c0,.slice A1 sets0.2.length c1] (0,0) _ rfl (by refine zqe ?_;refine blk_put (cs:= #[.slice A0 sets0.1.length c0,.slice none 0 0]) ?_ 1 _ rfl;refine blk_put (cs:= #[.slice none 0 0,.slice none 0 0]) ?_ 0 _ rfl;exact BK.out) Try.underlying26 rfl zqk) rfl ?_
  exact⟨_,_,rfl,Kd.S_mono (Kd.S_far (p:=⟨gb,1,none⟩) (Kd.S_far (p:=⟨gb,0,none⟩) (Kd.S_types HS.out BK.out (by decide)) (fun _ hk=>hk.2) _) (fun _ hk=>hk.2) _) (fun _ hk=>hk.1),Kd.R_mono (Kd.R_far (p:=⟨gb,1,none⟩) (Kd.R_far (p:=⟨gb,0,none⟩) (Kd.R_types HR.out BK.out (by decide)) (fun _ hk=>hk.2) _) (fun _ hk=>hk.2) _) (fun _ _=>trivial),zq10⟩
 rw [if_neg h2] at h
 have h0:=h2
 clear h2
 by_cases h2:a0=1
 ·rw [if_pos h2] at h
  subst h2
  simp only [Option.some.injEq,Prod.mk.injEq] at h
  obtain⟨rfl,rfl,rfl⟩:=h
  have hu30:=Try.underlying26
  have e1:shl .i64 1 1=2:=by kernel_rfl
  have HB:=zqm (Below.refl w.heap.size w)
  go_enter Try.func46,Try.ntmps46
  go_wp2_with (first|((with_reducible refine gate_dst (N:=2) rfl ?_);refine box_event ?hg (N:=2) ?hd (cs:= #[.slice none 0 0,.slice none 0 0]) (t:=26) ?hr ?_;(case hd=>rfl);(case hg=>rfl);(case hr=> exact zq9);intro gb hg w1 hbox hb;have GE:=zqm (show w.heap.size≤gb from zq65);have n0_:=zqm (below_step HB.out hb);have BK:=zqm hbox;clear HB;have HB:=n0_;clear n0_ hb hbox hg)|((with_reducible refine gate_callee (f:=97) rfl ?_);refine goesL_ (some 18) rfl rfl Try.func97 zqk rfl #[.int .i64 2,.func (.func 113) #[] #[],.func (.func 114) #[] #[.pointer (some ⟨w1.heap.size,0,none⟩)]] rfl zq26 ?_;refine(impl_made.calls (fun x y=>some (setP x y)) (setQ 1) (fun _=>true) 200 2 0 113 114 _ _ #[] #[.pointer (some ⟨w1.heap.size,0,none⟩)] Try.func113 zqk rfl Try.func114 zqk rfl sets1.1 sets1.2 _ ?hu ?hv sets1_eq).mono ?_;(case hu=> exact zq128);(case hv=>exact fun x W _ hW=>sets_c2 x 1 w1.heap.size W (blk_below (MapKept.heap_alloc w1 _).1 hW));rintro e w3 ⟨v0_,v1_,rfl,hs,hr,hb⟩;refine⟨_,rfl,?_⟩;obtain⟨A0,c0,rfl⟩:=Kd.R_slice (Kd.S_R hs);obtain⟨A1,c1,rfl⟩:=Kd.R_slice hr;have HS:=zqm (Kd.S_lower hs (show w.heap.size≤_ from below_size (below_alloc HB.out _)));have HR:=zqm (Kd.R_lower hr (show w.heap.size≤_ from below_size (below_alloc HB.out _)));have n0_:=zqm (below_step (below_alloc HB.out _) hb);have n1_:=zqm (blk_below (blk_alloc BK.out _) hb);clear HB BK hs hr hb;have HB:=n0_;have BK:=n1_;clear n0_ n1_;have hcz0:w3.cell? ⟨gb,0,none⟩=some (.slice none 0 0):=(blk_cell BK.out 0).trans rfl;have hcz1:w3.cell? ⟨gb,1,none⟩=some (.slice none 0 0):=(blk_cell BK.out 1).trans rfl;have hfz0:=blk_frozen BK.out 0;have hfz1:=blk_frozen BK.out 1))
  refine bodyPost_ret (results_ct rfl _ _ gb 26 #[.slice A0 sets1.1.length c0,.slice A1 sets1.2.length c1] (0,0) _ rfl (by refine zqe ?_;refine blk_put (cs:= #[.slice A0 sets1.1.length c0,.slice none 0 0]) ?_ 1 _ rfl;refine blk_put (cs:= #[.slice none 0 0,.slice none 0 0]) ?_ 0 _ rfl;exact BK.out) Try.underlying26 rfl zqk) rfl ?_
  exact⟨_,_,rfl,Kd.S_mono (Kd.S_far (p:=⟨gb,1,none⟩) (Kd.S_far (p:=⟨gb,0,none⟩) (Kd.S_types HS.out BK.out (by decide)) (fun _ hk=>hk.2) _) (fun _ hk=>hk.2) _) (fun _ hk=>hk.1),Kd.R_mono (Kd.R_far (p:=⟨gb,1,none⟩) (Kd.R_far (p:=⟨gb,0,none⟩) (Kd.R_types HR.out BK.out (by decide)) (fun _ hk=>hk.2) _) (fun _ hk=>hk.2) _) (fun _ _=>trivial),zq10⟩
 rw [if_neg h2] at h
 have h1:=h2
 clear h2
 by_cases h2:a0=2
 ·rw [if_pos h2] at h
  subst h2
  simp only [Option.some.injEq,Prod.mk.injEq] at h
  obtain⟨rfl,rfl,rfl⟩:=h
  have hu30:=Try.underlying26
  have e1:shl .i64 1 2=4:=by kernel_rfl
  have HB:=zqm (Below.refl w.heap.size w)
  go_enter Try.func46,Try.ntmps46
  go_wp2_with (first|((with_reducible refine gate_dst (N:=2) rfl ?_);refine box_event ?hg (N:=2) ?hd (cs:= #[.slice none 0 0,.slice none 0 0]) (t:=26) ?hr ?_;(case hd=>rfl);(case hg=>rfl);(case hr=> exact zq9);intro gb hg w1 hbox hb;have GE:=zqm (show w.heap.size≤gb from zq65);have n0_:=zqm (below_step HB.out hb);have BK:=zqm hbox;clear HB;have HB:=n0_;clear n0_ hb hbox hg)|((with_reducible refine gate_callee (f:=97) rfl ?_);refine goesL_ (some 18) rfl rfl Try.func97 zqk rfl #[.int .i64 4,.func (.func 113) #[] #[],.func (.func 114) #[] #[.pointer (some ⟨w1.heap.size,0,none⟩)]] rfl zq26 ?_;refine(impl_made.calls (fun x y=>some (setP x y)) (setQ 3) (fun _=>true) 200 4 0 113 114 _ _ #[] #[.pointer (some ⟨w1.heap.size,0,none⟩)] Try.func113 zqk rfl Try.func114 zqk rfl sets2.1 sets2.2 _ ?hu ?hv sets2_eq).mono ?_;(case hu=> exact zq128);(case hv=>exact fun x W _ hW=>sets_c2 x 3 w1.heap.size W (blk_below (MapKept.heap_alloc w1 _).1 hW));rintro e w3 ⟨v0_,v1_,rfl,hs,hr,hb⟩;refine⟨_,rfl,?_⟩;obtain⟨A0,c0,rfl⟩:=Kd.R_slice (Kd.S_R hs);obtain⟨A1,c1,rfl⟩:=Kd.R_slice hr;have HS:=zqm (Kd.S_lower hs (show w.heap.size≤_ from below_size (below_alloc HB.out _)));have HR:=zqm (Kd.R_lower hr (show w.heap.size≤_ from below_size (below_alloc HB.out _)));have n0_:=zqm (below_step (below_alloc HB.out _) hb);have n1_:=zqm (blk_below (blk_alloc BK.out _) hb);clear HB BK hs hr hb;have HB:=n0_;have BK:=n1_;clear n0_ n1_;have hcz0:w3.cell? ⟨gb,0,none⟩=some (.slice none 0 0):=(blk_cell BK.out 0).trans rfl;have hcz1:w3.cell? ⟨gb,1,none⟩=some (.slice none 0 0):=(blk_cell BK.out 1).trans rfl;have hfz0:=blk_frozen BK.out 0;have hfz1:=blk_frozen BK.out 1))
  refine bodyPost_ret (results_ct rfl _ _ gb 26 #[.slice A0 sets2.1.length c0,.slice A1 sets2.2.length c1] (0,0) _ rfl (by refine zqe ?_;refine blk_put (cs:= #[.slice A0 sets2.1.length c0,.slice none 0 0]) ?_ 1 _ rfl;refine blk_put (cs:= #[.slice none 0 0,.slice none 0 0]) ?_ 0 _ rfl;exact BK.out) Try.underlying26 rfl zqk) rfl ?_
  exact⟨_,_,rfl,Kd.S_mono (Kd.S_far (p:=⟨gb,1,none⟩) (Kd.S_far (p:=⟨gb,0,none⟩) (Kd.S_types HS.out BK.out (by decide)) (fun _ hk=>hk.2) _) (fun _ hk=>hk.2) _) (fun _ hk=>hk.1),Kd.R_mono (Kd.R_far (p:=⟨gb,1,none⟩) (Kd.R_far (p:=⟨gb,0,none⟩) (Kd.R_types HR.out BK.out (by decide)) (fun _ hk=>hk.2) _) (fun _ hk=>hk.2) _) (fun _ _=>trivial),zq10⟩
 rw [if_neg h2] at h
 have h2_:=h2
 clear h2
 by_cases h2:a0=3
 ·rw [if_pos h2] at h
  subst h2
  simp only [Option.some.injEq,Prod.mk.injEq] at h
  obtain⟨rfl,rfl,rfl⟩:=h
  have hu30:=Try.underlying26
  have e1:shl .i64 1 3=8:=by kernel_rfl
  have HB:=zqm (Below.refl w.heap.size w)
  go_enter Try.func46,Try.ntmps46
  go_wp2_with (first|((with_reducible refine gate_dst (N:=2) rfl ?_);refine box_event ?hg (N:=2) ?hd (cs:= #[.slice none 0 0,.slice none 0 0]) (t:=26) ?hr ?_;(case hd=>rfl);(case hg=>rfl);(case hr=> exact zq9);intro gb hg w1 hbox hb;have GE:=zqm (show w.heap.size≤gb from zq65);have n0_:=zqm (below_step HB.out hb);have BK:=zqm hbox;clear HB;have HB:=n0_;clear n0_ hb hbox hg)|((with_reducible refine gate_callee (f:=97) rfl ?_);refine goesL_ (some 18) rfl rfl Try.func97 zqk rfl #[.int .i64 8,.func (.func 113) #[] #[],.func (.func 114) #[] #[.pointer (some ⟨w1.heap.size,0,none⟩)]] rfl zq26 ?_;refine(impl_made.calls (fun x y=>some (setP x y)) (setQ 7) (fun _=>true) 200 8 0 113 114 _ _ #[] #[.pointer (some ⟨w1.heap.size,0,none⟩)] Try.func113 zqk rfl Try.func114 zqk rfl sets3.1 sets3.2 _ ?hu ?hv sets3_eq).mono ?_;(case hu=> exact zq128);(case hv=>exact fun x W _ hW=>sets_c2 x 7 w1.heap.size W (blk_below (MapKept.heap_alloc w1 _).1 hW));rintro e w3 ⟨v0_,v1_,rfl,hs,hr,hb⟩;refine⟨_,rfl,?_⟩;obtain⟨A0,c0,rfl⟩:=Kd.R_slice (Kd.S_R hs);obtain⟨A1,c1,rfl⟩:=Kd.R_slice hr;have HS:=zqm (Kd.S_lower hs (show w.heap.size≤_ from below_size (below_alloc HB.out _)));have HR:=zqm (Kd.R_lower hr (show w.heap.size≤_ from below_size (below_alloc HB.out _)));have n0_:=zqm (below_step (below_alloc HB.out _) hb);have n1_:=zqm (blk_below (blk_alloc BK.out _) hb);clear HB BK hs hr hb;have HB:=n0_;have BK:=n1_;clear n0_ n1_;have hcz0:w3.cell? ⟨gb,0,none⟩=some (.slice none 0 0):=(blk_cell BK.out 0).trans rfl;have hcz1:w3.cell? ⟨gb,1,none⟩=some (.slice none 0 0):=(blk_cell BK.out 1).trans rfl;have hfz0:=blk_frozen BK.out 0;have hfz1:=blk_frozen BK.out 1))
  refine bodyPost_ret (results_ct rfl _ _ gb 26 #[.slice A0 sets3.1.length c0,.slice A1 sets3.2.length c1] (0,0) _ rfl (by refine zqe ?_;refine blk_put (cs:= #[.slice A0 sets3.1.length c0,.slice none 0 0]) ?_ 1 _ rfl;refine blk_put (cs:= #[.slice none 0 0,.slice none 0 0]) ?_ 0 _ rfl;exact BK.out) Try.underlying26 rfl zqk) rfl ?_
  exact⟨_,_,rfl,Kd.S_mono (Kd.S_far (p:=⟨gb,1,none⟩) (Kd.S_far (p:=⟨gb,0,none⟩) (Kd.S_types HS.out BK.out (by decide)) (fun _ hk=>hk.2) _) (fun _ hk=>hk.2) _) (fun _ hk=>hk.1),Kd.R_mono (Kd.R_far (p:=⟨gb,1,none⟩) (Kd.R_far (p:=⟨gb,0,none⟩) (Kd.R_types HR.out BK.out (by decide)) (fun _ hk=>hk.2) _) (fun _ hk=>hk.2) _) (fun _ _=>trivial),zq10⟩
 rw [if_neg h2] at h
 have h3:=h2
 clear h2
 simp only [Option.some.injEq,Prod.mk.injEq] at h
 obtain⟨rfl,rfl,rfl⟩:=h
 have hu30:=Try.underlying26
 have HB:=zqm (Below.refl w.heap.size w)
 have hor:a0<0∨(¬a0<0∧a0>3):=by omega
 clear h0 h1 h2_ h3
 rcases hor with h4|⟨h4,h5⟩
 ·have b1:(a0<0)=True:=eq_true h4
  have b1':decide (a0<0)=true:=decide_eq_true h4
  clear h4
  go_enter Try.func46,Try.ntmps46
  go_wp2_with (first|((with_reducible refine gate_dst (N:=2) rfl ?_);refine box_event ?hg (N:=2) ?hd (cs:= #[.slice none 0 0,.slice none 0 0]) (t:=26) ?hr ?_;(case hd=>rfl);(case hg=>rfl);(case hr=> exact zq9);intro gb hg w1 hbox hb;have GE:=zqm (show w.heap.size≤gb from zq65);have n0_:=zqm (below_step HB.out hb);have BK:=zqm hbox;clear HB;have HB:=n0_;clear n0_ hb hbox hg;have hcz0:w1.cell? ⟨gb,0,none⟩=some (.slice none 0 0):=(blk_cell BK.out 0).trans rfl;have hcz1:w1.cell? ⟨gb,1,none⟩=some (.slice none 0 0):=(blk_cell BK.out 1).trans rfl;have hfz0:=blk_frozen BK.out 0;have hfz1:=blk_frozen BK.out 1))
  refine bodyPost_ret (results_ct rfl _ _ gb 26 #[.slice none 0 0,.slice none 0 0] (0,0) _ rfl zq25 Try.underlying26 rfl zqk) rfl ?_
  exact⟨_,_,rfl,Kd.S_nil _ _ _ _ _,Kd.R_nil _ _ _ _ _,zq10⟩
 ·have b1:(a0<0)=False:=eq_false h4
  have b1':decide (a0<0)=false:=decide_eq_false h4
  have b2:(3<a0)=True:=eq_true h5
  have b2':decide (3<a0)=true:=decide_eq_true h5
  clear h4 h5
  go_enter Try.func46,Try.ntmps46
  go_wp2_with (first|((with_reducible refine gate_dst (N:=2) rfl ?_);refine box_event ?hg (N:=2) ?hd (cs:= #[.slice none 0 0,.slice none 0 0]) (t:=26) ?hr ?_;(case hd=>rfl);(case hg=>rfl);(case hr=> exact zq9);intro gb hg w1 hbox hb;have GE:=zqm (show w.heap.size≤gb from zq65);have n0_:=zqm (below_step HB.out hb);have BK:=zqm hbox;clear HB;have HB:=n0_;clear n0_ hb hbox hg;have hcz0:w1.cell? ⟨gb,0,none⟩=some (.slice none 0 0):=(blk_cell BK.out 0).trans rfl;have hcz1:w1.cell? ⟨gb,1,none⟩=some (.slice none 0 0):=(blk_cell BK.out 1).trans rfl;have hfz0:=blk_frozen BK.out 0;have hfz1:=blk_frozen BK.out 1))
  refine bodyPost_ret (results_ct rfl _ _ gb 26 #[.slice none 0 0,.slice none 0 0] (0,0) _ rfl zq25 Try.underlying26 rfl zqk) rfl ?_
  exact⟨_,_,rfl,Kd.S_nil _ _ _ _ _,Kd.R_nil _ _ _ _ _,zq10⟩
end Go.Proofs.Ytcbjpdaogicibaa.Print
end
