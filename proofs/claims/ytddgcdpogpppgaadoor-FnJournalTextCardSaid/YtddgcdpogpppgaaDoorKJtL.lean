/- Journals are read. ReadJournal of the text, if there is one, are the deeds, and the whole text. -/
import Derived.Test.YtddgcdpogpppgaaDoorRows
import Derived.Test.YtddgcdpogpppgaaDoorCards
import Derived.Test.YtddgcdpogpppgaaDoorTie
import Derived.Test.YtddgcdpogpppgaaDoorKJtL1
import Derived.SevenTiedAt
import Derived.JoinedCond
import Derived.Below
section
namespace Go.Proofs.YtddgcdpogpppgaaDoor.fnJournalText
open Go.ChangeShapes Go.WideShapes Go.ChangeAt Go.RowKit
open Go.ChangeMaps (open_string shut_string)
set_option maxRecDepth 100000 in
set_option maxHeartbeats 1000000 in
theorem lifted (os : Os) (started : os.Started) (H : Type) (enc : TypeId × Value → H) (F : Stop.Interp) :
 ReturnsInHanded {} Tryd.checked os 9 .any ((OpenSpec.ofChange Rows.fnJournalTextSpec).preRow enc Tryd.prog Tryd.f9 Rows.fnJournalTextRow.domain false Rows.fnJournalTextRow.laid) (((OpenSpec.ofChange Rows.fnJournalTextSpec).at F).post enc Tryd.prog Tryd.f9 false true false false):=by
 have hx0:(DataW.whole enc Tryd.prog ((World.laidAll Tryd.prog os Rows.fnJournalTextRow.laid).forCall (fun _ _=>0) ⟨#[],#[.slice none 0 0],[]⟩).memory Tryd.f9.params.toList (OpenSpec.ofChange Rows.fnJournalTextSpec).vars false (#[.slice none 0 0]:Array Value).toList 8).isSome=true:=by kernel_rfl
 obtain⟨x,hx⟩:=Option.isSome_iff_exists.1 hx0
 clear hx0
 refine returnsInHanded_of_row (C:=Tryd.checked) (s:=OpenSpec.ofChange Rows.fnJournalTextSpec) Print.own started zqk Tryd.func9
  (Print.witness_row (enc:=enc) (C:=Tryd.checked) false (World.laidAll Tryd.prog os Rows.fnJournalTextRow.laid) #[.slice none 0 0] (World.laidAll_os _ _ _) (World.shaped_of_ZipB zqk zqk) zqk
   (OpenSpec.preRow_of_cond 8 hx rfl (fun k hk=>by cases hk) zqk zq134)) ?_
 clear hx x
 intro W base args ds gs before hval0 hW hc1_ hc2_ hc3_ hL hS hc4_
 clear hc1_ hc2_ hc3_ hc4_
 have hval: ∀(j:Nat) t v,Tryd.f9.params[j]? =some t→args[j]? =some v→Value.okWide Tryd.prog W .any base t v:=hval0
 have hW':=hW
 obtain⟨p,q,hA0,hV0,rfl,hfz,hnd⟩:=hW
 have hA:DataW.TrodAll enc Tryd.prog W 0 (fun _=>true) true Tryd.f9.params.toList args.toList ds p:=hA0
 have hV:DataW.TrodVars enc Tryd.prog W (fun _=>true) [_] gs q:=hV0
 rw [Tryd.params9] at hA hval
 obtain⟨v0,vs0,d0,ds0,p0,q0,hargs,rfl,rfl,h0,r0⟩:=trodAll_cons hA
 obtain⟨rfl,rfl,rfl⟩:=trodAll_nil r0
 obtain rfl:args= #[v0]:=by cases args;simp_all
 rw [MakeChecks.laidMetH_plain _ _ _ zqk] at hL
 obtain⟨ad,c,hWords,hvw⟩:=Print.words_in hL zqk (.tail _ (.tail _ (.tail _ (.tail _ (.tail _ (.tail _ (.head _)))))))
 obtain⟨g,t,cs,fuel,d,p',rfl,hg,ht,hvar,hd,rfl⟩:=trodVars_one hV
 obtain rfl:=Option.some.inj (hvw.symm.trans hvar)
 obtain rfl:=Option.some.inj ((show Tryd.prog.globalNamed _=some 0 by kernel_rfl).symm.trans hg)
 obtain rfl:=Option.some.inj (Print.gWords.symm.trans ht)
 have hltv: ∀x ∈ p',x.block<W.heap.size:=fun x hx=>hW'.lt x (List.mem_append_right _ (List.mem_append_right _ hx))
 have hg0:0<W.heap.size:=World.block_lt_of_cell? W _ hWords.v
 have hErrs:Print.ErrsAt W:=⟨Print.err_in hL zqk zqk (.tail _ (.tail _ (.tail _ (.tail _ (.tail _ (.head _)))))),Print.err_in hL zqk zqk (.tail _ (.tail _ (.tail _ (.tail _ (.head _))))),Print.maxlen_in hS⟩
 have k0:=h0
 have lt0: ∀x ∈ p0,x.block<W.heap.size:=by obtain⟨m,hm⟩:=k0;exact DataW.trod_lt m _ _ _ hm
 obtain⟨A0,c0,l0,rfl,hc0,hb0,hr0⟩:=Print.bytes_in (hval 0 42 v0 rfl rfl) h0
 clear hA0 hval0 hV0
 refine(Print.laws_FnJournalText.holds A0 c0 l0 W ad c hWords hErrs hr0 hc0 hb0).mono fun e W' ⟨he,bel⟩=>?_
 subst he
 obtain⟨qv,hv'⟩:=Print.words_back (enc:=enc) hg hvw hd hltv hg0 bel
 have hpost:Rows.fnJournalTextSpec.post enc Tryd.prog Tryd.f9 false true false false W _ (.bool true) W':=⟨_,_,_,[],_,qv,hW',trodAll_mk1 (shut_bool Tryd.underlying4 _),(trodAll_cons_mk (Below.trod Print.laidOut zqk (of_decide_eq_true zqk) k0 bel lt0) trodAll_mk0),hv',bel.frame _,fun h=>by cases h⟩
 exact⟨_,rfl,hpost⟩
theorem said : Rows.FnJournalTextSaid :=
 OpenClaim.holds_of_cond 9 Tryd.f9 rfl rfl rfl rfl rfl rfl rfl ⟨rfl,rfl,rfl,rfl,rfl⟩ rfl rfl rfl rfl rfl zqk Tryd.func9 zqk
  (of_decide_eq_true zqk) (by unfold Func.isWrapper;first|(rw [if_pos (by decide+kernel)];kernel_rfl)|(rw [if_neg (by decide+kernel)];exact⟨rfl,rfl⟩))
  (fun os started H enc _ F=>by rw [OpenClaim.pre_eq_preRow];exact lifted os started H enc F)
theorem plain (f : FuncId) (fn : Func) (hf : Tryd.pinned.checked.prog.funcNamed Rows.fnJournalTextRow.func = some f) (hfn : Tryd.pinned.checked.prog.funcs[f]? = some fn) :
 Rows.fnJournalTextCard.stood.looks=Tryd.pinned.checked.prog.looks []∧ ∀(j:Nat) t,fn.params[j]? =some t→Tryd.pinned.checked.prog.wantsStandIn t=false:=by
 obtain rfl:f=9:=Option.some.inj ((show Tryd.prog.funcNamed Rows.fnJournalTextRow.func=some 9 by kernel_rfl).symm.trans hf) |>.symm
 obtain rfl:fn=Tryd.f9:=(Option.some.inj (Tryd.func9.symm.trans hfn)).symm
 refine⟨by kernel_rfl,fun j t ht=>?_⟩
 rw [Tryd.params9] at ht
 have hm:t ∈ [42]:=by simpa using Array.mem_of_getElem? ht
 have hall:([42].all fun u=>!Tryd.prog.wantsStandIn u)=true:=by kernel_rfl
 exact(show Tryd.prog.wantsStandIn t=false by simpa using List.all_eq_true.1 hall t hm)
theorem card : Rows.FnJournalTextCardSaid :=
 Claim7.holds_tied_plain_at .later [] _ _ _ _ said (fun _ h=>by cases h) zqk (fun _ h=>by cases h) fnJournalText_row_tie rfl ⟨rfl,rfl⟩ zqk rfl plain zqk
end Go.Proofs.YtddgcdpogpppgaaDoor.fnJournalText
namespace Go.Proofs.YtddgcdpogpppgaaDoor
theorem fnJournalText_holds : Rows.FnJournalTextCardSaid := fnJournalText.card
end Go.Proofs.YtddgcdpogpppgaaDoor
end
