/- The law FnExactRunDesk returns true for every input and leaves its arguments as they were: the walk's contract, lifted to the given statement. No condition is added. -/
import Derived.Test.YtfpaejlipaainaaGreatDoorR03
set_option maxRecDepth 100000
namespace Go.Proofs.YtfpaejlipaainaaGreatDoor
open Go.ChangeShapes Go.WideShapes Go.ChangeAt Go.RowKit Go.Deep
theorem own_FnExactRunDesk:ownKnob Tryz.prog.godebug=none:=by kernel_rfl
theorem reads_FnExactRunDesk (os:Os){H:Type}(enc:TypeId × Value→H):∃(places:List MemPlace),DataW.whole enc Tryz.prog ((World.laidAll Tryz.prog os Rows.fnExactRunDeskRow.laid).forCall (λ_ _=>0) ⟨#[],#[.string ByteArray.empty],[]⟩).memory Tryz.f5.params.toList Rows.fnExactRunDeskSpec.vars false #[.string ByteArray.empty].toList 8=some ([.lit (.string [])],[],places) :=
 ⟨[],by kernel_rfl⟩
theorem lifted_FnExactRunDesk (os:Os)(started:os.Started)(H:Type)(enc:TypeId × Value→H)(F:Stop.Interp) :
  ReturnsInHanded {} Tryz.checked os 5 .any ((OpenSpec.ofChange Rows.fnExactRunDeskSpec).preRow enc Tryz.prog Tryz.f5 Rows.fnExactRunDeskRow.domain false Rows.fnExactRunDeskRow.laid) (((OpenSpec.ofChange Rows.fnExactRunDeskSpec).at F).post enc Tryz.prog Tryz.f5 false true false false):=by
 obtain⟨places,hx⟩:=reads_FnExactRunDesk os enc;refine returnsInHanded_of_row (C:=Tryz.checked) (s:=OpenSpec.ofChange Rows.fnExactRunDeskSpec) own_FnExactRunDesk started (by kernel_rfl) Tryz.func5
  (UG (C:=Tryz.checked) (World.laidAll Tryz.prog os Rows.fnExactRunDeskRow.laid) #[.string ByteArray.empty] (World.laidAll_os _ _ _) (by kernel_rfl) (by kernel_rfl) (by kernel_rfl)
   (OpenSpec.preRow_of_cond 8 hx (by kernel_rfl) (λk hk=>by cases hk) (by kernel_rfl) (by rw[MakeChecks.laidMetH_plain _ _ _ (by kernel_rfl)];exact laidMet_laidAll _ (by kernel_rfl) (by kernel_rfl)))) ?_
 intro W base args ds gs before hval0 hW _ _ _ hL hsh _;rw[MakeChecks.laidMetH_plain _ _ _ (by kernel_rfl)] at hL;have hG:Gl W:=Zkn hL (by simp[Rows.fnExactRunDeskRow];first|done|rfl|(simp[Rows.laid_internal_strconv_uint64pow10,Lib.tabData,Lib.pow10Tab,List.range,List.range.loop])) hsh;have hval:∀(j:Nat) t v,Tryz.f5.params[j]?=some t→args[j]?=some v→Value.okWide Tryz.prog W .any base t v:=hval0;have hW':=hW;obtain⟨p,q,hA0,hV,rfl,_,_⟩:=hW;have hA:DataW.TrodAll enc Tryz.prog W 0 (λ_=>true) true Tryz.f5.params.toList args.toList ds p:=hA0;rw[Tryz.params5] at hA hval;obtain⟨v0,vs0,d0,ds0,p0,q0,hargs,rfl,rfl,h0,r0⟩:=trodAll_cons hA;obtain⟨rfl,rfl,rfl⟩:=trodAll_nil r0;obtain rfl:args=#[v0]:=by cases args;simp_all
 obtain⟨rfl,rfl⟩:=trodVars_none hV;obtain⟨a0,rfl,rfl,rfl,w0⟩:=Go.ChangeMaps.open_string Tryz.underlying9 (hval 0 9 v0 rfl rfl) h0;clear hA0 hval0;refine(Zb6 W hG a0 w0).mono λe W' ⟨he,hb⟩=>?_
 subst he;exact⟨_,rfl,ZdR (by kernel_rfl) (by kernel_rfl) rfl Tryz.underlying4 rfl hW' rfl hb⟩
theorem jqn_FnExactRunDesk:Tryz.pinned.checked.prog.funcNamed Rows.fnExactRunDeskRow.func=some 5:=by kernel_rfl
theorem jqi_FnExactRunDesk:Tryz.f5.isInstance Tryz.pinned.checked.prog Rows.fnExactRunDeskRow.origin Rows.fnExactRunDeskRow.targs:=of_decide_eq_true (by kernel_rfl)
theorem jqw_FnExactRunDesk:Tryz.f5.isWrapper Tryz.pinned.checked.prog Rows.fnExactRunDeskRow.wrapper Rows.fnExactRunDeskRow.mainSum:=by unfold Func.isWrapper;first|(rw[if_pos (by decide +kernel)];kernel_rfl)|(rw[if_neg (by decide +kernel)];exact⟨rfl,rfl⟩)
theorem jqa_FnExactRunDesk:(Rows.fnExactRunDeskRow.inPlace==Tryz.pinned.checked.prog.inPlace 5)=true:=by kernel_rfl
theorem jqb_FnExactRunDesk:(Rows.fnExactRunDeskRow.unfollowed==Tryz.pinned.checked.prog.unfollowed 5)=true:=by kernel_rfl
theorem jqc_FnExactRunDesk:(Rows.fnExactRunDeskRow.recurses==Tryz.pinned.checked.prog.recurses 5)=true:=by kernel_rfl
theorem jqd_FnExactRunDesk:(Rows.fnExactRunDeskRow.named==Tryz.pinned.checked.prog.varsNamed 5)=true:=by kernel_rfl
theorem jqj_FnExactRunDesk:joinedFacts Tryz.pinned.checked.prog 5 Tryz.f5 (OpenSpec.ofChange Rows.fnExactRunDeskSpec).bare Rows.fnExactRunDeskRow=true:=by
 unfold joinedFacts;rw[jqa_FnExactRunDesk,jqb_FnExactRunDesk,jqc_FnExactRunDesk,jqd_FnExactRunDesk]
 kernel_rfl
theorem said_FnExactRunDesk:Rows.FnExactRunDeskSaid :=
 OpenClaim.holds_of_cond 5 Tryz.f5 rfl rfl rfl rfl rfl rfl rfl ⟨rfl,rfl,rfl,rfl,rfl⟩ rfl rfl rfl rfl rfl jqn_FnExactRunDesk Tryz.func5 jqj_FnExactRunDesk jqi_FnExactRunDesk jqw_FnExactRunDesk
  (λos started H enc _ F=>by rw[OpenClaim.pre_eq_preRow];exact lifted_FnExactRunDesk os started H enc F)
theorem plain_FnExactRunDesk (f : FuncId) (fn : Func) (hf : Tryz.pinned.checked.prog.funcNamed "loop.example/g01064/laws.FnExactRunDesk" = some f) (hfn : Tryz.pinned.checked.prog.funcs[f]? = some fn) :
  false=Tryz.pinned.checked.prog.looks []/\∀(j:Nat) t,fn.params[j]?=some t→Tryz.pinned.checked.prog.wantsStandIn t=false:=by
 obtain rfl : f = 5 := Option.some.inj ((show Tryz.prog.funcNamed "loop.example/g01064/laws.FnExactRunDesk" = some 5 by kernel_rfl).symm.trans hf) |>.symm
 obtain rfl:fn=Tryz.f5:=(Option.some.inj (Tryz.func5.symm.trans hfn)).symm;refine⟨by kernel_rfl,λj t ht=>?_⟩;have hall:(Tryz.f5.params.all λu=>!Tryz.prog.wantsStandIn u)=true:=by kernel_rfl
 have:=Array.all_eq_true.1 hall j (Array.getElem?_eq_some_iff.1 ht).1;rw[(Array.getElem?_eq_some_iff.1 ht).2] at this;exact(show Tryz.prog.wantsStandIn t=false by simpa using this)
theorem FnExactRunDesk_holds:Rows.FnExactRunDeskCardSaid :=
 Claim7.holds_tied_plain_at .later [] _ _ _ _ said_FnExactRunDesk (λ_ h=>by cases h) (by kernel_rfl) (λ_ h=>by cases h) fnExactRunDesk_row_tie rfl ⟨rfl,rfl⟩ (by kernel_rfl) rfl plain_FnExactRunDesk (by kernel_rfl)
#print axioms FnExactRunDesk_holds
end Go.Proofs.YtfpaejlipaainaaGreatDoor
