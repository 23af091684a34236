/- The law FnExactDeskCommand returns true for every input and leaves its arguments as they were: the walk's contract, lifted to the given statement. No condition is added. -/
import Derived.Test.YtfpaejlipaainaaGreatDoorD04
set_option maxRecDepth 100000
namespace Go.Proofs.YtfpaejlipaainaaGreatDoor
open Go.ChangeShapes Go.WideShapes Go.ChangeAt Go.RowKit Go.Deep
theorem own_FnExactDeskCommand:ownKnob Tryz.prog.godebug=none:=by kernel_rfl
theorem reads_FnExactDeskCommand (os:Os){H:Type}(enc:TypeId × Value→H):∃(places:List MemPlace),DataW.whole enc Tryz.prog ((World.laidAll Tryz.prog os Rows.fnExactDeskCommandRow.laid).forCall (λ_ _=>0) ⟨#[],#[.agg #[.string ByteArray.empty,.int .i64 0,.slice none 0 0,.slice none 0 0,.string ByteArray.empty],.string ByteArray.empty],[]⟩).memory Tryz.f4.params.toList Rows.fnExactDeskCommandSpec.vars false #[.agg #[.string ByteArray.empty,.int .i64 0,.slice none 0 0,.slice none 0 0,.string ByteArray.empty],.string ByteArray.empty].toList 8=some ([.agg [.lit (.string []),.lit (.int .i64 0),.nil,.nil,.lit (.string [])],.lit (.string [])],[],places) :=
 ⟨[],by kernel_rfl⟩
theorem lifted_FnExactDeskCommand (os:Os)(started:os.Started)(H:Type)(enc:TypeId × Value→H)(F:Stop.Interp) :
  ReturnsInHanded {} Tryz.checked os 4 .any ((OpenSpec.ofChange Rows.fnExactDeskCommandSpec).preRow enc Tryz.prog Tryz.f4 Rows.fnExactDeskCommandRow.domain false Rows.fnExactDeskCommandRow.laid) (((OpenSpec.ofChange Rows.fnExactDeskCommandSpec).at F).post enc Tryz.prog Tryz.f4 false true false false):=by
 obtain⟨places,hx⟩:=reads_FnExactDeskCommand os enc;refine returnsInHanded_of_row (C:=Tryz.checked) (s:=OpenSpec.ofChange Rows.fnExactDeskCommandSpec) own_FnExactDeskCommand started (by kernel_rfl) Tryz.func4
  (UG (C:=Tryz.checked) (World.laidAll Tryz.prog os Rows.fnExactDeskCommandRow.laid) #[.agg #[.string ByteArray.empty,.int .i64 0,.slice none 0 0,.slice none 0 0,.string ByteArray.empty],.string ByteArray.empty] (World.laidAll_os _ _ _) (by kernel_rfl) (by kernel_rfl) (by kernel_rfl)
   (OpenSpec.preRow_of_cond 8 hx (by kernel_rfl) (λk hk=>by cases hk) (by kernel_rfl) (by rw[MakeChecks.laidMetH_plain _ _ _ (by kernel_rfl)];exact laidMet_laidAll _ (by kernel_rfl) (by kernel_rfl)))) ?_
 intro W base args ds gs before hval0 hW _ _ _ hL hsh _;rw[MakeChecks.laidMetH_plain _ _ _ (by kernel_rfl)] at hL;have hG:Gl W:=Zkn hL (by simp[Rows.fnExactDeskCommandRow];first|done|rfl|(simp[Rows.laid_internal_strconv_uint64pow10,Lib.tabData,Lib.pow10Tab,List.range,List.range.loop])) hsh;have hval:∀(j:Nat) t v,Tryz.f4.params[j]?=some t→args[j]?=some v→Value.okWide Tryz.prog W .any base t v:=hval0;have hW':=hW;obtain⟨p,q,hA0,hV,rfl,_,_⟩:=hW;have hA:DataW.TrodAll enc Tryz.prog W 0 (λ_=>true) true Tryz.f4.params.toList args.toList ds p:=hA0;rw[Tryz.params4] at hA hval;obtain⟨v0,vs0,d0,ds0,p0,q0,hargs,rfl,rfl,h0,r0⟩:=trodAll_cons hA;obtain⟨v1,vs1,d1,ds1,p1,q1,rfl,rfl,rfl,h1,r1⟩:=trodAll_cons r0;obtain⟨rfl,rfl,rfl⟩:=trodAll_nil r1;obtain rfl:args=#[v0,v1]:=by cases args;simp_all
 obtain⟨rfl,rfl⟩:=trodVars_none hV;obtain⟨x0,rfl,hq0⟩:=ZeI (hval 0 40 v0 rfl rfl) h0;obtain⟨a1,rfl,rfl,rfl,w1⟩:=Go.ChangeMaps.open_string Tryz.underlying9 (hval 1 9 v1 rfl rfl) h1;clear hA0 hval0;refine(Qn W hG x0 hq0 a1 w1).mono λe W' ⟨he,hb⟩=>?_
 subst he;exact⟨_,rfl,ZdR (by kernel_rfl) (by kernel_rfl) rfl Tryz.underlying4 rfl hW' rfl hb⟩
theorem jqn_FnExactDeskCommand:Tryz.pinned.checked.prog.funcNamed Rows.fnExactDeskCommandRow.func=some 4:=by kernel_rfl
theorem jqi_FnExactDeskCommand:Tryz.f4.isInstance Tryz.pinned.checked.prog Rows.fnExactDeskCommandRow.origin Rows.fnExactDeskCommandRow.targs:=of_decide_eq_true (by kernel_rfl)
theorem jqw_FnExactDeskCommand:Tryz.f4.isWrapper Tryz.pinned.checked.prog Rows.fnExactDeskCommandRow.wrapper Rows.fnExactDeskCommandRow.mainSum:=by unfold Func.isWrapper;first|(rw[if_pos (by decide +kernel)];kernel_rfl)|(rw[if_neg (by decide +kernel)];exact⟨rfl,rfl⟩)
theorem jqa_FnExactDeskCommand:(Rows.fnExactDeskCommandRow.inPlace==Tryz.pinned.checked.prog.inPlace 4)=true:=by kernel_rfl
theorem jqb_FnExactDeskCommand:(Rows.fnExactDeskCommandRow.unfollowed==Tryz.pinned.checked.prog.unfollowed 4)=true:=by kernel_rfl
theorem jqc_FnExactDeskCommand:(Rows.fnExactDeskCommandRow.recurses==Tryz.pinned.checked.prog.recurses 4)=true:=by kernel_rfl
theorem jqd_FnExactDeskCommand:(Rows.fnExactDeskCommandRow.named==Tryz.pinned.checked.prog.varsNamed 4)=true:=by kernel_rfl
theorem jqj_FnExactDeskCommand:joinedFacts Tryz.pinned.checked.prog 4 Tryz.f4 (OpenSpec.ofChange Rows.fnExactDeskCommandSpec).bare Rows.fnExactDeskCommandRow=true:=by
 unfold joinedFacts;rw[jqa_FnExactDeskCommand,jqb_FnExactDeskCommand,jqc_FnExactDeskCommand,jqd_FnExactDeskCommand]
 kernel_rfl
theorem said_FnExactDeskCommand:Rows.FnExactDeskCommandSaid :=
 OpenClaim.holds_of_cond 4 Tryz.f4 rfl rfl rfl rfl rfl rfl rfl ⟨rfl,rfl,rfl,rfl,rfl⟩ rfl rfl rfl rfl rfl jqn_FnExactDeskCommand Tryz.func4 jqj_FnExactDeskCommand jqi_FnExactDeskCommand jqw_FnExactDeskCommand
  (λos started H enc _ F=>by rw[OpenClaim.pre_eq_preRow];exact lifted_FnExactDeskCommand os started H enc F)
theorem plain_FnExactDeskCommand (f : FuncId) (fn : Func) (hf : Tryz.pinned.checked.prog.funcNamed "loop.example/g01064/laws.FnExactDeskCommand" = some f) (hfn : Tryz.pinned.checked.prog.funcs[f]? = some fn) :
  false=Tryz.pinned.checked.prog.looks []/\∀(j:Nat) t,fn.params[j]?=some t→Tryz.pinned.checked.prog.wantsStandIn t=false:=by
 obtain rfl : f = 4 := Option.some.inj ((show Tryz.prog.funcNamed "loop.example/g01064/laws.FnExactDeskCommand" = some 4 by kernel_rfl).symm.trans hf) |>.symm
 obtain rfl:fn=Tryz.f4:=(Option.some.inj (Tryz.func4.symm.trans hfn)).symm;refine⟨by kernel_rfl,λj t ht=>?_⟩;have hall:(Tryz.f4.params.all λu=>!Tryz.prog.wantsStandIn u)=true:=by kernel_rfl
 have:=Array.all_eq_true.1 hall j (Array.getElem?_eq_some_iff.1 ht).1;rw[(Array.getElem?_eq_some_iff.1 ht).2] at this;exact(show Tryz.prog.wantsStandIn t=false by simpa using this)
theorem FnExactDeskCommand_holds:Rows.FnExactDeskCommandCardSaid :=
 Claim7.holds_tied_plain_at .later [] _ _ _ _ said_FnExactDeskCommand (λ_ h=>by cases h) (by kernel_rfl) (λ_ h=>by cases h) fnExactDeskCommand_row_tie rfl ⟨rfl,rfl⟩ (by kernel_rfl) rfl plain_FnExactDeskCommand (by kernel_rfl)
#print axioms FnExactDeskCommand_holds
end Go.Proofs.YtfpaejlipaainaaGreatDoor
