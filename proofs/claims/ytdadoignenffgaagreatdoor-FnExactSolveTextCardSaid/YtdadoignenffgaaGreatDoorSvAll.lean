import Derived.Test.YtdadoignenffgaaGreatDoorCards
import Derived.Test.YtdadoignenffgaaGreatDoorTie
import Derived.Test.YtdadoignenffgaaGreatDoorSvAllG52
import Derived.Test.YtdadoignenffgaaGreatDoorSvAllG40
import Derived.SevenTiedAt
import Derived.LaidMore
import Derived.OpenShut
import Derived.ProofKit
import Derived.Stop.Joined
import Derived.Stop.LaidErr
set_option linter.unusedVariables false
set_option linter.unusedSimpArgs false
namespace Go.Proofs.YtdadoignenffgaaGreatDoor.fnExactSolveText
open Go Go.Proofs.YtdadoignenffgaaGreatDoor
open Go.ChangeShapes Go.WideShapes Go.ChangeAt Go.RowKit Go.Joins
set_option maxRecDepth 100000
theorem own:ownKnob Tryz.prog.godebug=none:=by kernel_rfl
theorem laidOut:laidOutB Tryz.prog=true:=by kernel_rfl
theorem met(os:Os)(args:Array Value):laidMetH Tryz.prog Rows.fnExactSolveTextRow.laid ((World.doorLaid Tryz.prog 24 os).forCall (fun _ _=>0) ⟨#[],args,[]⟩).memory :=
 laidMetH_of_parts3 (fuel:=8) (laidMet_of_run' 8 e9 e9) e9 e9
theorem tab {W : World} (h : laidMetH Tryz.prog Rows.fnExactSolveTextRow.laid W) : Lib.TabIs Tryz.prog W "internal/strconv.uint64pow10" .u64 Lib.pow10Tab := by
 rw [MakeChecks.laidMetH_plain _ _ _ (by kernel_rfl)] at h;have h2 : laidMet Tryz.prog [("internal/strconv.uint64pow10", Lib.tabData .u64 Lib.pow10Tab)] W := (show laidMet Tryz.prog (_ :: _ :: [("internal/strconv.uint64pow10", Rows.laid_internal_strconv_uint64pow10)]) W from h).tail.tail;exact Lib.tabIs_of_head (g := 0) (by kernel_rfl) (by kernel_rfl) Tryz.underlying219 Tryz.underlying179 (by kernel_rfl) (by kernel_rfl) h2
theorem lifted(os:Os)(started:os.Started)(H:Type)(enc:TypeId×Value->H):
 ReturnsInHanded {} Tryz.checked os 3 .any (fun w args=>(Rows.fnExactSolveTextSpec.pre enc Tryz.prog Tryz.f3 [] false w args/\laidMetH Tryz.prog Rows.fnExactSolveTextRow.laid w)/\sizedMet enc Tryz.prog Tryz.f3 (OpenSpec.ofChange Rows.fnExactSolveTextSpec) false w args)
  (Rows.fnExactSolveTextSpec.post enc Tryz.prog Tryz.f3 false true false false):=by
 refine returnsInHanded_of_change_and (C:=Tryz.checked) (X:=fun w _=>laidMetH Tryz.prog Rows.fnExactSolveTextRow.laid w) (fun _ _ _ hh h=>h.of_heap hh) own started e9 Tryz.func3
  (ChangeSpec.witness_shaped (enc:=enc) (C:=Tryz.checked) (os:=os) (X:=fun w _=>laidMetH Tryz.prog Rows.fnExactSolveTextRow.laid w) false (World.doorLaid Tryz.prog 24 os) #[.string ⟨#[]⟩] 8 rfl (World.shaped_of_RefB e9 e9) e9 e9 e9 (met os _)) ?_
 intro W base args ds gs before hval0 hW _ _ hL _;have E:∀(j:Nat) t v,Tryz.f3.params[j]?=some t->args[j]?=some v->Value.okWide Tryz.prog W .any base t v:=hval0;have K:=hW;obtain⟨p,q,G,Z,rfl,CX,hnd⟩:=hW;have Q:DataW.TrodAll enc Tryz.prog W 0 (fun _=>true) true Tryz.f3.params.toList args.toList ds p:=G;rw[Tryz.params3]at Q E;obtain⟨v0,Wj,d0,ds0,p0,q0,hargs,rfl,rfl,h0,U⟩:=trodAll_cons Q;obtain⟨rfl,rfl,rfl⟩:=trodAll_nil U;obtain rfl:args=#[v0]:=by cases args;simp_all
 obtain⟨rfl,rfl⟩:=trodVars_none Z;have O:=h0;have J:∀x∈p0,x.block<W.heap.size:=by obtain⟨m,hm⟩:=O;exact DataW.trod_lt m _ _ _ hm
 obtain⟨s0,rfl,rfl,rfl,AO⟩:=Go.ChangeMaps.open_string Tryz.underlying9 (E 0 9 v0 rfl rfl) h0;obtain⟨x0,rfl⟩:∃l,s0=bs l:=⟨s0.data.toList,by cases s0;rfl⟩;clear G hval0;refine(ju x0 (tab hL)).mono fun e W' ⟨he,I⟩=>?_
 subst he;exact⟨_,rfl,_,_,_,[],_,[],K,trodAll_mk1 (shut_bool Tryz.underlying4 _),(trodAll_cons_mk (Below.trod laidOut e9 (of_decide_eq_true e9) O I J) trodAll_mk0),rfl,I.frame _,fun h=>by cases h⟩
theorem over:Rows.FnExactSolveTextSaid :=
 OpenClaim.holds_of_wide 3 Tryz.f3 rfl rfl rfl rfl rfl rfl rfl ⟨rfl,rfl,rfl,rfl,rfl⟩ rfl rfl rfl rfl rfl e9 Tryz.func3 e9
  (of_decide_eq_true e9) (by unfold Func.isWrapper;first|(rw[if_pos (by decide +kernel)];kernel_rfl)|(rw[if_neg (by decide +kernel)];exact⟨rfl,rfl⟩))
  (fun os started H enc _=>lifted os started H enc)
theorem proved:Rows.FnExactSolveTextCardSaid :=
 Claim7.holds_tied_plain_at .later [] [.data,.data,.data] true Rows.fnExactSolveTextCard.stood.harness false
  over (fun _ h=>by cases h) e9 (fun _ h=>by cases h) fnExactSolveText_row_tie rfl ⟨rfl,rfl⟩ e9 rfl
  (fun f fn hf hfn=>by
    obtain rfl : f = 3 := Option.some.inj ((show Tryz.prog.funcNamed "loop.example/g00520/laws.FnExactSolveText" = some 3 by kernel_rfl).symm.trans hf) |>.symm
    obtain rfl:fn=Tryz.f3:=(Option.some.inj (Tryz.func3.symm.trans hfn)).symm
    exact⟨by kernel_rfl,fun j t ht=>by
     rw[Tryz.params3]at ht;have hm:t∈[9]:=by simpa using Array.mem_of_getElem? ht
     have zF:([9].all fun u=>!Tryz.prog.wantsStandIn u)=true:=by kernel_rfl
     exact(show Tryz.prog.wantsStandIn t=false by simpa using List.all_eq_true.1 zF t hm)⟩)
  e9
#print axioms proved
end Go.Proofs.YtdadoignenffgaaGreatDoor.fnExactSolveText
