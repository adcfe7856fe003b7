import Derived.Test.YtdadoignenffgaaGreatDoorCards
import Derived.Test.YtdadoignenffgaaGreatDoorTie
import Derived.Test.YtdadoignenffgaaGreatDoorEbAllG44
import Derived.SevenTiedAt
import Derived.LaidMore
import Derived.OpenShut
import Derived.ProofKit
import Derived.Stop.Joined
import Derived.Stop.LaidErr
set_option linter.unusedVariables false
set_option linter.unusedSimpArgs false
namespace Go.Proofs.YtdadoignenffgaaGreatDoor.fnExamples
open Go Go.Proofs.YtdadoignenffgaaGreatDoor
open Go.ChangeShapes Go.WideShapes Go.ChangeAt Go.RowKit Go.Joins
set_option maxRecDepth 100000
theorem own:ownKnob Tryz.prog.godebug=none:=by kernel_rfl
theorem pQ:laidOutB Tryz.prog=true:=by kernel_rfl
theorem met(os:Os)(args:Array Value):laidMetH Tryz.prog Rows.fnExamplesRow.laid ((World.doorLaid Tryz.prog 24 os).forCall (fun _ _=>0) ⟨#[],args,[]⟩).memory :=
 laidMetH_of_parts3 (fuel:=8) (laidMet_of_run' 8 e9 e9) e9 e9
theorem tab {W : World} (h : laidMetH Tryz.prog Rows.fnExamplesRow.laid W) : Lib.TabIs Tryz.prog W "internal/strconv.uint64pow10" .u64 Lib.pow10Tab := by
 rw [MakeChecks.laidMetH_plain _ _ _ (by kernel_rfl)] at h;have h2 : laidMet Tryz.prog [("internal/strconv.uint64pow10", Lib.tabData .u64 Lib.pow10Tab)] W := (show laidMet Tryz.prog (_ :: _ :: [("internal/strconv.uint64pow10", Rows.laid_internal_strconv_uint64pow10)]) W from h).tail.tail;exact Lib.tabIs_of_head (g := 0) (by kernel_rfl) (by kernel_rfl) Tryz.underlying219 Tryz.underlying179 (by kernel_rfl) (by kernel_rfl) h2
theorem sS(os:Os)(started:os.Started)(H:Type)(enc:TypeId×Value->H):
 ReturnsInHanded {} Tryz.checked os 5 .any (fun w args=>(Rows.fnExamplesSpec.pre enc Tryz.prog Tryz.f5 [] false w args/\laidMetH Tryz.prog Rows.fnExamplesRow.laid w)/\sizedMet enc Tryz.prog Tryz.f5 (OpenSpec.ofChange Rows.fnExamplesSpec) false w args)
  (Rows.fnExamplesSpec.post enc Tryz.prog Tryz.f5 false true false false):=by
 refine returnsInHanded_of_change_and (C:=Tryz.checked) (X:=fun w _=>laidMetH Tryz.prog Rows.fnExamplesRow.laid w) (fun _ _ _ hh h=>h.of_heap hh) own started e9 ad1
  (ChangeSpec.witness_shaped (enc:=enc) (C:=Tryz.checked) (os:=os) (X:=fun w _=>laidMetH Tryz.prog Rows.fnExamplesRow.laid w) false (World.doorLaid Tryz.prog 24 os) #[.slice none 0 0] 8 rfl (World.shaped_of_RefB e9 e9) e9 e9 e9 (met os _)) ?_
 intro W base args ds gs before hval0 hW _ _ hL _;have G:∀(j:Nat) t v,Tryz.f5.params[j]?=some t->args[j]?=some v->Value.okWide Tryz.prog W .any base t v:=hval0;have K:=hW;obtain⟨p,q,Zo,hV,rfl,Gb,hnd⟩:=hW;have hA:DataW.TrodAll enc Tryz.prog W 0 (fun _=>true) true Tryz.f5.params.toList args.toList ds p:=Zo;rw[Tryz.params5]at hA G;obtain⟨v0,vs0,d0,ds0,p0,q0,Zf,rfl,rfl,h0,r0⟩:=trodAll_cons hA;obtain⟨rfl,rfl,rfl⟩:=trodAll_nil r0;obtain rfl:args=#[v0]:=by cases args;simp_all
 obtain⟨rfl,rfl⟩:=trodVars_none hV;have Z:=h0;have J:∀x∈p0,x.block<W.heap.size:=by obtain⟨m,hm⟩:=Z;exact DataW.trod_lt m _ _ _ hm
 obtain⟨a0,U,c0,rfl⟩:=okWide_slice aan (G 0 26 v0 rfl rfl);obtain⟨Q,I,O,e0,I0⟩:∃a n c,Value.slice a0 U c0=.slice a n c/\eS W a n c:=by obtain⟨fuel,hf⟩:=h0;exact wG aan aa4 e9 (by simpa[Value.cells]using hf)
 obtain⟨rfl,rfl,rfl⟩:a0=Q/\U=I/\c0=O:=by simpa using e0
 clear Zo hval0;refine(sI I0 (tab hL)).mono fun e W' ⟨he,Ld⟩=>?_
 subst he;exact⟨_,rfl,_,_,_,[],_,[],K,trodAll_mk1 (shut_bool abr _),(trodAll_cons_mk (Below.trod pQ e9 (EE e9) Z Ld J) trodAll_mk0),rfl,Ld.frame _,fun h=>by cases h⟩
theorem over:Rows.FnExamplesSaid :=
 OpenClaim.holds_of_wide 5 Tryz.f5 rfl rfl rfl rfl rfl rfl rfl ⟨rfl,rfl,rfl,rfl,rfl⟩ rfl rfl rfl rfl rfl e9 ad1 e9
  (EE e9) (by unfold Func.isWrapper;first|(rw[hI (by decide +kernel)];kernel_rfl)|(rw[hD (by decide +kernel)];exact⟨rfl,rfl⟩))
  (fun os started H enc _=>sS os started H enc)
theorem tj:Rows.FnExamplesCardSaid :=
 Claim7.holds_tied_plain_at .later [] [.data,.data,.data] true Rows.fnExamplesCard.stood.harness false
  over (fun _ h=>by cases h) e9 (fun _ h=>by cases h) fnExamples_row_tie rfl ⟨rfl,rfl⟩ e9 rfl
  (fun f fn hf hfn=>by
    obtain rfl : f = 5 := Option.some.inj ((show Tryz.prog.funcNamed "loop.example/g00520/laws.FnExamples" = some 5 by kernel_rfl).symm.trans hf) |>.symm
    obtain rfl:fn=Tryz.f5:=(Og (Tryz.func5.symm.trans hfn)).symm
    exact⟨by kernel_rfl,fun j t ht=>by
     rw[Tryz.params5]at ht;have hm:t∈[26]:=by simpa using Array.mem_of_getElem? ht
     have Ap:([26].all fun u=>!Tryz.prog.wantsStandIn u)=true:=by kernel_rfl
     exact(show Tryz.prog.wantsStandIn t=false by simpa using Di.1 Ap t hm)⟩)
  e9
#print axioms tj
end Go.Proofs.YtdadoignenffgaaGreatDoor.fnExamples
