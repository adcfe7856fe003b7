import Derived.Test.YtdadoignenffgaaGreatDoorEbAllG58
import Derived.Test.YtdadoignenffgaaGreatDoorCards
import Derived.Test.YtdadoignenffgaaGreatDoorTie
import Derived.Test.YtdadoignenffgaaGreatDoorEbAllG44
import Derived.SevenTiedAt
import Derived.LaidMore
import Derived.OpenShut
import Derived.ProofKit
import Derived.Stop.Joined
import Derived.Stop.LaidErr
set_option linter.unusedVariables false
set_option linter.unusedSimpArgs false
namespace Go.Proofs.YtdadoignenffgaaGreatDoor
set_option maxHeartbeats 16000000
set_option maxRecDepth 100000
open Go.RowKit
theorem kM {w : World} (k : Int) (ht : Lib.TabIs Tryz.prog w "internal/strconv.uint64pow10" .u64 Lib.pow10Tab) :
 Calls Tryz.prog 4 #[.int .i64 k] w fun e w'=>e=.returned (.bool true)/\Ext w w':=by
 have HT:=ae ht;have HS:=ae (lB (w:=w) k);obtain⟨T,hT⟩:=b9 (bs (runE k));have HI:=ae (fun(w':World) (hx:Ext w w')=>lk (w:=w') k (ec HT.o hx));simp only[<-hT]at HS HI;clear ht hT;go_enter Tryz.func4,Tryz.ntmps4
 go_wp2_with fail;refine HS.o.mono ?_;rintro e w1 ⟨rfl,hx⟩;have X1:=ae hx;clear hx;go_wp2_with fail;refine(HI.o _ X1.o).mono ?_;rintro e w2 ⟨rfl,hx⟩;have X2:=ae (X1.o.trans hx);clear hx;go_wp2_with fail;go_ret;exact⟨rfl,X2.o⟩
end Go.Proofs.YtdadoignenffgaaGreatDoor
namespace Go.Proofs.YtdadoignenffgaaGreatDoor.fnExactRunExample
open Go Go.Proofs.YtdadoignenffgaaGreatDoor
open Go.ChangeShapes Go.WideShapes Go.ChangeAt Go.RowKit Go.Joins
set_option maxRecDepth 100000
theorem own:ownKnob Tryz.prog.godebug=none:=by kernel_rfl
theorem pQ:laidOutB Tryz.prog=true:=by kernel_rfl
theorem met(os:Os)(args:Array Value):laidMetH Tryz.prog Rows.fnExactRunExampleRow.laid ((World.doorLaid Tryz.prog 24 os).forCall (fun _ _=>0) ⟨#[],args,[]⟩).memory :=
 laidMetH_of_parts3 (fuel:=8) (laidMet_of_run' 8 e9 e9) e9 e9
theorem tab {W : World} (h : laidMetH Tryz.prog Rows.fnExactRunExampleRow.laid W) : Lib.TabIs Tryz.prog W "internal/strconv.uint64pow10" .u64 Lib.pow10Tab := by
 rw [MakeChecks.laidMetH_plain _ _ _ (by kernel_rfl)] at h;have h2 : laidMet Tryz.prog [("internal/strconv.uint64pow10", Lib.tabData .u64 Lib.pow10Tab)] W := (show laidMet Tryz.prog (_ :: _ :: [("internal/strconv.uint64pow10", Rows.laid_internal_strconv_uint64pow10)]) W from h).tail.tail;exact Lib.tabIs_of_head (g := 0) (by kernel_rfl) (by kernel_rfl) Tryz.underlying219 Tryz.underlying179 (by kernel_rfl) (by kernel_rfl) h2
theorem sS(os:Os)(started:os.Started)(H:Type)(enc:TypeId×Value->H):
 ReturnsInHanded {} Tryz.checked os 4 .any (fun w args=>(Rows.fnExactRunExampleSpec.pre enc Tryz.prog Tryz.f4 [] false w args/\laidMetH Tryz.prog Rows.fnExactRunExampleRow.laid w)/\sizedMet enc Tryz.prog Tryz.f4 (OpenSpec.ofChange Rows.fnExactRunExampleSpec) false w args)
  (Rows.fnExactRunExampleSpec.post enc Tryz.prog Tryz.f4 false true false false):=by
 refine returnsInHanded_of_change_and (C:=Tryz.checked) (X:=fun w _=>laidMetH Tryz.prog Rows.fnExactRunExampleRow.laid w) (fun _ _ _ hh h=>h.of_heap hh) own started e9 Tryz.func4
  (ChangeSpec.witness_shaped (enc:=enc) (C:=Tryz.checked) (os:=os) (X:=fun w _=>laidMetH Tryz.prog Rows.fnExactRunExampleRow.laid w) false (World.doorLaid Tryz.prog 24 os) #[.int .i64 0] 8 rfl (World.shaped_of_RefB e9 e9) e9 e9 e9 (met os _)) ?_
 intro W base args ds gs before hval0 hW _ _ hL _;have G:∀(j:Nat) t v,Tryz.f4.params[j]?=some t->args[j]?=some v->Value.okWide Tryz.prog W .any base t v:=hval0;have J:=hW;obtain⟨p,q,Q,Z,rfl,Gb,hnd⟩:=hW;have O:DataW.TrodAll enc Tryz.prog W 0 (fun _=>true) true Tryz.f4.params.toList args.toList ds p:=Q;rw[Tryz.params4]at O G;obtain⟨v0,vs0,d0,ds0,p0,q0,Zf,rfl,rfl,h0,U⟩:=trodAll_cons O;obtain⟨rfl,rfl,rfl⟩:=trodAll_nil U;obtain rfl:args=#[v0]:=by cases args;simp_all
 obtain⟨rfl,rfl⟩:=trodVars_none Z;have K:=h0;have I:∀x∈p0,x.block<W.heap.size:=by obtain⟨m,hm⟩:=K;exact DataW.trod_lt m _ _ _ hm
 obtain⟨x0,rfl,_,_,wf0⟩:=open_int abR (G 0 3 v0 rfl rfl) h0;clear Q hval0;refine(kM x0 (tab hL)).mono fun e W' ⟨he,Ld⟩=>?_
 subst he;exact⟨_,rfl,_,_,_,[],_,[],J,trodAll_mk1 (shut_bool abr _),(trodAll_cons_mk (Below.trod pQ e9 (EE e9) K Ld I) trodAll_mk0),rfl,Ld.frame _,fun h=>by cases h⟩
theorem over:Rows.FnExactRunExampleSaid :=
 OpenClaim.holds_of_wide 4 Tryz.f4 rfl rfl rfl rfl rfl rfl rfl ⟨rfl,rfl,rfl,rfl,rfl⟩ rfl rfl rfl rfl rfl e9 Tryz.func4 e9
  (EE e9) (by unfold Func.isWrapper;first|(rw[hI (by decide +kernel)];kernel_rfl)|(rw[hD (by decide +kernel)];exact⟨rfl,rfl⟩))
  (fun os started H enc _=>sS os started H enc)
theorem tj:Rows.FnExactRunExampleCardSaid :=
 Claim7.holds_tied_plain_at .later [] [.data,.data,.data] true Rows.fnExactRunExampleCard.stood.harness false
  over (fun _ h=>by cases h) e9 (fun _ h=>by cases h) fnExactRunExample_row_tie rfl ⟨rfl,rfl⟩ e9 rfl
  (fun f fn hf hfn=>by
    obtain rfl : f = 4 := Option.some.inj ((show Tryz.prog.funcNamed "loop.example/g00520/laws.FnExactRunExample" = some 4 by kernel_rfl).symm.trans hf) |>.symm
    obtain rfl:fn=Tryz.f4:=(Og (Tryz.func4.symm.trans hfn)).symm
    exact⟨by kernel_rfl,fun j t ht=>by
     rw[Tryz.params4]at ht;have hm:t∈[3]:=by simpa using Array.mem_of_getElem? ht
     have Ap:([3].all fun u=>!Tryz.prog.wantsStandIn u)=true:=by kernel_rfl
     exact(show Tryz.prog.wantsStandIn t=false by simpa using Di.1 Ap t hm)⟩)
  e9
#print axioms tj
end Go.Proofs.YtdadoignenffgaaGreatDoor.fnExactRunExample
