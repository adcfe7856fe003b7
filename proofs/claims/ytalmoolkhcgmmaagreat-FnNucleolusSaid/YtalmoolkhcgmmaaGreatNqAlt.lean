import Derived.Test.YtalmoolkhcgmmaaGreatRows
import Derived.Test.YtalmoolkhcgmmaaGreatNqAltG2
import Derived.Test.YtalmoolkhcgmmaaGreatNqAltG55
set_option linter.unusedVariables false
set_option linter.unusedSimpArgs false
namespace Go.Proofs.YtalmoolkhcgmmaaGreat.fnNucleolus
open Go.Proofs.YtalmoolkhcgmmaaGreat
open Go.ChangeShapes Go.WideShapes Go.ChangeAt Go.RowKit Go.Joins
open Go.ChangeMaps (open_string shut_string)
theorem own:ownKnob Tryz.prog.godebug=none:=by kernel_rfl
theorem laidOut:laidOutB Tryz.prog=true:=by kernel_rfl
set_option maxRecDepth 100000 in
theorem lifted(os:Os)(started:os.Started)(H:Type)(enc:TypeId×Value->H):
 ReturnsInHanded {} Tryz.checked os 3 .any (Rows.fnNucleolusSpec.pre6 enc Tryz.prog Tryz.f3 Rows.fnNucleolusRow.domain false) (Rows.fnNucleolusSpec.post enc Tryz.prog Tryz.f3 false true false false):=by
 refine returnsInHanded_of_change (C:=Tryz.checked) own started e8 Tryz.func3
  (ChangeSpec.witness6 (enc:=enc) (C:=Tryz.checked) false ⟨#[],#[.slice none 0 0],[]⟩ 8 e8 e8 e8 e8) ?_
 intro W base args ds gs before hval0 hW hcnd _;have G:∀(j:Nat) t v,Tryz.f3.params[j]?=some t->args[j]?=some v->Value.okWide Tryz.prog W .any base t v:=hval0;have R:=hW;obtain⟨p,q,I,hV,rfl,Cw,ZG⟩:=hW;have hA:DataW.TrodAll enc Tryz.prog W 0 (fun _=>true) true Tryz.f3.params.toList args.toList ds p:=I;rw[Tryz.params3]at hA G;obtain⟨v0,vs0,d0,ds0,p0,q0,hargs,rfl,rfl,h0,r0⟩:=trodAll_cons hA;obtain⟨rfl,rfl,rfl⟩:=trodAll_nil r0;obtain rfl:args=#[v0]:=by cases args;simp_all
 obtain⟨rfl,rfl⟩:=trodVars_none hV;have k0:=h0;have O:∀x∈p0,x.block<W.heap.size:=by obtain⟨m,hm⟩:=k0;exact DataW.trod_lt m _ _ _ hm
 obtain⟨a0,u,c0,rfl⟩:=okWide_slice Tryz.underlying22 (G 0 22 v0 rfl rfl);obtain⟨Z,K,U,e0,I0⟩:∃a n c,Value.slice a0 u c0=.slice a n c/\fc W a n c:=by obtain⟨fuel,hf⟩:=h0;exact up Tryz.underlying22 Tryz.underlying5 e8 (by simpa[Value.cells]using hf)
 obtain⟨rfl,rfl,rfl⟩:a0=Z/\u=K/\c0=U:=by simpa using e0
 clear I hval0;refine(pL I0).mono fun e W' ⟨he,J⟩=>?_
 subst he;exact⟨_,rfl,_,_,_,[],_,[],R,trodAll_mk1 (shut_bool Tryz.underlying4 _),(trodAll_cons_mk (Below.trod laidOut e8 (of_decide_eq_true e8) k0 J O) trodAll_mk0),rfl,J.frame _,fun h=>by cases h⟩
theorem over:Rows.fnNucleolusRow.holds Tryz.pinned (OpenSpec.ofChange Rows.fnNucleolusSpec) :=
 OpenClaim.holds_of_wide 3 Tryz.f3 rfl rfl rfl rfl rfl rfl rfl ⟨rfl,rfl,rfl,rfl,rfl⟩ rfl rfl rfl rfl rfl e8 Tryz.func3 e8
  (of_decide_eq_true e8) (by unfold Func.isWrapper;first|(rw[if_pos (by decide +kernel)];kernel_rfl)|(rw[if_neg (by decide +kernel)];exact⟨rfl,rfl⟩))
  (fun os started H enc _=>lifted os started H enc)
theorem proved:Rows.FnNucleolusSaid:=over
#print axioms proved
end Go.Proofs.YtalmoolkhcgmmaaGreat.fnNucleolus
