import Derived.Test.YtdadoignenffgaaGreatDoorSvAllG0
import Derived.StillTail
import Derived.Deep.RegionHeld3
import Derived.Test.YtdadoignenffgaaGreatDoorSvAllG17
import Derived.StillTailTactics
set_option linter.unusedVariables false
set_option linter.unusedSimpArgs false
namespace Go.Proofs.YtdadoignenffgaaGreatDoor
variable{M:List (j4)}{listed:Array Bool}{i f c k n j r:Nat}{oi:Oper}{v:Value}{a:Act}{w:World}{t:Tb}{main:j4}
set_option maxHeartbeats 16000000
section
variable{P:Program}{ops:Array Oper}{Q:Exit->Act->World->Prop}{md:Region.Mode}{S:World->Prop}{M:List Nat}
def eK(M:List Nat)(listed:Array Bool):Prop:=∀j∈M,listed.getD j true=false
theorem eK.set{M:List Nat}{listed:Array Bool}{i:Nat}(h:eK M listed)(hi:i∉M):eK M (listed.setIfInBounds i true):=fun j hj=>by
 rw[getD_set_ne true (show i≠j from fun e=>hi (by rw[e];exact hj))];exact h j hj
theorem eK.Od{M:List Nat}{listed:Array Bool}{i:Nat}(h:eK M (listed.setIfInBounds i true))(hi:i∉M):eK M listed:=fun j hj=>by
 have:=h j hj
 rwa [getD_set_ne true (show i≠j from fun e=>hi (by rw[e];exact hj))]at this
def ce(P:Program)(md:Region.Mode)(ops:Array Oper)(Q:Exit->Act->World->Prop)(M:List Nat)(S:World->Prop):Nat->Array Bool->Act->World->Prop
 | 0,listed,a,w=>Region.ready md ops listed=[]/\Q .normal a w
 | f+1,listed,a,w=>(Region.ready md ops listed=[]->Q .normal a w) /\
   ∀i∈Region.ready md ops listed,wpOp P ops Q i (fun a' w'=>(eK M (listed.setIfInBounds i true)->S w')/\ce P md ops Q M S f (listed.setIfInBounds i true) a' w') a w
theorem ce.any:∀{f:Nat} {listed:Array Bool} {a:Act} {w:World},ce P md ops Q M S f listed a w->wpAny P md ops Q f listed a w
 | 0,_,_,_,h=>h
 | f+1,_,_,_,h=>⟨h.1,fun i hi=>wpOp_mono (fun a' w' h'=>ce.any h'.2) (h.2 i hi)⟩
theorem iO{i:Nat}{oi:Oper}{v:Value}{T:World->Prop}(hi:ops[i]?=some oi)(I:∀(j:Nat) (o:Oper) cs b,ops[j]?=some o->o.op≠.select cs b)
 (hQ:∀c a w,Q (.panic c) (a.put oi.dst v) w->Q (.panic c) a w) (O:i∉M)
 (hT:(∀w,T w)∨((∀w,S w->T w)/\∀j∈M,∀E,ops[j]?=some E->∃e∈E.after,Region.binds md e=true/\e.on=i)) :
 ∀(f:Nat) (listed:Array Bool) (a:Act) (w:World),
   (∀j E,ops[j]?=some E->j≠i->listed.getD j true=false->(∀e∈E.after,Region.binds md e=true->e.on≠i)->oi.apart ops E=true) ->
   i∈Region.ready md ops listed->YieldsIf P ops T oi v a->(eK M listed->S w)->((∀w,T w)∨eK M listed) ->
   ce P md ops Q M S f (listed.setIfInBounds i true) (a.put oi.dst v) w->ce P md ops Q M S (f+1) listed a w:=by
 have now:∀{listed:Array Bool} {w:World},(eK M listed->S w)->((∀w,T w)∨eK M listed)->T w:=fun{listed w} h1 h2=>by
  rcases h2 with h2|h2
  ·exact h2 w
  ·rcases hT with h3|h3
   ·exact h3 w
   ·exact h3.1 w (h1 h2)
 intro f
 induction f with
 | zero =>
   intro listed a w _ hr hy hS hF H;refine⟨fun h=>absurd hr (by rw[h];exact List.not_mem_nil),fun j hj=>?_⟩;by_cases J:j=i
   ·subst J;exact hy.wpOp hi (now hS hF) ⟨fun h=>hS (h.Od O),H⟩
   ·exact absurd (ready_mono hj J) (by rw[H.1];exact List.not_mem_nil)
 | succ f ih =>
   intro listed a w hfree hr hy hS hF H;refine⟨fun h=>absurd hr (by rw[h];exact List.not_mem_nil),fun j hj=>?_⟩;by_cases J:j=i
   ·subst J;exact hy.wpOp hi (now hS hF) ⟨fun h=>hS (h.Od O),H⟩
   ·obtain⟨To,E,U,zF⟩:=mem_ready.1 hj;have PX:∀e∈E.after,Region.binds md e=true->e.on≠i:=fun e he hb heq=>by
     have h1:=zF e he hb;have h0:=(mem_ready.1 hr).1;rw[heq]at h1
     rcases Nat.lt_or_ge i listed.size with h'|h'
     ·simp[h']at h0 h1;rw[h0]at h1;cases h1
     ·simp[Array.getElem?_eq_none h']at h1
    have step:=wpOp_putIf U (hfree j E U J To PX) (fun cs b=>I i oi cs b hi) (fun cs b=>I j E cs b U) hQ hy (H.2 j (ready_mono hj J));have P':∀k ok,ops[k]?=some ok->k≠i->(listed.setIfInBounds j true).getD k true=false ->
     (∀e∈ok.after,Region.binds md e=true->e.on≠i)->oi.apart ops ok=true:=fun k ok hk Aq Bl hno=>by
     refine hfree k ok hk Aq ?_ hno;by_cases K:j=k
     ·rw[<-K];exact To
     ·rwa [getD_set_ne true K]at Bl
    have hF':(∀w,T w)∨eK M (listed.setIfInBounds j true):=by
     rcases hF with h2|h2
     ·exact .inl h2
     ·rcases hT with h3|h3
      ·exact .inl h3
      ·refine .inr (h2.set fun W=>?_);obtain⟨e,he,hb,ho⟩:=h3.2 j W E U;exact PX e he hb ho
    have e1:(listed.setIfInBounds i true).setIfInBounds j true=(listed.setIfInBounds j true).setIfInBounds i true:=Array.setIfInBounds_comm _ _ (Ne.symm J);rw[e1]at step;exact wpOp_mono (fun a' w' h3=>⟨fun Z=>h3.2.1 (Z.set O),ih (listed.setIfInBounds j true) a' w' P' (ready_mono hr (Ne.symm J)) h3.1 (fun Z=>h3.2.1 (Z.set O)) hF' h3.2.2⟩) step
def IJ(md:Region.Mode)(ops:Array Oper)(M:List Nat)(i:Nat):Bool:=M.all fun j=>Region.waitsFor md ops j i
theorem tW{i:Nat}{oi:Oper}{v:Value}{f:Nat}{listed:Array Bool}{a:Act}{w:World}(hi:ops[i]?=some oi)
 (hs:Region.noSelect ops=true) (hf:Region.free md ops listed i=true) (hr:(Region.ready md ops listed).contains i=true) (E:M.contains i=false) (hw:IJ md ops M i=true) (O:M.all (fun j=>!listed.getD j true)=true)
 (K:∀c a w,Q (.panic c) (a.put oi.dst v) w->Q (.panic c) a w) (hy:YieldsIf P ops S oi v a) (J:S w)
 (h:ce P md ops Q M S f (listed.setIfInBounds i true) (a.put oi.dst v) w):ce P md ops Q M S (f+1) listed a w:=by
 refine iO (T:=S) hi (Region.noSelect_spec hs) K (by intro h';rw[List.contains_eq_mem,decide_eq_false_iff_not]at E;exact E h') (.inr ⟨fun _ h=>h,fun j hj oj RI=>?_⟩) f listed a w (Region.free_spec hi hf) (by simpa using hr) hy (fun _=>J) (.inr fun j hj=>?_) h
 ·have h1:=List.all_eq_true.1 hw j hj;obtain⟨oj',h2,e,he,hb,I⟩:=Region.waitsFor_spec h1;rw[RI]at h2;cases h2;exact⟨e,he,hb,I⟩
 ·have:=List.all_eq_true.1 O j hj
  simpa using this
theorem tX{i:Nat}{oi:Oper}{v:Value}{f:Nat}{listed:Array Bool}{a:Act}{w:World}(hi:ops[i]?=some oi)
 (hs:Region.noSelect ops=true) (hf:Region.free md ops listed i=true) (hr:(Region.ready md ops listed).contains i=true) (E:M.contains i=false)
 (J:∀c a w,Q (.panic c) (a.put oi.dst v) w->Q (.panic c) a w) (hy:YieldsIf P ops (fun _=>True) oi v a) (I:S w)
 (h:ce P md ops Q M S f (listed.setIfInBounds i true) (a.put oi.dst v) w):ce P md ops Q M S (f+1) listed a w :=
 iO (T:=fun _=>True) hi (Region.noSelect_spec hs) J (by intro h';rw[List.contains_eq_mem,decide_eq_false_iff_not]at E;exact E h') (.inl fun _=>trivial) f listed a w (Region.free_spec hi hf) (by simpa using hr) hy (fun _=>I) (.inl fun _=>trivial) h
theorem lL{i:Nat}{oi:Oper}{v:Value}{f:Nat}{listed:Array Bool}{a:Act}{w:World}(hi:ops[i]?=some oi)
 (hs:Region.noSelect ops=true) (hf:Region.free md ops listed i=true) (hr:(Region.ready md ops listed).contains i=true) (E:M.contains i=false)
 (J:∀c a w,Q (.panic c) (a.put oi.dst v) w->Q (.panic c) a w) (hy:YieldsIf P ops (fun _=>True) oi v a) (K:M.any (fun j=>listed.getD j true)=true)
 (h:ce P md ops Q M S f (listed.setIfInBounds i true) (a.put oi.dst v) w):ce P md ops Q M S (f+1) listed a w :=
 iO (T:=fun _=>True) hi (Region.noSelect_spec hs) J (by intro h';rw[List.contains_eq_mem,decide_eq_false_iff_not]at E;exact E h') (.inl fun _=>trivial) f listed a w (Region.free_spec hi hf) (by simpa using hr) hy (fun hF=>by
  obtain⟨j,I,h2⟩:=List.any_eq_true.1 K;rw[hF j I]at h2
  cases h2) (.inl fun _=>trivial) h
theorem dH{i:Nat}{oi:Oper}{f:Nat}{listed:Array Bool}{a:Act}{w w':World}(hi:ops[i]?=some oi)(hr:Region.ready md ops listed=[i])(E:M.contains i=true)(hl:i<listed.size)
 (hw:Region.wanted oi (yielded ops a.tmps)=true) (hrun:(execOp a.eval oi).run P w=.ok .skip w')
 (h:ce P md ops Q M S f (listed.setIfInBounds i true) (a.put oi.dst undef) w'):ce P md ops Q M S (f+1) listed a w:=by
 refine⟨fun h0=>absurd (hr.symm.trans h0) e8,fun j hj=>?_⟩;rw[hr]at hj;obtain rfl:j=i:=by simpa using hj
 unfold wpOp;simp only[hi,hw,if_true];refine .inl ?_;unfold Oper.wp;rw[hrun];refine⟨fun hF=>absurd (hF j (by simpa using E)) ?_,h⟩;simp[hl]
theorem aW{i:Nat}{oi:Oper}{f:Nat}{listed:Array Bool}{a:Act}{w:World}(hi:ops[i]?=some oi)(hr:Region.ready md ops listed=[i])(hw:Region.wanted oi (yielded ops a.tmps)=true)
 (h:∀E:Act->World->Prop,Shut (∀a w,(eK M (listed.setIfInBounds i true)->S w)->ce P md ops Q M S f (listed.setIfInBounds i true) a w->E a w)->Oper.wp P oi a w E Q):ce P md ops Q M S (f+1) listed a w:=by
 refine⟨fun h0=>absurd (hr.symm.trans h0) e8,fun j hj=>?_⟩;rw[hr]at hj;obtain rfl:j=i:=by simpa using hj
 refine wpOp_step hi (fun E hK=>?_);rw[if_pos hw];exact h E (fun a w h1 h2=>hK a w ⟨h1,h2⟩)
theorem lp(i:Nat){oi:Oper}{v:Value}{f:Nat}{listed E:Array Bool}{a I:Act}{w:World}(h:ce P md ops Q M S f E I w)(hi:ops[i]?=some oi:=by simp only[gA,gB,gC];rfl)(hs:Region.noSelect ops=true:=by kernel_rfl)
 (hf:Region.free md ops listed i=true:=by kernel_rfl) (hr:(Region.ready md ops listed).contains i=true:=by kernel_rfl) (O:M.contains i=false:=by kernel_rfl) (K:∀c a w,Q (.panic c) (a.put oi.dst v) w->Q (.panic c) a w:=by exact fun _ _ _ h=>h)
 (hy:YieldsIf P ops (fun _=>True) oi v a:=by(refine Or.inl ⟨by rfl,?_⟩;intro w hSw;(try dsimp only at hSw);go_simp;(try with_reducible rfl))) (J:S w:=by assumption)
 (hl:listed.setIfInBounds i true=E:=by(try simp only[sA,sB,sC]);rfl) (ha:a.put oi.dst v=I:=by(try simp only[Act.put,sA,sB,sC]);rfl):ce P md ops Q M S (f+1) listed a w:=by subst hl ha;exact tX hi hs hf hr O K hy J h
theorem ll(i:Nat){oi:Oper}{v:Value}{f:Nat}{listed E:Array Bool}{a I:Act}{w:World}(h:ce P md ops Q M S f E I w)(hi:ops[i]?=some oi:=by simp only[gA,gB,gC];rfl)(hs:Region.noSelect ops=true:=by kernel_rfl)
 (hf:Region.free md ops listed i=true:=by kernel_rfl) (hr:(Region.ready md ops listed).contains i=true:=by kernel_rfl) (O:M.contains i=false:=by kernel_rfl) (W:IJ md ops M i=true:=by kernel_rfl) (U:M.all (fun j=>!listed.getD j true)=true:=by kernel_rfl) (K:∀c a w,Q (.panic c) (a.put oi.dst v) w->Q (.panic c) a w:=by exact fun _ _ _ h=>h)
 (hy:YieldsIf P ops S oi v a:=by(refine Or.inl ⟨by rfl,?_⟩;intro w hSw;(try dsimp only at hSw);go_simp;(try with_reducible rfl))) (J:S w:=by assumption)
 (hl:listed.setIfInBounds i true=E:=by(try simp only[sA,sB,sC]);rfl) (ha:a.put oi.dst v=I:=by(try simp only[Act.put,sA,sB,sC]);rfl):ce P md ops Q M S (f+1) listed a w:=by subst hl ha;exact tW hi hs hf hr O W U K hy J h
theorem dM{listed:Array Bool}{a:Act}{w:World}(hr:Region.ready md ops listed=[])(h:Q .normal a w):∀f,ce P md ops Q M S f listed a w
 | 0=>⟨hr,h⟩
 | _+1=>⟨fun _=>h,fun i hi=>absurd hi (by rw[hr];exact List.not_mem_nil)⟩
theorem dr{id:Nat}{a:Act}{w:World}(hm:P.follows .mixedOrders=true)(h:ce P .any ops Q M S ops.size (Array.replicate ops.size false) a w.drew):(Code.region id ops true).wp P Q a w :=
 wp_region_any hm h.any
end
set_option maxRecDepth 100000
open Go.RowKit
def Aw(st cc bi bb:Int):Bool:=decide (st<0)||(decide (cc<0)||(decide (cc=0)&&decide (bi<bb)))
theorem pm{st:Int×(Int×Int)}{p:j8}(hp:t.at k c=p)(h:vP p (0,1)<=0):dB t c st k=st:=by
 unfold dB;rw[hp,if_pos h]
theorem po{st:Int×(Int×Int)}{u:Nat}{p q:j8}(hu:u=t.q8.toNat+t.rows.length)(hp:t.at k c=p)(hq:t.at k u=q)(h:¬vP p (0,1)<=0)(hd:(xk q p).2=false):dB t c st k=st:=by
 unfold dB;rw[hp,if_neg h,<-hu,hq,if_pos hd]
theorem pr{st:Int}{l:j8}{u:Nat}{p q d:j8}(hu:u=t.q8.toNat+t.rows.length)(hp:t.at k c=p)(hq:t.at k u=q)(h:¬vP p (0,1)<=0)(hd:xk q p=(d,true)){bi E:Int}(hb:t.basis[k]?.getD 0=bi)(xS:t.basis[st.toNat]?.getD 0=E):
 dB t c (st,l) k=if Aw st (vP d l) bi E=true then((k:Int),d) else(st,l):=by
 unfold dB;rw[hp,if_neg h,<-hu,hq,hd,if_neg e8];simp only[hb,xS,Aw,Bool.or_eq_true,Bool.and_eq_true,decide_eq_true_eq]
theorem im(t:Tb)(c:Nat):∀k,(bO t c k).1=-1∨(0<=(bO t c k).1/\(bO t c k).1<k)
 | 0=>.inl rfl
 | k+1=>by
   have ih:=im t c k
   show(dB t c (bO t c k) k).1=-1∨(0<=(dB t c (bO t c k) k).1/\(dB t c (bO t c k) k).1<((k+1:Nat):Int));unfold dB
   split
   ·omega
   ·split
    ·omega
    ·split
     ·right;simp;omega
     ·omega
section
variable{w:World}{ra:j6}{rn rc:Nat}{ba:j6}{bn bc:Nat}{t:Tb}
theorem oX(h:Ds w ra rn rc ba bn bc t)(zu:rn<=100000)(ve:Int):
 Calls Tryz.prog 233 #[CR ra rn rc ba bn bc t.q8,.int .i64 ve] w fun e w'=>e=.returned (.int .i64 (cu t ve))/\Ext w w':=by
 have HF:=ae (gT (h.ext (Ext.alloc w (bT ra rn rc ba bn bc t.q8))) e7);have Uq:=ae (fun ok=>ft h ok);obtain⟨rows,basis,x⟩:=t;have uS:=Ext.alloc w (bT ra rn rc ba bn bc x);have uV:=ae uS;have H:=ae (h.ext uS);have xm:=h.rows.l8;have yI:=h.rows.o0;have xL:=h.basis.l8;have wU:=h.basis.o0;have xE:=ae h.rows.hlen
 have HE:=ae (show cu ⟨rows,basis,x⟩ ve=if(yO ⟨rows,basis,x⟩&&r' ve 0 (x+(rn:Int)-1))=true then(bO ⟨rows,basis,x⟩ ve.toNat rn).1 else -1 by
  unfold cu;simp only;rw[h.rows.hlen])
 clear h uS
 show Calls _ _ #[CR ra rn rc ba bn bc x,.int .i64 ve] w _;cases wj:yO ⟨rows,basis,x⟩
 ·rw[wj]at HF;have HN:=ae (show cu ⟨rows,basis,x⟩ ve=-1 by rw[HE.o,wj];rfl);clear wj;go_enter Tryz.func233,Tryz.ntmps233
  go_wp2_with fail;refine HF.o.mono ?_;rintro e w1 ⟨rfl,hx⟩;have X1:=ae (uV.o.trans hx);clear hx;go_wp2_with fail;go_ret;exact⟨aD HN.o.symm,X1.o⟩
 ·rw[wj]at HF;obtain⟨m,Ep,hm,CY,xW,GX⟩:=Uq.o wj;simp only at Ep;subst Ep CY;have RE:=ae wj;replace xW:=ae xW;replace GX:=ae GX;clear wj;have V6:=ae (fun w=>aJ ve 0 ((m:Int)+(bn:Int)-1) w);cases wq:r' ve 0 ((m:Int)+(bn:Int)-1)
  ·have HN:=ae (show cu ⟨rows,basis,(m:Int)⟩ ve=-1 by rw[HE.o,wq];simp);simp only[wq]at V6;clear wq;go_enter Tryz.func233,Tryz.ntmps233
   go_wp2_with fail;refine HF.o.mono ?_;rintro e w1 ⟨rfl,hx⟩;have c0:w1.cell? ⟨w.heap.size,0,none⟩=some (.slice ra bn rc):=hx.j9 e8;have c2:w1.cell? ⟨w.heap.size,2,none⟩=some (.int .i64 (m:Int)):=hx.j9 e8;have X1:=ae (uV.o.trans hx);clear hx;go_wp2_with fail;refine(V6.o _).mono ?_;rintro e w2 ⟨rfl,rfl⟩;go_wp2_with fail;go_ret;exact⟨aD HN.o.symm,X1.o⟩
  ·obtain⟨c,rfl⟩:∃c:Nat,ve=c:=⟨ve.toNat,by simp[r']at wq;omega⟩;have hc:c<m+bn:=by simp[r']at wq;omega
   have HR:=ae (show cu ⟨rows,basis,(m:Int)⟩ (c:Int)=(bO ⟨rows,basis,(m:Int)⟩ c bn).1 by rw[HE.o,RE.out,wq];simp);simp only[wq]at V6;clear wq;obtain⟨u,hu⟩:=b9 (m+bn);have HU:=ae (show u=(Tb.mk rows basis (m:Int)).q8.toNat+(Tb.mk rows basis (m:Int)).rows.length by show u=Int.toNat (m:Int)+rows.length;rw[show rows.length=bn from xE.o];omega);have R6:=ae hu;have LK:c<u:=by omega
   have RB:u<=200000:=by omega
   clear hu;go_enter Tryz.func233,Tryz.ntmps233
   go_wp2_with fail;refine HF.o.mono ?_;rintro e w1 ⟨rfl,hx⟩;have c0:w1.cell? ⟨w.heap.size,0,none⟩=some (.slice ra bn rc):=hx.j9 e8;have c1:w1.cell? ⟨w.heap.size,1,none⟩=some (.slice ba bn bc):=hx.j9 e8;have c2:w1.cell? ⟨w.heap.size,2,none⟩=some (.int .i64 (m:Int)):=hx.j9 e8;have C1:=ae c1;have X1:=ae (uV.o.trans hx);have H1:=ae (H.o.ext hx);have BQ:w.heap.size<w1.heap.size:=by have:=hx.size;simp at this;omega
   clear hx c1;go_wp2_with fail;refine(V6.o _).mono ?_;rintro e w2 ⟨rfl,rfl⟩;have BM:=ae (ag.new (Ext.refl w1) 0 0);go_wp2_with fail
   go_loopg [5,30] bn (fun gk Y8 ii wr=>∃(k:Nat) (st l1 l2:Int),b7 (gk+k=bn)/\ii=.int .i64 (k:Int)/\Y8=.int .i64 st/\b7 (bO ⟨rows,basis,(m:Int)⟩ c k=(st,(l1,l2)))/\b7 (ag w1 wr w1.heap.size l1 l2))
   case atStart=>exact⟨0,-1,0,0,ae e7,rfl,rfl,ae rfl,BM⟩
   case round =>
    obtain⟨g1,o6⟩:=b9 gk;subst o6;obtain⟨o8,o4⟩:=b9 wr;subst o4;obtain⟨k,st,l1,l2,O,rfl,rfl,HL,HB⟩:=hrel;clear c0 c2;by_cases hlt:k<bn
    ·obtain⟨zb,vF,za,Z,zc,zX,xr,o7⟩:=(H1.o.ext HB.o.ext).rows.at hlt;subst zX;have G4:Z=u+1:=by rw[<-o7.hlen,R6.o];exact xW.o k hlt
     have VR:=ae G4;have J1:=o7.l8;have S4:=o7.o0;have ze:=ae o7;obtain⟨yb,U,p,q,Bs,vK,AL,xG⟩:=o7.at (show c<Z by omega);subst Bs;have wI:=ae (show Tb.at ⟨rows,basis,(m:Int)⟩ k c=(p,q)from vK);have HS:=ae (JC p q o8);obtain⟨sg,AB⟩:=b9 (vP (p,q) (0,1));have A1:=ae AB;rw[<-AB]at HS;have hcz:c<Z:=by omega
     clear vK AB o7 G4;by_cases AO:sg<=0
     ·have xh:=ae (show bO ⟨rows,basis,(m:Int)⟩ c (k+1)=(st,(l1,l2))by
       show dB _ c (bO _ c k) k=_
       rw[HL.o];exact pm wI.o (by rw[<-A1.o];exact AO))
      go_wp2_with fail;refine HS.o.mono ?_;rintro e w3 ⟨rfl,hx⟩;have yF:=ae (HB.o.grow hx);clear hx;go_wp2_with fail
      go_roundg (g1-1)
      case measure=>have:=O.o;omega
      case rel=>exact⟨k+1,st,l1,l2,ae (j1 O.o),by go_num,rfl,xh,yF⟩
     ·have FA:=ae AO;go_wp2_with fail;refine HS.o.mono ?_;rintro e w3 ⟨rfl,hx⟩;have yF:=ae (HB.o.grow hx);replace AL:=hx.j9 AL;replace xG:=hx.j9 xG;obtain⟨ub,FK,p',q',Vr,J3,G5,JP⟩:=(ze.o.ext hx).at (show u<Z by have:=VR.o;omega);simp only[Option.some.injEq,Addr.mk.injEq,and_true]at Vr;obtain⟨rfl,rfl⟩:=Vr;have UC:=ae (show Tb.at ⟨rows,basis,(m:Int)⟩ k u=(p',q')from J3);obtain⟨d1,d2,BY,hdd⟩:∃x y ok,xk (p',q') (p,q)=((x,y),ok):=⟨_,_,_,rfl⟩;have Bk:=ae hdd;clear J3 hdd hx xr;have MM:IntKind.i64.wrap ((Z:Int)-1)=(u:Int):=by have:=VR.o;rw[IntKind.wrap_i64];omega
      have JS:(0:Int)<=(u:Int):=by omega
      have DH:(u:Int)<(Z:Int):=by have:=VR.o;omega
      have wK:(0:Int)<=(c:Int):=by omega
      have xB:(c:Int)<(Z:Int):=by omega
      go_upto_region 9 with fail
      go_cut [9,10] (fun sx so wx=>∃g:Nat,sx=.pointer (some ⟨g,0,none⟩)/\so=.bool BY/\b7 (ag w3 wx g d1 d2))
      case first =>
       have k7:Ext w3 w3.drew:=Ext.drew w3;have vt:Ext w3 (w3.alloc (.cells #[.int .i64 0,.int .i64 0] 62)).drew:=(Ext.alloc _ _).trans (Ext.drew _);have k8:=ae (fun(w':World) (h:Ext w3 w')=>(⟨h.j9 AL,h.j9 xG,h.j9 G5,h.j9 JP,h⟩:w'.cell? ⟨yb,U+c*2,none⟩=some (.int .i64 p)/\w'.cell? ⟨yb,U+c*2+1,none⟩=some (.int .i64 q)/\w'.cell? ⟨yb,U+u*2,none⟩=some (.int .i64 p')/\w'.cell? ⟨yb,U+u*2+1,none⟩=some (.int .i64 q')/\Ext w3 w'))
       go_region_held3 (fun w'=>w'.cell? ⟨yb,U+c*2,none⟩=some (.int .i64 p)/\w'.cell? ⟨yb,U+c*2+1,none⟩=some (.int .i64 q)/\w'.cell? ⟨yb,U+u*2,none⟩=some (.int .i64 p')/\w'.cell? ⟨yb,U+u*2+1,none⟩=some (.int .i64 q')/\Ext w3 w')
        (first
          | with_reducible exact k8.o _ k7
          | with_reducible exact k8.o _ vt
          | with_reducible exact k8.o _ ((k7.setCell (by first|(simp;done)|(simp;omega)) _).setCell (by first|(simp;done)|(simp;omega)) _)
          | with_reducible exact k8.o _ (k7.trans (Ext.alloc _ _))
          | with_reducible exact k8.o _ (p4.put _ _).ext)
        (first
          | (go_at_call 253
             (with_reducible refine(oT p' q' p q _).mono ?_)
             rw[Bk.o];rintro e w5 ⟨rfl,uY⟩
             first|(with_reducible have p4:=ag.grow p4 uY)|(with_reducible have p4:=ag.vm uY)|(with_reducible have p4:=ag.vq k7 uY)|skip
             first|(have Ag:=p4.c0;have Af:=p4.c1;have Bb:=p4.free)|skip
             have k7:Ext w3 w5:=by first|with_reducible exact k7.trans uY|with_reducible exact vt.trans uY|with_reducible exact(k7.trans (Ext.alloc _ _)).trans uY
             have xu:=k7.size)
          | fail)
       all_goals(go_wp2_with fail;go_meet;first|exact⟨_,rfl,rfl,ae (p4.put _ _)⟩|exact⟨_,rfl,rfl,ae (ag.new k7 _ _)⟩|exact⟨_,rfl,rfl,ae (ag.new' k7 _ _ e8)⟩)
      obtain⟨g,rfl,rfl,wy⟩:=hcut;clear MM JS DH wK xB AL xG G5 JP;have Cf:=ae (yF.o.grow wy.o.ext);cases BY
      ·have xh:=ae (show bO ⟨rows,basis,(m:Int)⟩ c (k+1)=(st,(l1,l2))by
        show dB _ c (bO _ c k) k=_
        rw[HL.o];exact po HU.o wI.o UC.o (by rw[<-A1.o];have:=FA.o;omega) (by rw[Bk.o]))
       go_wp2_with fail
       go_roundg (g1-1)
       case measure=>have:=O.o;omega
       case rel=>exact⟨k+1,st,l1,l2,ae (j1 O.o),by go_num,rfl,xh,Cf⟩
      ·have g0:=wy.o.c0;have g1':=wy.o.c1;have b0:=Cf.o.c0;have b1:=Cf.o.c1;have B6:=ae (gS d1 d2 l1 l2 wc);obtain⟨cc,I⟩:=b9 (vP (d1,d2) (l1,l2));have Ma:=ae I;rw[<-I]at B6;clear I;go_wp2_with fail;refine B6.o.mono ?_;rintro e w6 ⟨rfl,hx⟩;have DT:=ae (Cf.o.grow hx);have O':=ae (wy.o.grow hx);clear hx g0 g1' b0 b1;have c1:=DT.o.ext.j9 C1.o;obtain⟨K,J,AD,xj⟩:=(H1.o.ext DT.o.ext).basis.at hlt;subst AD;obtain⟨bi,Bx⟩:=b9 (basis[k]?.getD 0);have Lw:=ae Bx;rw[<-Bx]at xj;clear Bx;have Ce:=ae (im ⟨rows,basis,(m:Int)⟩ c k);have BU:(0:Int)<=(k:Int):=by omega
       have yx:(k:Int)<(bn:Int):=by omega
       have Zp:=ae (fun E (xS:basis[st.toNat]?.getD 0=E)=>show bO ⟨rows,basis,(m:Int)⟩ c (k+1)=if Aw st cc bi E=true then((k:Int),(d1,d2)) else(st,(l1,l2))by
        show dB _ c (bO _ c k) k=_;rw[HL.o,Ma.o]
        exact pr HU.o wI.o UC.o (by rw[<-A1.o];have:=FA.o;omega) Bk.o Lw.o.symm xS)
       go_upto_region 12 with fail
       go_cut [82] (fun s82 wx=>∃E:Int,s82=.bool (Aw st cc bi E)/\b7 (basis[st.toNat]?.getD 0=E)/\b7 (Ext w6 wx))
       case first =>
        have k7:Ext w6 w6.drew:=Ext.drew w6;by_cases hst:st<0
        ·have Ca:decide (st<0)=true:=decide_eq_true hst;refine wp_region_held_drew (S:=(fun w'=>w'.cell? ⟨w.heap.size,1,none⟩=some (.slice (some ⟨K,J,none⟩) bn bc)/\w'.cell? ⟨K,J+k,none⟩=some (.int .i64 bi)/\Ext w6 w')) e9 ?_ (fun k9=>?_)
         ·exact⟨k7.j9 c1,k7.j9 xj,k7⟩
         refine tk 0 ?_;refine tk 1 ?_;refine tk 2 ?_;refine sk 3 ?_;refine sk 4 ?_;refine tk 5 ?_;refine tk 6 ?_;refine sk 7 ?_;refine sk 8 ?_;refine sk 9 ?_;refine sk 10 ?_;refine sk 11 ?_;refine sk 12 ?_;refine sk 13 ?_;refine sk 14 ?_;refine sk 15 ?_;refine sk 16 ?_;refine sk 17 ?_;refine sk 18 ?_;refine sk 19 ?_;refine sk 20 ?_;refine sk 21 ?_;refine tk 22 ?_;refine wpAnyH_done e9 ?_ _;go_wp2_with fail;go_meet;exact⟨_,by unfold Aw;rw[Ca];rfl,ae rfl,ae k7⟩
        ·have Ca:decide (st<0)=false:=decide_eq_false e7;obtain⟨W,rfl⟩:∃W:Nat,st=W:=⟨st.toNat,by omega⟩;have MW:W<bn:=by have:=Ce.o;rw[HL.o]at this;simp only at this;omega
         obtain⟨fb,CE,Qc,Ki⟩:=(H1.o.ext DT.o.ext).basis.at MW;simp only[Option.some.injEq,Addr.mk.injEq,and_true]at Qc;obtain⟨rfl,rfl⟩:=Qc;obtain⟨E,xS⟩:=b9 (basis[W]?.getD 0);have AF:=ae (show basis[Int.toNat (W:Int)]?.getD 0=E by rw[Int.toNat_natCast,xS]);rw[<-xS]at Ki;have Xd:(0:Int)<=(W:Int):=by omega
         have S1:(W:Int)<(bn:Int):=by omega
         clear xS;by_cases I:cc<0
         ·have D1:decide (cc<0)=true:=decide_eq_true I;refine wp_region_held_drew (S:=(fun w'=>w'.cell? ⟨w.heap.size,1,none⟩=some (.slice (some ⟨K,J,none⟩) bn bc)/\w'.cell? ⟨K,J+k,none⟩=some (.int .i64 bi)/\Ext w6 w')) e9 ?_ (fun k9=>?_)
          ·exact⟨k7.j9 c1,k7.j9 xj,k7⟩
          refine tk 0 ?_;refine tk 1 ?_;refine tk 2 ?_;refine tk 3 ?_;refine tk 4 ?_;refine tk 5 ?_;refine tk 6 ?_;refine sk 7 ?_;refine sk 8 ?_;refine sk 9 ?_;refine sk 10 ?_;refine sk 11 ?_;refine sk 12 ?_;refine sk 13 ?_;refine sk 14 ?_;refine sk 15 ?_;refine sk 16 ?_;refine sk 17 ?_;refine sk 18 ?_;refine sk 19 ?_;refine sk 20 ?_;refine sk 21 ?_;refine tk 22 ?_;refine wpAnyH_done e9 ?_ _;go_wp2_with fail;go_meet;exact⟨E,by unfold Aw;rw[Ca,D1];rfl,AF,ae k7⟩
         ·have D1:decide (cc<0)=false:=decide_eq_false e7;by_cases wK:cc=0
          ·subst wK;refine wp_region_held_drew (S:=(fun w'=>w'.cell? ⟨w.heap.size,1,none⟩=some (.slice (some ⟨K,J,none⟩) bn bc)/\w'.cell? ⟨K,J+k,none⟩=some (.int .i64 bi)/\w'.cell? ⟨K,J+W,none⟩=some (.int .i64 E)/\Ext w6 w')) e9 ?_ (fun k9=>?_)
           ·exact⟨k7.j9 c1,k7.j9 xj,k7.j9 Ki,k7⟩
           refine tk 0 ?_;refine tk 1 ?_;refine tk 2 ?_;refine tk 3 ?_;refine tk 4 ?_;refine tk 5 ?_;refine tk 6 ?_;refine tk 7 ?_;refine tk 8 ?_;refine tk 9 ?_;refine tk 10 ?_;refine tk 11 ?_;refine tk 12 ?_;refine tk 13 ?_;refine tk 14 ?_;refine tk 15 ?_;refine tk 16 ?_;refine tk 17 ?_;refine tk 18 ?_;refine tk 19 ?_;refine tk 20 ?_;refine tk 21 ?_;refine tk 22 ?_;refine wpAnyH_done e9 ?_ _;go_wp2_with fail;go_meet;exact⟨E,by unfold Aw;rw[Ca];rfl,AF,ae k7⟩
          ·have Nk:(cc == 0)=false:=by simp;omega
           refine wp_region_held_drew (S:=(fun w'=>w'.cell? ⟨w.heap.size,1,none⟩=some (.slice (some ⟨K,J,none⟩) bn bc)/\w'.cell? ⟨K,J+k,none⟩=some (.int .i64 bi)/\Ext w6 w')) e9 ?_ (fun k9=>?_)
           ·exact⟨k7.j9 c1,k7.j9 xj,k7⟩
           refine tk 0 ?_;refine tk 1 ?_;refine tk 2 ?_;refine tk 3 ?_;refine tk 4 ?_;refine tk 5 ?_;refine tk 6 ?_;refine tk 7 ?_;refine tk 8 ?_;refine tk 9 ?_;refine sk 10 ?_;refine sk 11 ?_;refine sk 12 ?_;refine sk 13 ?_;refine sk 14 ?_;refine sk 15 ?_;refine sk 16 ?_;refine sk 17 ?_;refine sk 18 ?_;refine sk 19 ?_;refine sk 20 ?_;refine tk 21 ?_;refine tk 22 ?_;refine wpAnyH_done e9 ?_ _;go_wp2_with fail;go_meet;exact⟨E,by unfold Aw;rw[Ca,D1,decide_eq_false wK];rfl,AF,ae k7⟩
       obtain⟨E,rfl,AF,QU⟩:=hcut;have BE:=ae (DT.o.grow QU.o);have Lm:=ae (O'.o.grow QU.o);have Up:=ae (Zp.o E AF.o);clear c1 xj;cases JR:Aw st cc bi E
       ·have xh:=ae (show bO ⟨rows,basis,(m:Int)⟩ c (k+1)=(st,(l1,l2))by rw[Up.o,JR];rfl);go_wp2_with fail
        go_roundg (g1-1)
        case measure=>have:=O.o;omega
        case rel=>exact⟨k+1,st,l1,l2,ae (j1 O.o),by go_num,rfl,xh,BE⟩
       ·have xh:=ae (show bO ⟨rows,basis,(m:Int)⟩ c (k+1)=((k:Int),(d1,d2))by rw[Up.o,JR];rfl);have g0:=Lm.o.c0;have g1':=Lm.o.c1;have b0:=BE.o.c0;have b1:=BE.o.c1;have bf:=BE.o.free;have Mc:=ae ((BE.o.grow (Ext.drew wc)).put d1 d2);go_upto_region 13 with fail
        go_still_tail 3,e9
        go_wp2_with fail
        go_roundg (g1-1)
        case measure=>have:=O.o;omega
        case rel=>exact⟨k+1,(k:Int),d1,d2,ae (j1 O.o),by go_num,rfl,xh,Mc⟩
    ·have vZ:bn=k:=by have:=O.o;omega
     subst vZ;have HY:=ae (show cu ⟨rows,basis,(m:Int)⟩ (c:Int)=st by rw[HR.o,HL.o]);go_wp2_with fail;go_ret;exact⟨aD HY.o.symm,X1.o.trans HB.o.ext⟩
end
theorem yS.Ck{base G N cap:Nat}{vs:List Value}(h:yS w base (some ⟨G,0,none⟩) N cap vs M){g:Nat}(hi:i<N)(hv:vs[i]?.getD undef=.slice (some ⟨g,0,none⟩) n c)(I:j<(M[i]?.getD []).length)(x y:Int):
 yS ((w.setCell ⟨g,j*2,none⟩ (.int .i64 x)).setCell ⟨g,j*2+1,none⟩ (.int .i64 y)) base (some ⟨G,0,none⟩) N cap vs (M.set i ((M[i]?.getD []).set j (x,y))):=by
 have Ar:i<M.length:=by rw[h.len];exact hi
 have hr:=h.rows.row i Ar;rw[hv]at hr;have hgG:g≠G:=fun e=>hr.apart h.own g rfl (by subst e;rfl)
 have yf:∀k,k≠g->((w.setCell ⟨g,j*2,none⟩ (.int .i64 x)).setCell ⟨g,j*2+1,none⟩ (.int .i64 y)).heap[k]?=w.heap[k]?:=fun k hk=>by
  rw[heap_setCell_other _ _ _ _ hk,heap_setCell_other _ _ _ _ hk]
 refine⟨h.own.keep fun k hk=>yf k (by simp only[Value.ownBlock,Option.some.injEq]at hk;show k≠g;omega),?_⟩;refine⟨by rw[List.length_set];exact h.rows.len,fun k hk=>?_,fun a b k Ku hb=>h.rows.apart a b k Ku (by rw[List.length_set]at hb;exact hb)⟩;rw[List.length_set]at hk;by_cases E:k=i
 ·subst E;rw[hv,List.getElem?_set_self Ar];exact hr.set I x y
 ·rw[List.getElem?_set_ne (Ne.symm E)];refine(h.rows.row k hk).keep fun b hb=>yf b fun e=>?_
  subst e
  rcases Nat.lt_or_gt_of_ne E with hlt|hlt
  ·exact h.rows.apart k i _ hlt Ar hb (by rw[hv];rfl)
  ·exact h.rows.apart i k _ hlt hk (by rw[hv];rfl) hb
structure BZ(w:World)(base g G N cap:Nat)(vb:Value)(x:Int)(vs:List Value)(M:List (j4))(l:j7):Prop where
 box:w.heap[g]?=some (.cells #[.slice (some ⟨G,0,none⟩) N cap,vb,.int .i64 x] 116 (0,0))
 hg:base<=g
 m:yS w base (some ⟨G,0,none⟩) N cap vs M
 b:o5 w base vb l
section
variable{w:World}{base g G N cap:Nat}{vb:Value}{x:Int}{vs:List Value}{M:List (j4)}{l:j7}
theorem BZ.ext{w':World}(h:BZ w base g G N cap vb x vs M l)(hx:Ext w w'):BZ w' base g G N cap vb x vs M l:=⟨(hx.block _ (lt_of_block h.box)).trans h.box,h.hg,h.m.ext hx,h.b.ext hx⟩
theorem BZ.own(h:BZ w base g G N cap vb x vs M l):wS w base (.slice (some ⟨G,0,none⟩) N cap) vb vs ⟨M,l,x⟩:=⟨h.m.own,h.m.rows,h.b⟩
theorem BZ.c0(h:BZ w base g G N cap vb x vs M l):w.cell? ⟨g,0,none⟩=some (.slice (some ⟨G,0,none⟩) N cap):=al h.box
theorem BZ.Sn(h:BZ w base g G N cap vb x vs M l){i:Nat}{g':Nat}(hi:i<M.length)(hv:(vs[i]?.getD undef).ownBlock=some g'):g'≠g/\vb.ownBlock≠some g':=by
 have hr:=h.m.rows.row i hi;exact⟨fun e=>(an hr h.box (by decide)) (by rw[hv,e]),fun e=>aU (by decide) hr h.b g' hv e⟩
theorem BZ.Ck(h:BZ w base g G N cap vb x vs M l){i n g' c:Nat}(hi:i<N)(hv:vs[i]?.getD undef=.slice (some ⟨g',0,none⟩) n c){j:Nat}(E:j<(M[i]?.getD []).length)(p q:Int):
 BZ ((w.setCell ⟨g',j*2,none⟩ (.int .i64 p)).setCell ⟨g',j*2+1,none⟩ (.int .i64 q)) base g G N cap vb x vs (M.set i ((M[i]?.getD []).set j (p,q))) l:=by
 obtain⟨h1,h2⟩:=h.Sn (i:=i) (g':=g') (by rw[h.m.len];exact hi) (by rw[hv];rfl);refine⟨?_,h.hg,h.m.Ck hi hv E p q,h.b.keep fun k hk=>?_⟩
 ·rw[heap_setCell_other _ _ _ _ h1.symm,heap_setCell_other _ _ _ _ h1.symm];exact h.box
 ·have:k≠g':=fun e=>h2 (by rw[hk,e])
  rw[heap_setCell_other _ _ _ _ this,heap_setCell_other _ _ _ _ this]
theorem BZ.put{E:World}(h:BZ w base g G N cap vb x vs M l)(hx:Ext w E)(hb:base<=w.heap.size){v:Value}{r:j4}(I:l9 E w.heap.size v r){i:Nat}(hi:i<N):
 BZ (E.setCell ⟨G,i,none⟩ v) base g G N cap vb x (vs.set i v) (M.set i r) l:=by
 have h2:=h.ext hx;have J:g≠G:=fun e=>(an h.m.own h.box (by decide)) (by rw[e];rfl)
 refine⟨by rw[heap_setCell_other _ _ _ _ J];exact h2.box,h.hg,h.m.put hx hb I hi,h2.b.keep fun k hk=>heap_setCell_other _ _ _ _ fun e=>?_⟩;exact aU (by decide) h2.b h2.m.own k hk (by subst e;rfl)
theorem BZ.Sp{B n bc:Nat}(h:BZ w base g G N cap (.slice (some ⟨B,0,none⟩) n bc) x vs M l)(i:Nat)(z:Int):
 BZ (w.setCell ⟨B,i,none⟩ (.int .i64 z)) base g G N cap (.slice (some ⟨B,0,none⟩) n bc) x vs M (l.set i z):=by
 have hBg:g≠B:=fun e=>(an h.b h.box (by decide)) (by rw[e];rfl)
 refine⟨by rw[heap_setCell_other _ _ _ _ hBg];exact h.box,h.hg,h.m.keep (fun k hk=>heap_setCell_other _ _ _ _ fun e=>?_) (fun j k hj hk=>heap_setCell_other _ _ _ _ fun e=>?_),h.b.set i z⟩
 ·exact aU (by decide) h.m.own h.b k hk (by subst e;rfl)
 ·exact aU (by decide) (h.m.rows.row j (by rw[h.m.len];exact hj)) h.b k hk (by subst e;rfl)
end
def dk(t:Tb)(row ve:Int):Tb:=(bo t row ve).getD t
theorem up{row ve:Int}(h:dT t row ve=false):bo t row ve=none:=by unfold bo;rw[h];rfl
theorem iW(h:dT t (r:Int) (c:Int)=true):bo t r c=fm t r c:=by unfold bo;rw[if_pos h];rfl
theorem iV(h:Ad (t.row r) (t.at r c)=none):fm t r c=none:=by unfold fm;rw[h];rfl
theorem ks(h:Ad (t.row r) (t.at r c)=some main):fm t r c=(xy t r c main t.rows.length).map fun rs=>⟨rs,t.basis.set r (c:Int),t.q8⟩:=by unfold fm;rw[h];rfl
theorem nQ(h:xy t r c main k=none):∀{n:Nat},k<=n->xy t r c main n=none
 | n,hn=>by
   obtain⟨d,rfl⟩:∃d,n=k+d:=⟨n-k,by omega⟩;clear hn
   induction d with
   | zero=>exact h
   | succ d ih=>show(xy t r c main (k+d)).bind _=none;rw[ih];rfl
theorem nO{t:Tb}{r c:Nat}{main:j4}(hr:r<t.rows.length):∀{k:Nat} {M:List (j4)},xy t r c main k=some M->M.length=t.rows.length/\M[r]?.getD []=main
 | 0,M,h=>by
   simp only[xy,Option.some.injEq]at h;subst h;exact⟨by simp,by rw[List.getElem?_set_self hr];rfl⟩
 | k+1,M,h=>by
   simp only[xy]at h;cases e:xy t r c main k with
   | none=>rw[e]at h;cases h
   | some s0 =>
     rw[e]at h;simp only[Option.bind_some]at h;obtain⟨h1,h2⟩:=nO hr e;unfold Ji at h
     split at h
     ·simp only[Option.some.injEq]at h;subst h;exact⟨h1,h2⟩
     ·next hn =>
      rw[Option.map_eq_some_iff]at h;obtain⟨x,_,rfl⟩:=h;refine⟨by rw[List.length_set,h1],?_⟩;rw[List.getElem?_set_ne (fun e=>hn (.inl e))];exact h2
theorem nU(h:xy t r c main k=some M)(hs:k=r∨t.at k c=(0,1)):xy t r c main (k+1)=some M:=by
 simp only[xy,h,Option.bind_some,Ji,if_pos hs]
theorem rD(h:xy t r c main k=some M)(hs:¬(k=r∨t.at k c=(0,1))):xy t r c main (k+1)=(xP (t.row k) (uU (t.at k c)) main).map fun x=>M.set k x:=by
 simp only[xy,h,Option.bind_some,Ji,if_neg hs]
theorem QF{r m:j4}{q:j8}(hm:m.length=j)(E:j<r.length):(m++r.drop j).set j q=(m++[q])++r.drop (j+1):=by
 rw[List.set_append_right _ _ e7,hm,Nat.sub_self,List.drop_eq_getElem_cons E,List.set_cons_zero,List.append_assoc];rfl
def Ho(w:World)(base:Nat)(e:Ending)(t:Tb)(ok:Bool):Prop:=∃va vb vs,e=.returned (.tuple #[.agg #[va,vb,.int .i64 t.q8],.bool ok])/\wS w base va vb vs t
section
variable{w:World}{ra:j6}{rn rc:Nat}{ba:j6}{bn bc:Nat}{t:Tb}
theorem lH(h:Ds w ra rn rc ba bn bc t)(zu:rn<=100000)(Dn:bn<=100000)(CS:∀i,i<rn->(t.row i).length<=1048576)(row ve:Int)(hno:dT t row ve=false):
 Calls Tryz.prog 235 #[CR ra rn rc ba bn bc t.q8,.int .i64 row,.int .i64 ve] w fun e w'=>Ho w' w.heap.size e t false/\Ext w w':=by
 have uS:=(Ext.alloc w (bT ra rn rc ba bn bc t.q8)).trans (Ext.alloc _ (.cells #[.slice none 0 0,.slice none 0 0,.int .i64 0] 116));obtain⟨W,hW⟩:=b9 ((w.alloc (bT ra rn rc ba bn bc t.q8)).alloc (.cells #[.slice none 0 0,.slice none 0 0,.int .i64 0] 116));rw[<-hW]at uS;have uV:=ae uS;have H:=ae (h.ext uS);have HF:=ae (gT H.o e7);have Uq:=ae (fun ok=>ft h ok);have zA:=ae (fun(w':World) (hx:Ext W w')=>iy (H.o.ext hx) e7 e7 CS);have wL:=ae (show W.heap[w.heap.size+1]?=some (.cells #[.slice none 0 0,.slice none 0 0,.int .i64 0] 116 (0,0))by rw[hW];exact aj _ _ _ e8);have uW:=ae (show W.heap[w.heap.size]?=some (.cells #[.slice ra rn rc,.slice ba bn bc,.int .i64 t.q8] 116 (0,0))by rw[hW,bU _ _ _ e8];exact aj _ _ _ rfl);have zx:=ae (show W.heap.size=w.heap.size+1+1 by rw[hW];simp);have xm:=h.rows.l8;have yI:=h.rows.o0;obtain⟨rows,basis,x⟩:=t
 have B2:=ae (show(yO ⟨rows,basis,x⟩&&(r' row 0 ((rn:Int)-1)&&r' ve 0 (x+(rn:Int)-1)))=false by
  have:=hno;unfold dT at this;simp only at this;rw[h.rows.hlen]at this;exact this)
 clear h uS CS hno
 show Calls _ _ #[CR ra rn rc ba bn bc x,.int .i64 row,.int .i64 ve] w _;cases wj:yO ⟨rows,basis,x⟩
 ·rw[wj]at HF;clear wj;go_enter Tryz.func235,Tryz.ntmps235
  go_upto_region 1 with fail;rw[<-hW];clear hW;have p0:=al uW.o;have p1:=au uW.o;have p2:=av uW.o;go_wp2_with fail;refine HF.o.mono ?_;rintro e w1 ⟨rfl,hx⟩;have X1:=ae hx;clear hx p0 p1 p2;have p0:=al (X1.o.blk uW.o);have p1:=au (X1.o.blk uW.o);have p2:=av (X1.o.blk uW.o);go_wp2_with fail;refine(zA.o _ X1.o).mono ?_;rintro e w2 ⟨⟨va,vb,vs,rfl,E⟩,hx⟩;have X2:=ae (X1.o.trans hx);have HO:=ae E;obtain⟨a7,Z,c7,rfl,DP⟩:=E.a.var;obtain⟨a8,U,c8,rfl,Eg⟩:=E.b.var;have O:=al (X2.o.blk wL.o);have K:=au (X2.o.blk wL.o);have J:=av (X2.o.blk wL.o);have I:=cO (X2.o.blk wL.o);have hsz:=X1.o.size;have Gx:=zx.o;clear hx E p0 p1 p2;go_wp2_with fail;refine bodyPost_ret (v:=.tuple #[.agg #[.slice a7 Z c7,.slice a8 U c8,.int .i64 x],.bool false]) (by simp[results,Tryz.results235,go_sem,O,K,J,I]) rfl ⟨⟨_,_,vs,rfl,(HO.o.wW fun k hk=>cz _ _ _ _ _ _ e7).mono e7⟩,(uV.o.trans X2.o).zl (Nat.le_succ _) _ _ _⟩
 ·rw[wj]at HF;obtain⟨m,Ep,hm,CY,_,_⟩:=Uq.o wj;simp only at Ep;subst Ep CY;have ZK:=ae (show(r' row 0 ((bn:Int)-1)&&r' ve 0 ((m:Int)+(bn:Int)-1))=false by have:=B2.o;rw[wj]at this;simpa using this);have Bg:=ae (fun w=>aJ row 0 ((bn:Int)-1) w);have Ai:=ae (fun w=>aJ ve 0 ((m:Int)+(bn:Int)-1) w);clear wj;cases wq:r' row 0 ((bn:Int)-1)
  case' true =>
   have F5:r' ve 0 ((m:Int)+(bn:Int)-1)=false:=by have:=ZK.o;rw[wq]at this;simpa using this
   simp only[F5]at Ai;clear F5
  all_goals
   simp only[wq]at Bg;clear wq;go_enter Tryz.func235,Tryz.ntmps235
   go_upto_region 1 with fail;rw[<-hW];clear hW;have p0:=al uW.o;have p1:=au uW.o;have p2:=av uW.o;go_wp2_with fail;refine HF.o.mono ?_;rintro e w1 ⟨rfl,hx⟩;have X1:=ae hx;clear hx p0 p1 p2;have p0:=al (X1.o.blk uW.o);have p1:=au (X1.o.blk uW.o);have p2:=av (X1.o.blk uW.o);go_wp2_with fail;refine(Bg.o _).mono ?_;rintro e w1' ⟨rfl,rfl⟩;go_wp2_with fail
  all_goals
   try(
    with_reducible refine(Ai.o _).mono ?_
    rintro e w1' ⟨rfl,rfl⟩
    go_wp2_with fail)
   refine(zA.o _ X1.o).mono ?_;rintro e w2 ⟨⟨va,vb,vs,rfl,E⟩,hx⟩;have X2:=ae (X1.o.trans hx);have HO:=ae E;obtain⟨a7,Z,c7,rfl,DP⟩:=E.a.var;obtain⟨a8,U,c8,rfl,Eg⟩:=E.b.var;have O:=al (X2.o.blk wL.o);have K:=au (X2.o.blk wL.o);have J:=av (X2.o.blk wL.o);have I:=cO (X2.o.blk wL.o);have hsz:=X1.o.size;have Gx:=zx.o;clear hx E p0 p1 p2;go_wp2_with fail;refine bodyPost_ret (v:=.tuple #[.agg #[.slice a7 Z c7,.slice a8 U c8,.int .i64 (m:Int)],.bool false]) (by simp[results,Tryz.results235,go_sem,O,K,J,I]) rfl ⟨⟨_,_,vs,rfl,(HO.o.wW fun k hk=>cz _ _ _ _ _ _ e7).mono e7⟩,(uV.o.trans X2.o).zl (Nat.le_succ _) _ _ _⟩
end
end Go.Proofs.YtdadoignenffgaaGreatDoor
