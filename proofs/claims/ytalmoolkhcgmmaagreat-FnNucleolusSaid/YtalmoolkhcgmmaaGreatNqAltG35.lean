import Derived.Test.YtalmoolkhcgmmaaGreatNqAltG34
import Derived.Test.YtalmoolkhcgmmaaGreatNqAltG33
import Derived.Test.YtalmoolkhcgmmaaGreatNqAltG30
set_option linter.unusedVariables false
set_option linter.unusedSimpArgs false
namespace Go.Proofs.YtalmoolkhcgmmaaGreat
variable{y z:Nat->Rat}{V:j9}{s:Int}{L:j5}
theorem Lf{q:Nat}(h:xx q V y s=xx q V z s):BW q (fun k=>y k+(-1)*z k) (y8 q s)=0:=by
 have e:BW q (fun k=>y k+(-1)*z k) (y8 q s)=zs q y s+(-1)*zs q z s:=by
  unfold BW zs;rw[<-dd];refine aq fun j hj=>?_
  have:(y8 q s)[j]?.getD 0=wL (xt s (j:Int)):=by
   unfold y8;rw[List.getElem?_map,List.getElem?_range hj]
   rfl
  rw[this]
  grind
 rw[e];unfold xx at h
 grind
theorem iC{p:Int}(hg:aZ p V=true)(hd:dg p V L=true)(hy:eP p.toNat V L y)(hz:eP p.toNat V L z):∀k,k<p.toNat->y k=z k:=by
 obtain⟨_,_,hp,CG,Og,_⟩:=fM hg;unfold dg at hd;have hd:=of_decide_eq_true hd;rw[pr]at hd;unfold gT at hd
 split at hd
 ·have hr:(runM xh ((((V.length:Int)-1)::L.map (·.1)).map (y8 p.toNat)) p.toNat).2=p.toNat:=by omega
  have An:∀s∈((V.length:Int)-1)::L.map (·.1),xx p.toNat V y s=xx p.toNat V z s:=fun s hs=>by
   rcases List.mem_cons.1 hs with rfl|hs
   ·rw[hy.zL,hz.zL]
   ·obtain⟨f,hf,rfl⟩:=List.mem_map.1 hs;rw[hy.fixed f hf,hz.fixed f hf]
  have o9:∀i,i<((((V.length:Int)-1)::L.map (·.1)).map (y8 p.toNat)).length->∃s∈((V.length:Int)-1)::L.map (·.1),((((V.length:Int)-1)::L.map (·.1)).map (y8 p.toNat))[i]?.getD []=y8 p.toNat s:=fun i hi=>by
   rw[List.getElem?_eq_getElem hi,Option.getD_some];obtain⟨s,hs,e⟩:=List.mem_map.1 (List.getElem_mem hi);exact⟨s,hs,e.symm⟩
  have h0:=ve (n:=p.toNat) (z:=fun k=>y k+(-1)*z k) (fun i hi=>by
   obtain⟨s,_,e⟩:=o9 i hi
   rw[e,ir]) (fun i hi=>by
   obtain⟨s,hs,e⟩:=o9 i hi;rw[e]
   exact Lf (An s hs)) hr
  intro k hk;have:=h0 k hk;change y k+(-1)*z k=0 at this
  grind
 ·omega
theorem jI{p:Int}{V:j9}:∀{f k:Nat} {L:j5},(wP p V f L k).ok=true->dg p V (wP p V f L k).st=true
 | 0,k,L,h=>by cases h
 | f+1,k,L,h=>by
   by_cases xq:xH p V L=true/\(ap p.toNat V L).status=1
   ·by_cases hd:dg p V (bJ V L (ap p.toNat V L))=true
    ·rw[wP,if_pos xq,if_pos hd];exact hd
    ·have e:wP p V (f+1) L k=wP p V f (bJ V L (ap p.toNat V L)) (k+1):=by rw[wP,if_pos xq,if_neg hd]
     rw[e]at h⊢;exact jI h
   ·rw[wP,if_neg xq]at h;cases h
def Nl:Nat->Nat->Nat
 | 0,_=>1
 | n+1,B=>B*Nl n (2*B*B)
theorem No{B p a c r:Int}(h0:0<=B)(h1:-B<=p/\p<=B)(h2:-B<=a/\a<=B)(h3:-B<=c/\c<=B)(h4:-B<=r/\r<=B):-(2*B*B)<=p*a-c*r/\p*a-c*r<=2*B*B:=by
 have e:∀x y:Int,-B<=x/\x<=B->-B<=y/\y<=B->-(B*B)<=x*y/\x*y<=B*B:=fun x y hx hy=>by
  have a1:=Int.mul_nonneg (show 0<=B-x by omega) (show 0<=B+y by omega);have a2:=Int.mul_nonneg (show 0<=B+x by omega) (show 0<=B-y by omega);have a3:=Int.mul_nonneg (show 0<=B-x by omega) (show 0<=B-y by omega);have a4:=Int.mul_nonneg (show 0<=B+x by omega) (show 0<=B+y by omega);constructor<;>grind
 have:=e p a h1 h2;have:=e c r h3 h4
 grind
theorem mF:∀(n B:Nat) (R:(Nat->Int)->Prop) (y:Nat->Rat),
 (∀r,R r->∀i,i<n->-(B:Int)<=r i/\r i<=B) ->
 (∀r,R r->∃m:Int,o0 (fun i=>((r i:Int):Rat)*y i) n=(m:Rat)) ->
 (∀z:Nat->Rat,(∀r,R r->o0 (fun i=>((r i:Int):Rat)*z i) n=0)->∀i,i<n->z i=0) ->
 ∃M:Nat,1<=M/\M<=Nl n B/\∀i,i<n->∃m:Int,(M:Rat)*y i=(m:Rat)
 | 0,B,R,y,_,_,_=>⟨1,Nat.le_refl _,Nat.le_refl _,fun i hi=>absurd hi b9⟩
 | n+1,B,R,y,hB,hy,hk=>by
   obtain⟨r,hr,u⟩:∃r,R r/\r n≠0:=by
    refine Classical.byContradiction fun Z=>?_
    have h0:∀r,R r->r n=0:=fun r hr=>Classical.byContradiction fun h=>Z ⟨r,hr,h⟩
    have:=hk (fun i=>if i=n then 1 else 0) (fun r hr=>cv fun i hi=>by
     by_cases e:i=n
     ·subst e;rw[h0 r hr];simp
     ·rw[if_neg e];grind) n b9
    simp at this
   obtain⟨p,hp⟩:=b8 (r n);have I:=hB r hr n b9;rw[<-hp]at u I;have xk:(p:Rat)≠0:=dO u;obtain⟨W,U⟩:=hy r hr;simp only[o0]at U;rw[<-hp]at U;have G:∀(q:Nat->Int) (s:Nat->Int) (x:Nat->Rat),(∀i,s i=p*q i-q n*r i)->o0 (fun i=>((s i:Int):Rat)*x i) n=(p:Rat)*o0 (fun i=>((q i:Int):Rat)*x i) n+(-(q n:Rat))*o0 (fun i=>((r i:Int):Rat)*x i) n:=by
    intro q s x hs;rw[<-cK,<-dd];refine aq fun i hi=>?_
    rw[hs i,Rat.intCast_sub,Rat.intCast_mul,Rat.intCast_mul]
    grind
   obtain⟨M,Fo,RG,O⟩:=mF n (2*B*B) (fun s=>∃q,R q/\∀i,s i=p*q i-q n*r i) y
    (by
      rintro s ⟨q,hq,hs⟩ i hi;rw[hs i];have:=No (B:=(B:Int)) b9 I (hB q hq i b9) (hB q hq n b9) (hB r hr i b9);have e:((2*B*B:Nat):Int)=2*(B:Int)*B:=by push_cast;rfl
      rw[e];exact this)
    (by
      rintro s ⟨q,hq,hs⟩;obtain⟨mq,J⟩:=hy q hq;simp only[o0]at J;refine⟨p*mq-q n*W,?_⟩;rw[G q s y hs,Rat.intCast_sub,Rat.intCast_mul,Rat.intCast_mul,<-J,<-U]
      grind)
    (by
      intro z hz
      have DA:=hk (fun i=>if i=n then-o0 (fun i=>((r i:Int):Rat)*z i) n/(p:Rat) else z i) (fun q hq=>by
       have h1:=hz (fun i=>p*q i-q n*r i) ⟨q,hq,fun _=>rfl⟩;rw[G q _ z (fun _=>rfl)]at h1;simp only[o0,if_true];have e:o0 (fun k=>((q k:Int):Rat)*(if k=n then-o0 (fun i=>((r i:Int):Rat)*z i) n/(p:Rat) else z k)) n=o0 (fun i=>((q i:Int):Rat)*z i) n:=aq fun i hi=>by rw[if_neg b9]
       rw[e];generalize o0 (fun i=>((q i:Int):Rat)*z i) n=sq at h1⊢;generalize o0 (fun i=>((r i:Int):Rat)*z i) n=sr at h1⊢
       grind)
      intro i hi;have:=DA i b9;rw[if_neg b9]at this
      exact this)
   refine⟨p.natAbs*M,?_,?_,fun i hi=>?_⟩
   ·have:1<=p.natAbs:=by omega
    exact Nat.mul_le_mul this Fo
   ·show p.natAbs*M<=B*Nl n (2*B*B);exact Nat.mul_le_mul b9 RG
   ·have K:((p.natAbs:Int):Rat)=(p:Rat)∨((p.natAbs:Int):Rat)=-(p:Rat):=by
     rcases Int.natAbs_eq p with h|h
     ·left;rw[<-h]
     ·right;rw[<-Rat.intCast_neg];congr 1;omega
    have XK:((p.natAbs*M:Nat):Rat)=((p.natAbs:Int):Rat)*(M:Rat):=by push_cast;rfl
    rw[XK];by_cases xR:i=n
    ·subst xR;obtain⟨t,ht⟩:∃t:Int,(M:Rat)*o0 (fun j=>((r j:Int):Rat)*y j) i=(t:Rat):=by
      have:∀k,k<=i->∃t:Int,(M:Rat)*o0 (fun j=>((r j:Int):Rat)*y j) k=(t:Rat):=by
       intro k
       induction k with
       | zero=>intro _;exact⟨0,by simp only[o0];grind⟩
       | succ k ih =>
         intro IV;obtain⟨t,ht⟩:=ih b9;obtain⟨m,hm⟩:=O k b9;refine⟨t+r k*m,?_⟩;simp only[o0];rw[Rat.intCast_add,Rat.intCast_mul,<-ht,<-hm]
         grind
      exact this i (Nat.le_refl _)
     rcases K with h|h
     ·refine⟨(M:Int)*W-t,?_⟩;rw[h,Rat.intCast_sub,Rat.intCast_mul,<-ht,<-U];have:(((M:Nat):Int):Rat)=(M:Rat):=by push_cast;rfl
      rw[this]
      grind
     ·refine⟨t-(M:Int)*W,?_⟩;rw[h,Rat.intCast_sub,Rat.intCast_mul,<-ht,<-U];have:(((M:Nat):Int):Rat)=(M:Rat):=by push_cast;rfl
      rw[this]
      grind
    ·obtain⟨m,hm⟩:=O i b9;refine⟨(p.natAbs:Int)*m,?_⟩;rw[Rat.intCast_mul,<-hm]
     grind
theorem Kz{q:Nat}:zs q (fun i=>y i+z i) s=zs q y s+zs q z s:=by
 unfold zs;have:=dd (fun k=>y k*((wL (xt s (k:Int)):Int):Rat)) (fun k=>z k*((wL (xt s (k:Int)):Int):Rat)) 1 q;simp only[Rat.one_mul]at this;rw[<-this];exact aq fun i hi=>by grind
theorem jn{q:Nat}:xx q V (fun i=>y i+z i) s=xx q V y s-zs q z s:=by unfold xx;rw[Kz];grind
theorem Sq{A:j7}{B:j9}{C:j6}{r:AT}(hc:aD aV A B C r=true)(hs:r.status=1){j:Nat}(hj:¬0<(r.X[j]?.getD (0,0)).1):o4 r.X j=0:=by
 unfold aD at hc;rw[if_pos hs]at hc;obtain⟨hf,_⟩:=both hc;unfold dp at hf;obtain⟨_,hf⟩:=both hf;obtain⟨zq,_⟩:=both hf;by_cases hl:j<r.X.length
 ·have:=List.all_eq_true.1 zq (r.X[j]) (List.getElem_mem hl);obtain⟨a,b⟩:=both this;have b:=of_decide_eq_true b;unfold o4 val;rw[List.getElem?_eq_getElem hl,Option.getD_some]at hj⊢;have e:(r.X[j]).1=0:=by omega
  rw[e]
  grind
 ·unfold o4 val;rw[List.getElem?_eq_none b9,Option.getD_none]
  grind
theorem ul{p:Int}(h:xH p V L=true)(hs:(ap p.toNat V L).status=1)(hy:eP p.toNat V L y)
 (h0:zs p.toNat z ((V.length:Int)-1)=0) (G:∀a∈L,zs p.toNat z a.1=0)
 (hd:∀a∈yf (wV V L) (ap p.toNat V L) (wV V L).length,∀b∈yf (wV V L) (ap p.toNat V L) (wV V L).length,zs p.toNat z a.1=zs p.toNat z b.1) :
 ∀a∈yf (wV V L) (ap p.toNat V L) (wV V L).length,zs p.toNat z a.1=0:=by
 intro a ha;obtain⟨v1,_,v3,_⟩:=eA hs;obtain⟨k1,k2,k3⟩:=fS h hs hy;obtain⟨m1,m2,m3⟩:=fS h hs (z:=fun i=>y i+z i) ⟨by rw[jn,hy.zL,h0];grind,fun f hf=>by rw[jn,hy.fixed f hf,G f hf];grind⟩;have e:o0 (fun j=>o4 (ap p.toNat V L).X j*xx p.toNat V (fun i=>y i+z i) ((wV V L)[j]?.getD 0)) (wV V L).length=o0 (fun j=>o4 (ap p.toNat V L).X j*xx p.toNat V y ((wV V L)[j]?.getD 0)) (wV V L).length+(-zs p.toNat z a.1)*o0 (fun j=>o4 (ap p.toNat V L).X j) (wV V L).length:=by
  rw[<-dd];refine aq fun j hj=>?_
  by_cases hx:0<((ap p.toNat V L).X[j]?.getD (0,0)).1
  ·have hm:((wV V L)[j]?.getD 0,-(ap p.toNat V L).value.1,(ap p.toNat V L).value.2)∈yf (wV V L) (ap p.toNat V L) (wV V L).length:=by
    unfold yf;exact List.mem_map.2 ⟨j,List.mem_filter.2 ⟨List.mem_range.2 hj,decide_eq_true hx⟩,rfl⟩
   have:=hd _ hm a ha;simp only at this;rw[jn,this]
   grind
  ·have hz:o4 (ap p.toNat V L).X j=0:=Sq v3 hs hx;rw[hz];grind
 rw[m1,k1,k2]at e
 grind
theorem qG{p:Int}{V:j9}{y z:Nat->Rat}:∀{f k:Nat} {L:j5},(wP p V f L k).ok=true->eP p.toNat V (wP p V f L k).st y->zs p.toNat z ((V.length:Int)-1)=0 ->
 (∀a∈(wP p V f L k).st,∀b∈(wP p V f L k).st,a.2=b.2->zs p.toNat z a.1=zs p.toNat z b.1)->(∀a∈L,zs p.toNat z a.1=0)->∀a∈(wP p V f L k).st,zs p.toNat z a.1=0
 | 0,k,L,h=>by cases h
 | f+1,k,L,h=>by
   intro hy h0 hd hL;by_cases xq:xH p V L=true/\(ap p.toNat V L).status=1
   ·have G:∀g∈bJ V L (ap p.toNat V L),g∈(wP p V (f+1) L k).st:=by
     by_cases hdn:dg p V (bJ V L (ap p.toNat V L))=true
     ·rw[wP,if_pos xq,if_pos hdn];exact fun g hg=>hg
     ·have e:wP p V (f+1) L k=wP p V f (bJ V L (ap p.toNat V L)) (k+1):=by rw[wP,if_pos xq,if_neg hdn]
      rw[e]at h⊢;exact(fi h).2.1
    have PQ:=ul xq.1 xq.2 ⟨hy.zL,fun g hg=>hy.fixed g (G g (List.mem_append.2 (.inl hg)))⟩ h0 hL (fun a ha b hb=>by
     refine hd a (G a (List.mem_append.2 (.inr ha))) b (G b (List.mem_append.2 (.inr hb))) ?_;unfold yf at ha hb;obtain⟨_,_,rfl⟩:=List.mem_map.1 ha;obtain⟨_,_,rfl⟩:=List.mem_map.1 hb
     rfl)
    have Rp:∀a∈bJ V L (ap p.toNat V L),zs p.toNat z a.1=0:=fun a ha=>by
     rcases List.mem_append.1 ha with h1|h1
     ·exact hL a h1
     ·exact PQ a h1
    by_cases hdn:dg p V (bJ V L (ap p.toNat V L))=true
    ·rw[wP,if_pos xq,if_pos hdn];exact Rp
    ·have e:wP p V (f+1) L k=wP p V f (bJ V L (ap p.toNat V L)) (k+1):=by rw[wP,if_pos xq,if_neg hdn]
     rw[e]at h hy hd⊢;exact qG h hy h0 hd Rp
   ·rw[wP,if_neg xq]at h;cases h
theorem LA{p:Int}{V:j9}:∀{f k:Nat} {L:j5},(wP p V f L k).ok=true->∃L',xH p V L'=true/\(ap p.toNat V L').status=1/\(wP p V f L k).pt=Lp p.toNat (ap p.toNat V L')
 | 0,k,L,h=>by cases h
 | f+1,k,L,h=>by
   by_cases xq:xH p V L=true/\(ap p.toNat V L).status=1
   ·by_cases hdn:dg p V (bJ V L (ap p.toNat V L))=true
    ·exact⟨L,xq.1,xq.2,by rw[wP,if_pos xq,if_pos hdn]⟩
    ·have e:wP p V (f+1) L k=wP p V f (bJ V L (ap p.toNat V L)) (k+1):=by rw[wP,if_pos xq,if_neg hdn]
     rw[e]at h⊢;exact LA h
   ·rw[wP,if_neg xq]at h;cases h
theorem tg{p:Int}{f k:Nat}(h:(wP p V f L k).ok=true):(wP p V f L k).pt.length=p.toNat/\∀x∈(wP p V f L k).pt,o5 x=true:=by
 obtain⟨L',h1,h2,h3⟩:=LA h;obtain⟨_,s2,_,G⟩:=kq h1 h2;rw[h3];unfold Lp;refine⟨by simp[s2],fun x hx=>?_⟩;obtain⟨y,hy,rfl⟩:=List.mem_map.1 hx;rw[cX];obtain⟨i,hi,rfl⟩:=List.mem_iff_getElem.1 (List.mem_of_mem_take hy);have:=G i hi;rw[List.getElem?_eq_getElem hi,Option.getD_some]at this;exact this
theorem nI(b:Bool):0<=wL b/\wL b<=1:=by cases b<;>decide
theorem Pd{p:Int}{f k:Nat}(hg:aZ p V=true)(h:(wP p V f [] k).ok=true):
 ∃M:Nat,1<=M/\M<=Nl p.toNat 1/\∀i,i<p.toNat->∃m:Int,(M:Rat)*val ((wP p V f [] k).pt[i]?.getD (0,0))=(m:Rat):=by
 obtain⟨hm,_⟩:=fi h;obtain⟨y,hy⟩:∃y:Nat->Rat,y=fun i=>val ((wP p V f [] k).pt[i]?.getD (0,0)):=⟨_,rfl⟩
 rw[<-hy]at hm;have G:∀(s:Int) (x:Nat->Rat),o0 (fun i=>((wL (xt s (i:Int)):Int):Rat)*x i) p.toNat=zs p.toNat x s:=fun s x=>aq fun i hi=>by grind
 have hdf:∀(s t:Int) (x:Nat->Rat),o0 (fun i=>((wL (xt s (i:Int))-wL (xt t (i:Int)):Int):Rat)*x i) p.toNat=zs p.toNat x s-zs p.toNat x t:=fun s t x=>by
  have e:=dd (fun i=>((wL (xt s (i:Int)):Int):Rat)*x i) (fun i=>((wL (xt t (i:Int)):Int):Rat)*x i) (-1) p.toNat;rw[G,G]at e;rw[show zs p.toNat x s-zs p.toNat x t=zs p.toNat x s+(-1)*zs p.toNat x t by grind,<-e];exact aq fun i hi=>by rw[Rat.intCast_sub];grind
 have V1:∀s,zs p.toNat y s=((V[s.toNat]?.getD 0:Int):Rat)-xx p.toNat V y s:=fun s=>by unfold xx;grind
 have:=mF p.toNat 1 (fun r=>(r=fun(i:Nat)=>wL (xt ((V.length:Int)-1) (i:Int)))∨∃a∈(wP p V f [] k).st,∃b∈(wP p V f [] k).st,a.2=b.2/\r=fun(i:Nat)=>wL (xt a.1 (i:Int))-wL (xt b.1 (i:Int))) y
  (by
    rintro r (rfl|⟨a,_,b,_,_,rfl⟩) i hi
    ·have:=nI (xt ((V.length:Int)-1) (i:Int));simp only;omega
    ·have:=nI (xt a.1 (i:Int));have:=nI (xt b.1 (i:Int));simp only;omega)
  (by
    rintro r (rfl|⟨a,ha,b,hb,he,rfl⟩)
    ·rw[G,V1,hm.zL];exact⟨V[((V.length:Int)-1).toNat]?.getD 0,by grind⟩
    ·rw[hdf,V1,V1,hm.fixed a ha,hm.fixed b hb,he]
     exact⟨V[a.1.toNat]?.getD 0-V[b.1.toNat]?.getD 0,by rw[Rat.intCast_sub];grind⟩)
  (by
    intro z hz;have h0:zs p.toNat z ((V.length:Int)-1)=0:=by rw[<-G];exact hz _ (.inl rfl)
    have hd:∀a∈(wP p V f [] k).st,∀b∈(wP p V f [] k).st,a.2=b.2->zs p.toNat z a.1=zs p.toNat z b.1:=fun a ha b hb he=>by
     have:=hz _ (.inr ⟨a,ha,b,hb,he,rfl⟩);rw[hdf]at this
     grind
    have hk:=qG h hm h0 hd (fun a ha=>by cases ha);have hu:=iC hg (jI h) (y:=fun i=>y i+z i) (z:=y) ⟨by rw[jn,hm.zL,h0];grind,fun a ha=>by rw[jn,hm.fixed a ha,hk a ha];grind⟩ hm;intro i hi;have:=hu i hi
    grind)
 rw[hy]at this;exact this
end Go.Proofs.YtalmoolkhcgmmaaGreat
