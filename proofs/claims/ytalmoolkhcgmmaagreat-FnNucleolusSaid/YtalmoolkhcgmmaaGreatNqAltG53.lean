import Derived.Test.YtalmoolkhcgmmaaGreatNqAltG49
import Derived.Test.YtalmoolkhcgmmaaGreatNqAltG51
import Derived.Test.YtalmoolkhcgmmaaGreatNqAltG45
set_option linter.unusedVariables false
set_option linter.unusedSimpArgs false
namespace Go.Proofs.YtalmoolkhcgmmaaGreat
variable{yF:Nat}
set_option maxHeartbeats 16000000
set_option maxRecDepth 100000
open Go.RowKit
theorem lQ{l:j6}{e:k5}:∀{m:Nat},∀x∈zp l e m,1<=x/\x<=(m:Int)
 | 0,x,h=>by simp[zp]at h
 | m+1,x,h=>by
   by_cases hc:wU (l[m]?.getD (0,0)) e<0
   ·rw[iX hc]at h;have:=lQ x h;omega
   ·rw[iY hc]at h
    rcases List.mem_append.1 h with h|h
    ·have:=lQ x h;omega
    ·rw[List.mem_singleton]at h;subst h;omega
theorem tI{V:j9}{p:Int}{X:j6}{l:j6}(h:yj p V X=some l):l.length<=32:=by
 have h3:=cJ h;obtain⟨q,_,h4,h5,hlen,_,_⟩:=aW (dl h3.1);have:=cu q h5;omega
theorem sW(p:Int)(V:j9)(X:j6):(Cd p V X).length<=32/\∀r∈Cd p V X,r.length<=32/\∀k:Nat,r[k]?.getD 0<=9223372036854775807:=by
 cases h:yj p V X with
 | none=>rw[oU h];simp
 | some l =>
   have hl:=tI h;rw[iZ h];refine⟨by have:=qN l l.length;unfold C9;omega,fun r hr=>?_⟩;unfold C9 CD at hr;obtain⟨e,_,rfl⟩:=List.mem_map.1 hr;refine⟨by have:=iB l e l.length;omega,fun k=>?_⟩;by_cases hk:k<(zp l e l.length).length
   ·rw[List.getElem?_eq_getElem hk,Option.getD_some];have:=lQ _ (List.getElem_mem hk);omega
   ·rw[List.getElem?_eq_none b9];simp
def CP(p:Int)(V:j9)(X:j6):Option (j9):=(Cd p V X).find? fun r=>!zv p r
theorem sQ{f:j9->Bool}{L:j7}{k:Nat}{r:j9}(hr:L[k]?=some r)(h:(L.take k).all (fun r=>!f r)=true)(hf:f r=true):L.find? f=some r:=by
 obtain⟨hk,rfl⟩:=List.getElem?_eq_some_iff.1 hr;have e:L=L.take k++(L[k]::L.drop (k+1)):=by rw[<-List.drop_eq_getElem_cons hk,List.take_append_drop]
 generalize hx:L[k]=x at hf e⊢;rw[e,List.find?_append,List.find?_eq_none.2 (fun y hy=>by have:=List.all_eq_true.1 h y hy;simpa using this),List.find?_cons_of_pos hf]
 rfl
theorem oI{f:j9->Bool}{L:j7}(h:L.all (fun r=>!f r)=true):L.find? f=none :=
 List.find?_eq_none.2 (fun y hy=>by have:=List.all_eq_true.1 h y hy;simpa using this)
theorem jN{v:Value}{a b:Bool}(h:a=b):Ending.returned (.tuple #[v,.bool a])=.returned (.tuple #[v,.bool b]):=by rw[h]
theorem kY{w:World}{p:Int}{a:j8}{n cap:Nat}{V:j9}(h:Ints w a n cap V){b:j8}{m:Nat}{X:j6}(hx:r8 w b m yF X):
 Calls Tryz.prog 16 #[pair p a n cap,.slice b m yF] w fun e w'=>(∃v,e=.returned (.tuple #[v,.bool (CP p V X).isSome])/\o8 w' w.heap.size v ((CP p V X).getD []))/\Ext w w':=by
 obtain⟨W,hW⟩:=b8 (w.alloc (.cells #[.int .i64 p,.slice a n cap] 26));have hX:Ext w W:=by rw[hW];exact Ext.alloc _ _
 have k0:W.cell? ⟨w.heap.size,0,none⟩=some (.int .i64 p):=by rw[hW];simp
 have k1:W.cell? ⟨w.heap.size,1,none⟩=some (.slice a n cap):=by rw[hW];simp
 have K0:=ae k0;have HX:=ae hX;have HE:=ae (ui (p:=p) (h.ext hX) (hx.ext hX));obtain⟨L,I⟩:=b8 (Cd p V X);have R:=ae (sW p V X);have U:=ae (show CP p V X=L.find? (fun r=>!zv p r)by rw[I];rfl);rw[<-I]at HE R;clear h hx hX I;go_enter Tryz.func16,Tryz.ntmps16
 go_upto_region 1 with fail;rw[<-hW];clear hW;go_wp2_with fail;refine HE.o.mono ?_;rintro e w1 ⟨⟨v,rfl,ho⟩,wO⟩;obtain⟨vs,K,J5⟩:=ho;obtain⟨a1,n1,c1,rfl,HN⟩:=K.var;have HV:=ae K;have HR:=ae J5;have Ex:=ae (show L.length=n1 by rw[<-J5.len];exact HN.o);have X1:=ae wO;have Bj:n1<=32:=by have h1:=R.o.1;have h2:=Ex.o;omega
 clear K J5 wO HN;go_wp2_with fail
 go_loopg [12] n1 (fun gk ii wr=>∃(k:Nat),b7 (gk+k=n1)/\ii=.int .i64 (k:Int)/\b7 ((L.take k).all (fun r=>!!zv p r)=true)/\b7 (Ext w1 wr))
 case atStart=>exact⟨0,ae b9,rfl,ae rfl,ae (Ext.refl _)⟩
 case round =>
  obtain⟨g1,r7⟩:=b8 gk;subst r7;obtain⟨wr,Eg⟩:=b8 wr;subst Eg;obtain⟨k,O,rfl,HT,G⟩:=hrel;by_cases hlt:k<n1
  ·have yQ:k<L.length:=by rw[Ex.o];exact hlt
   obtain⟨g,hg,_,EP⟩:=(HV.o.ext G.o).cell hlt;have o9:=(HR.o.ext G.o).row k yQ;have hc:=EP k hlt;obtain⟨r,hr⟩:∃r,L[k]?=some r:=⟨_,List.getElem?_eq_getElem yQ⟩;rw[hr,Option.getD_some]at o9;have J:k<vs.length:=by rw[HR.o.len];exact yQ
   rw[List.getElem?_eq_getElem J]at hc;rw[List.getElem?_eq_getElem J,Option.getD_some]at o9;obtain⟨ra,rn,rc,Z,Jf⟩:=o9.var;rw[Z]at hc o9;subst hg;have Fs:=ae o9;have CO:=R.o.2 r (List.mem_of_getElem? hr);have Bv:=ae hr;have c0:=(X1.o.trans G.o).k6 K0.o;have HB:=mO (x:=p) o9.ints CO.2 (by have h1:=o9.ints.hlen;have:=CO.1;omega);rw[pX]at HB;obtain⟨bb,zd⟩:=b8 (zv p r);rw[<-zd]at HB;have HB:=ae HB;have u:=ae zd;clear o9 CO Z Jf zd hr J EP;go_wp2_with fail;refine HB.o.mono ?_;rintro e w2 ⟨rfl,xg⟩;have X2:=ae (G.o.trans xg);have Up:=ae (Fs.o.ext xg);clear xg c0;cases bb
   ·have HF:=ae (show CP p V X=some r by rw[U.o];exact sQ Bv.o HT.o (by rw[<-u.o];rfl));go_wp2_with fail
    go_ret2
    exact⟨⟨_,jN (by rw[HF.o];rfl),by rw[HF.o];exact Up.o.mono HX.o.size⟩,HX.o.trans (X1.o.trans X2.o)⟩
   ·have Bu:=ae (show(L.take (k+1)).all (fun r=>!!zv p r)=true by
     rw[List.take_succ_eq_append_getElem yQ,List.all_append,HT.o];have h1:=Bv.o;rw[List.getElem?_eq_getElem yQ]at h1;simp only[Option.some.injEq]at h1;rw[h1]
     simp[<-u.o])
    go_wp2_with fail
    go_roundg (g1-1)
    case measure=>have:=O.o;omega
    case rel=>exact⟨k+1,ae (j4 O.o),by go_num,Bu,X2⟩
  ·have HF:=ae (show CP p V X=none by
    have h1:=HT.o;rw[List.take_of_length_le (by rw[Ex.o];have:=O.o;omega)]at h1
    rw[U.o];exact oI h1)
   go_wp2_with fail
   go_ret2
   exact⟨⟨_,jN (by rw[HF.o];rfl),by rw[HF.o];exact o8.nil _ _⟩,HX.o.trans (X1.o.trans G.o)⟩
theorem ld{w:World}{p:Int}{a:j8}{n cap:Nat}{V:j9}(h:Ints w a n cap V){b:j8}{m:Nat}{X:j6}(hx:r8 w b m yF X):
 Calls Tryz.prog 26 #[pair p a n cap,.slice b m yF] w fun e w'=>(∃v,e=.returned (.tuple #[v,.bool (CP p V X).isSome])/\o8 w' w.heap.size v ((CP p V X).getD []))/\Ext w w':=by
 obtain⟨W,hW⟩:=b8 (w.alloc (.cells #[.int .i64 p,.slice a n cap] 26));have hX:Ext w W:=by rw[hW];exact Ext.alloc _ _
 have k0:W.cell? ⟨w.heap.size,0,none⟩=some (.int .i64 p):=by rw[hW];simp
 have k1:W.cell? ⟨w.heap.size,1,none⟩=some (.slice a n cap):=by rw[hW];simp
 have K0:=ae k0;have HX:=ae hX;have HE:=ae (uy (p:=p) (h.ext hX) (hx.ext hX));obtain⟨L,J⟩:=b8 (Cd p V X);have Z:=ae (sW p V X);have Zd:=ae (show CP p V X=L.find? (fun r=>!zv p r)by rw[J];rfl);rw[<-J]at HE Z;clear h hx hX J;go_enter Tryz.func26,Tryz.ntmps26
 go_upto_region 1 with fail;rw[<-hW];clear hW;go_wp2_with fail;refine HE.o.mono ?_;rintro e w1 ⟨⟨v,rfl,ho⟩,wO⟩;obtain⟨vs,O,J5⟩:=ho;obtain⟨a1,n1,c1,rfl,HN⟩:=O.var;have HV:=ae O;have HR:=ae J5;have Ex:=ae (show L.length=n1 by rw[<-J5.len];exact HN.o);have X1:=ae wO;have Bj:n1<=32:=by have h1:=Z.o.1;have h2:=Ex.o;omega
 clear O J5 wO HN;go_wp2_with fail
 go_loopg [7] n1 (fun gk ii wr=>∃(k:Nat),b7 (gk+k=n1)/\ii=.int .i64 (k:Int)/\b7 ((L.take k).all (fun r=>!!zv p r)=true)/\b7 (Ext w1 wr))
 case atStart=>exact⟨0,ae b9,rfl,ae rfl,ae (Ext.refl _)⟩
 case round =>
  obtain⟨g1,r7⟩:=b8 gk;subst r7;obtain⟨wr,Eg⟩:=b8 wr;subst Eg;obtain⟨k,R,rfl,HT,G⟩:=hrel;by_cases hlt:k<n1
  ·have yQ:k<L.length:=by rw[Ex.o];exact hlt
   obtain⟨g,hg,_,EP⟩:=(HV.o.ext G.o).cell hlt;have o9:=(HR.o.ext G.o).row k yQ;have hc:=EP k hlt;obtain⟨r,hr⟩:∃r,L[k]?=some r:=⟨_,List.getElem?_eq_getElem yQ⟩;rw[hr,Option.getD_some]at o9;have K:k<vs.length:=by rw[HR.o.len];exact yQ
   rw[List.getElem?_eq_getElem K]at hc;rw[List.getElem?_eq_getElem K,Option.getD_some]at o9;obtain⟨ra,rn,rc,Jt,Jf⟩:=o9.var;rw[Jt]at hc o9;subst hg;have U:=ae o9;have CO:=Z.o.2 r (List.mem_of_getElem? hr);have Bv:=ae hr;have c0:=(X1.o.trans G.o).k6 K0.o;have Zn:=ae CO;obtain⟨bb,zd⟩:=b8 (zv p r);have u:=ae zd;clear o9 CO Jt Jf zd hr K EP;have I:=c0;have Kb:=hc;cases bb
   all_goals
    have Jm:=ae (fun(w':World) (hk:Ext wr w')=>nk (x:=p) (U.o.ext hk).ints Zn.o.2 (by have h1:=U.o.ints.hlen;have:=Zn.o.1;omega));rw[<-u.o]at Jm;have k7:Ext wr wr.drew:=Ext.drew wr;have xI:=k7;have k8:=ae (fun(w':World) (h:Ext wr w')=>(⟨h.k6 I,h.k6 Kb,h⟩:w'.cell? ⟨w.heap.size,0,none⟩=some (.int .i64 p)/\w'.cell? ⟨g,k,none⟩=some (.slice ra rn rc)/\Ext wr w'));go_wp2_with fail
    go_region_held3 (fun w'=>w'.cell? ⟨w.heap.size,0,none⟩=some (.int .i64 p)/\w'.cell? ⟨g,k,none⟩=some (.slice ra rn rc)/\Ext wr w')
     (with_reducible exact k8.o _ k7)
     (first
       | (go_at_call 70
          (with_reducible refine(Jm.o _ (by first|with_reducible exact k7|with_reducible exact xI|with_reducible exact k7.trans (Ext.alloc _ _))).mono ?_)
          rintro e w2 ⟨rfl,Wf⟩;have k7:Ext wr w2:=k7.trans Wf
          have hs_w2:=k7.size)
       | fail)
    clear k8 xI;have X2:=ae (G.o.trans k7);have Up:=ae (U.o.ext k7);have hc:=k7.k6 Kb;clear c0 I Kb Jm
   ·have HF:=ae (show CP p V X=some r by rw[Zd.o];exact sQ Bv.o HT.o (by rw[<-u.o];rfl));go_wp2_with fail
    go_ret2
    exact⟨⟨_,jN (by rw[HF.o];rfl),by rw[HF.o];exact Up.o.mono HX.o.size⟩,HX.o.trans (X1.o.trans X2.o)⟩
   ·have Bu:=ae (show(L.take (k+1)).all (fun r=>!!zv p r)=true by
     rw[List.take_succ_eq_append_getElem yQ,List.all_append,HT.o];have h1:=Bv.o;rw[List.getElem?_eq_getElem yQ]at h1;simp only[Option.some.injEq]at h1;rw[h1]
     simp[<-u.o])
    go_wp2_with fail
    go_roundg (g1-1)
    case measure=>have:=R.o;omega
    case rel=>exact⟨k+1,ae (j4 R.o),by go_num,Bu,X2⟩
  ·have HF:=ae (show CP p V X=none by
    have h1:=HT.o;rw[List.take_of_length_le (by rw[Ex.o];have:=R.o;omega)]at h1
    rw[Zd.o];exact oI h1)
   go_wp2_with fail
   go_ret2
   exact⟨⟨_,jN (by rw[HF.o];rfl),by rw[HF.o];exact o8.yG _ _ _ rfl (j4 ((HX.o.trans (X1.o.trans G.o)).size))⟩,(HX.o.trans (X1.o.trans G.o)).trans (Ext.alloc _ _)⟩
end Go.Proofs.YtalmoolkhcgmmaaGreat
namespace Go.Proofs.YtalmoolkhcgmmaaGreat
variable{V:j9}{X:j6}{yF:Nat}
set_option maxHeartbeats 16000000
set_option maxRecDepth 100000
open Go.RowKit
def fI(p:Int)(V:j9)(X:j6):Bool:=(yj p V X).isSome&&!(CP p V X).isSome
theorem gU{f:Nat->Option (Int×Int)}:∀{m:Nat},(runT f m).isSome=true↔∀i,i<m->(f i).isSome=true
 | 0=>by simp[runT]
 | m+1=>by
   simp only[runT];cases h:runT f m with
   | none =>
     simp only[Option.bind_none,Option.isSome_none,Bool.false_eq_true,false_iff];intro h2;have:=(gU (f:=f) (m:=m)).2 fun i hi=>h2 i b9
     rw[h]at this;cases this
   | some l =>
     have ih:=(gU (f:=f) (m:=m)).1 (by rw[h];rfl);simp only[Option.bind_some,Option.isSome_map];constructor
     ·intro h2 i hi;by_cases Rv:i=m
      ·rw[Rv];exact h2
      ·exact ih i b9
     ·intro h2;exact h2 m b9
theorem uX{p:Int}(h:ye p V X=true):(yU V X 0).isSome=true:=by
 obtain⟨q,_,_,_,_,h0,_⟩:=aW (dl h);have e:bH X 0=some (0,1):=by
  unfold bH;rw[show AI ((0:Nat):Int) 5=[]by decide]
  rfl
 unfold yU;rw[e,h0]
 rfl
theorem tT{p:Int}(h:ye p V X=true):(yU V X (V.length-1)).isSome=true:=by
 obtain⟨hg,_,_,hs⟩:=gn h;obtain⟨q,_,_,h5,_,_,hb⟩:=aW hg;unfold yU;rw[hs]
 show(Dh _ (bD p V,1)).isSome=true;rw[ez hg];obtain⟨x,hx⟩:=b8 (V[V.length-1]?.getD 0);rw[<-hx];have G:=dM hb (V.length-1);rw[<-hx]at G;unfold Dh;rw[pG (eI x b9 b9)]
 rfl
theorem tU(p:Int)(V:j9)(X:j6):(Ej p V X 0 V.length).isSome=(yj p V X).isSome:=by
 unfold Ej yj;cases h:ye p V X
 ·rfl
 ·rw[if_pos rfl,if_pos rfl];obtain⟨q,_,h1,h5,hlen,_,_⟩:=aW (dl h);have hq:∀q:Fin 6,1<=q.val->2<=cN q.val:=by decide
  have hn:=hq ⟨q,by omega⟩ h1;simp only at hn;rw[Bool.eq_iff_iff];unfold Di;rw[gU,gU];constructor
  ·intro h2 i hi;have:=h2 (1+i) b9
   rwa [Nat.zero_add]at this
  ·intro h2 i hi;rw[Nat.zero_add];by_cases h0:i=0
   ·rw[h0];exact uX h
   ·by_cases G:i=V.length-1
    ·rw[G];exact tT h
    ·have:=h2 (i-1) b9
     rwa [show 1+(i-1)=i by omega]at this
theorem jY{w:World}{p:Int}{a:j8}{n cap:Nat}(h:Ints w a n cap V){b:j8}{m:Nat}(hx:r8 w b m yF X):
 Calls Tryz.prog 6 #[pair p a n cap,.slice b m yF] w fun e w'=>e=.returned (.bool (fI p V X))/\Ext w w':=by
 have HX:=ae (Ext.alloc w (.cells #[.int .i64 p,.slice a n cap] 26));have G:=jC (p:=p) (h.ext HX.o) (hx.ext HX.o) 0 n ((n:Int)-1) (fun _=>by omega);have hsm:=tU p V X;rw[h.hlen]at hsm;rw[hsm]at G;have HE:=ae G;have HI:=ae (h.ext HX.o);have HR:=ae (hx.ext HX.o);have o3:=h.o3;have l9:=h.l9;clear h hx G hsm;obtain⟨A,hA⟩:=b8 ((yj p V X).isSome);obtain⟨B,hB⟩:=b8 ((CP p V X).isSome);have HQ:=ae (show fI p V X=(A&&!B)by rw[hA,hB];rfl);have HB:=ae hB;rw[<-hA]at HE;clear hA hB;go_enter Tryz.func6,Tryz.ntmps6
 go_wp2_with fail;refine HE.o.mono ?_;rintro e w1 ⟨⟨v,rfl,_⟩,wO⟩;have c0:w1.cell? ⟨w.heap.size,0,none⟩=some (.int .i64 p):=wO.k6 e7;have c1:w1.cell? ⟨w.heap.size,1,none⟩=some (.slice a n cap):=wO.k6 e7;have X1:=ae wO;have HF:=ae (kY (p:=p) (HI.o.ext wO) (HR.o.ext wO));rw[<-HB.o]at HF;clear wO;go_wp2_with fail;refine HF.o.mono ?_;rintro e w2 ⟨⟨v2,rfl,_⟩,xg⟩;have X2:=ae (HX.o.trans (X1.o.trans xg));clear xg;cases A
 all_goals
  go_wp2_with fail;go_ret;exact⟨ag (by rw[HQ.o];rfl),X2.o⟩
theorem pP{w:World}{p:Int}{a:j8}{n cap:Nat}(h:Ints w a n cap V){b:j8}{m:Nat}(hx:r8 w b m yF X):
 Calls Tryz.prog 8 #[pair p a n cap,.slice b m yF] w fun e w'=>e=.returned (.bool (fI p V X))/\Ext w w':=by
 have HX:=ae (Ext.alloc w (.cells #[.int .i64 p,.slice a n cap] 26));have HE:=ae (ld (p:=p) (h.ext HX.o) (hx.ext HX.o));have HI:=ae (h.ext HX.o);have HR:=ae (hx.ext HX.o);clear h hx;obtain⟨A,hA⟩:=b8 ((yj p V X).isSome);obtain⟨B,hB⟩:=b8 ((CP p V X).isSome);obtain⟨C,hC⟩:=b8 (ye p V X)
 have HQ:=ae (show fI p V X=(C&&(A&&!B))by
  unfold fI;rw[<-hA,<-hB];cases hc:C
  ·have:=pS (p:=p) (V:=V) (X:=X) (by rw[<-hC,hc]);rw[this]at hA;rw[hA];rfl
  ·rfl)
 have HA:=ae hA;have HC:=ae hC;rw[<-hB]at HE;clear hA hB hC;go_enter Tryz.func8,Tryz.ntmps8
 go_wp2_with fail;refine HE.o.mono ?_;rintro e w1 ⟨⟨v,rfl,_⟩,wO⟩;have c0:w1.cell? ⟨w.heap.size,0,none⟩=some (.int .i64 p):=wO.k6 e7;have c1:w1.cell? ⟨w.heap.size,1,none⟩=some (.slice a n cap):=wO.k6 e7;have X1:=ae wO;have HF:=ae (rx (p:=p) (HI.o.ext wO) (HR.o.ext wO));rw[<-HA.o]at HF;clear wO;go_wp2_with fail;refine HF.o.mono ?_;rintro e w2 ⟨⟨v2,rfl,_⟩,xg⟩;have X2:=ae (X1.o.trans xg);replace c0:=xg.k6 c0;replace c1:=xg.k6 c1;have HP:=ae (nl (p:=p) (HI.o.ext X2.o) (HR.o.ext X2.o));rw[<-HC.o]at HP;clear xg;go_wp2_with fail;refine HP.o.mono ?_;rintro e w3 ⟨rfl,G⟩;have X3:=ae (HX.o.trans (X2.o.trans G));clear G c0 c1;cases C
 all_goals
  cases A
 all_goals
  go_wp2_with fail;go_ret;exact⟨ag (by rw[HQ.o];rfl),X3.o⟩
end Go.Proofs.YtalmoolkhcgmmaaGreat
