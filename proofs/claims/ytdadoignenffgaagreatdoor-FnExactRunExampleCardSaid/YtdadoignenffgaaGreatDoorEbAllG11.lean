import Derived.Test.YtdadoignenffgaaGreatDoorEbAllG10
import Derived.Outline
import Derived.Test.YtdadoignenffgaaGreatDoorEbAllG5
set_option linter.unusedVariables false
set_option linter.unusedSimpArgs false
namespace Go.Proofs.YtdadoignenffgaaGreatDoor
variable{w w':World}{base i n c j r k S:Nat}{M:List (j4)}{v:Value}{t:Tb}{main:j4}
set_option maxHeartbeats 16000000
set_option maxRecDepth 100000
open Go.RowKit
theorem Cq.FZ{G N cap:Nat}{vs:List Value}(h:Cq w base (some ⟨G,0,none⟩) N cap vs M){g:Nat}(hi:i<N)(hv:vs[i]?.getD undef=.slice (some ⟨g,0,none⟩) n c)(hj:j<(M[i]?.getD []).length)(x y:Int):
 Cq ((w.setCell ⟨g,j*2,none⟩ (.int .i64 x)).setCell ⟨g,j*2+1,none⟩ (.int .i64 y)) base (some ⟨G,0,none⟩) N cap vs (M.set i ((M[i]?.getD []).set j (x,y))):=by
 have DI:i<M.length:=by rw[h.len];exact hi
 have hr:=h.rows.row i DI;rw[hv]at hr;have hgG:g≠G:=fun e=>hr.apart h.own g rfl (by subst e;rfl)
 have BA:∀k,k≠g->((w.setCell ⟨g,j*2,none⟩ (.int .i64 x)).setCell ⟨g,j*2+1,none⟩ (.int .i64 y)).heap[k]?=w.heap[k]?:=fun k hk=>by
  rw[bB _ _ _ _ hk,bB _ _ _ _ hk]
 refine⟨h.own.keep fun k hk=>BA k (by simp only[Value.ownBlock,bA]at hk;show k≠g;omega),?_⟩;refine⟨by rw[H4];exact h.rows.len,fun k hk=>?_,fun a b k OT hb=>h.rows.apart a b k OT (by rw[H4]at hb;exact hb)⟩;rw[H4]at hk;by_cases CX:k=i
 ·subst CX;rw[hv,H3 DI];exact hr.set hj x y
 ·rw[DZ (aax CX)];refine(h.rows.row k hk).keep fun b hb=>BA b fun e=>?_
  subst e
  rcases acY CX with hlt|hlt
  ·exact h.rows.apart k i _ hlt DI hb (by rw[hv];rfl)
  ·exact h.rows.apart i k _ hlt hk (by rw[hv];rfl) hb
structure FB(w:World)(base g G N cap:Nat)(vb:Value)(x:Int)(vs:List Value)(M:List (j4))(l:j7):Prop where
 box:w.heap[g]?=some (.cells #[.slice (some ⟨G,0,none⟩) N cap,vb,.int .i64 x] 116 (0,0))
 hg:base<=g
 m:Cq w base (some ⟨G,0,none⟩) N cap vs M
 b:o4 w base vb l
section
variable{w:World}{base g G N cap:Nat}{vb:Value}{x:Int}{vs:List Value}{M:List (j4)}{l:j7}
theorem FB.ext{w':World}(h:FB w base g G N cap vb x vs M l)(hx:Ext w w'):FB w' base g G N cap vb x vs M l:=⟨(hx.block _ (mr h.box)).trans h.box,h.hg,h.m.ext hx,h.b.ext hx⟩
theorem FB.own(h:FB w base g G N cap vb x vs M l):AJ w base (.slice (some ⟨G,0,none⟩) N cap) vb vs ⟨M,l,x⟩:=⟨h.m.own,h.m.rows,h.b⟩
theorem FB.c0(h:FB w base g G N cap vb x vs M l):w.cell? ⟨g,0,none⟩=some (.slice (some ⟨G,0,none⟩) N cap):=am h.box
theorem FB.Xs(h:FB w base g G N cap vb x vs M l){i:Nat}{g':Nat}(hi:i<M.length)(hv:(vs[i]?.getD undef).ownBlock=some g'):g'≠g/\vb.ownBlock≠some g':=by
 have hr:=h.m.rows.row i hi;exact⟨fun e=>(au hr h.box (by decide)) (by rw[hv,e]),fun e=>bh (by decide) hr h.b g' hv e⟩
theorem FB.FZ(h:FB w base g G N cap vb x vs M l){i n g' c:Nat}(hi:i<N)(hv:vs[i]?.getD undef=.slice (some ⟨g',0,none⟩) n c){j:Nat}(hj:j<(M[i]?.getD []).length)(p q:Int):
 FB ((w.setCell ⟨g',j*2,none⟩ (.int .i64 p)).setCell ⟨g',j*2+1,none⟩ (.int .i64 q)) base g G N cap vb x vs (M.set i ((M[i]?.getD []).set j (p,q))) l:=by
 obtain⟨h1,h2⟩:=h.Xs (i:=i) (g':=g') (by rw[h.m.len];exact hi) (by rw[hv];rfl);refine⟨?_,h.hg,h.m.FZ hi hv hj p q,h.b.keep fun k hk=>?_⟩
 ·rw[bB _ _ _ _ h1.symm,bB _ _ _ _ h1.symm];exact h.box
 ·have:k≠g':=fun e=>h2 (by rw[hk,e])
  rw[bB _ _ _ _ this,bB _ _ _ _ this]
theorem FB.put{I:World}(h:FB w base g G N cap vb x vs M l)(hx:Ext w I)(hb:base<=w.heap.size){v:Value}{r:j4}(ho:o0 I w.heap.size v r){i:Nat}(hi:i<N):
 FB (I.setCell ⟨G,i,none⟩ v) base g G N cap vb x (vs.set i v) (M.set i r) l:=by
 have h2:=h.ext hx;have J:g≠G:=fun e=>(au h.m.own h.box (by decide)) (by rw[e];rfl)
 refine⟨by rw[bB _ _ _ _ J];exact h2.box,h.hg,h.m.put hx hb ho hi,h2.b.keep fun k hk=>bB _ _ _ _ fun e=>?_⟩;exact bh (by decide) h2.b h2.m.own k hk (by subst e;rfl)
theorem FB.Xv{B n bc:Nat}(h:FB w base g G N cap (.slice (some ⟨B,0,none⟩) n bc) x vs M l)(i:Nat)(z:Int):
 FB (w.setCell ⟨B,i,none⟩ (.int .i64 z)) base g G N cap (.slice (some ⟨B,0,none⟩) n bc) x vs M (l.set i z):=by
 have hBg:g≠B:=fun e=>(au h.b h.box (by decide)) (by rw[e];rfl)
 refine⟨by rw[bB _ _ _ _ hBg];exact h.box,h.hg,h.m.keep (fun k hk=>bB _ _ _ _ fun e=>?_) (fun j k hj hk=>bB _ _ _ _ fun e=>?_),h.b.set i z⟩
 ·exact bh (by decide) h.m.own h.b k hk (by subst e;rfl)
 ·exact bh (by decide) (h.m.rows.row j (by rw[h.m.len];exact hj)) h.b k hk (by subst e;rfl)
end
def dL(t:Tb)(row zp:Int):Tb:=(bJ t row zp).getD t
theorem yp{row zp:Int}(h:ep t row zp=false):bJ t row zp=none:=by unfold bJ;rw[h];rfl
theorem ks(h:ep t (r:Int) (c:Int)=true):bJ t r c=gJ t r c:=by unfold bJ;rw[hI h];rfl
theorem kr(h:Dw (t.row r) (t.at r c)=none):gJ t r c=none:=by unfold gJ;rw[h];rfl
theorem mL(h:Dw (t.row r) (t.at r c)=some main):gJ t r c=(A8 t r c main t.rows.length).map fun rs=>⟨rs,t.basis.set r (c:Int),t.r7⟩:=by unfold gJ;rw[h];rfl
theorem qR(h:A8 t r c main k=none):∀{n:Nat},k<=n->A8 t r c main n=none
 | n,hn=>by
   obtain⟨d,rfl⟩:∃d,n=k+d:=⟨n-k,by omega⟩;clear hn
   induction d with
   | zero=>exact h
   | succ d ih=>show(A8 t r c main (k+d)).bind _=none;rw[ih];rfl
theorem qQ{t:Tb}{r c:Nat}{main:j4}(hr:r<t.rows.length):∀{k:Nat} {M:List (j4)},A8 t r c main k=some M->M.length=t.rows.length/\M[r]?.getD []=main
 | 0,M,h=>by
   simp only[A8,bA]at h;subst h;exact⟨by simp,by rw[H3 hr];rfl⟩
 | k+1,M,h=>by
   simp only[A8]at h;cases e:A8 t r c main k with
   | none=>rw[e]at h;cases h
   | some s0 =>
     rw[e]at h;simp only[G3]at h;obtain⟨h1,h2⟩:=qQ hr e;unfold Ns at h
     split at h
     ·simp only[bA]at h;subst h;exact⟨h1,h2⟩
     ·next hn =>
      rw[U']at h;obtain⟨x,_,rfl⟩:=h;refine⟨by rw[H4,h1],?_⟩;rw[DZ (fun e=>hn (.inl e))];exact h2
theorem qS(h:A8 t r c main k=some M)(hs:k=r∨t.at k c=(0,1)):A8 t r c main (k+1)=some M:=by
 simp only[A8,h,G3,Ns,hI hs]
theorem vo(h:A8 t r c main k=some M)(hs:¬(k=r∨t.at k c=(0,1))):A8 t r c main (k+1)=(Bl (t.row k) (ze (t.at k c)) main).map fun x=>M.set k x:=by
 simp only[A8,h,G3,Ns,hD hs]
theorem Vk{r m:j4}{q:j8}(hm:m.length=j)(hj:j<r.length):(m++r.drop j).set j q=(m++[q])++r.drop (j+1):=by
 rw[abF _ _ e7,hm,ab2,List.drop_eq_getElem_cons hj,abZ,N7];rfl
def LK(w:World)(base:Nat)(e:Ending)(t:Tb)(ok:Bool):Prop:=∃va vb vs,e=.returned (.tuple #[.agg #[va,vb,.int .i64 t.r7],.bool ok])/\AJ w base va vb vs t
section
variable{w:World}{ra:j6}{rn rc:Nat}{ba:j6}{bn bc:Nat}{t:Tb}
theorem oF(h:Hg w ra rn rc ba bn bc t)(CP:rn<=100000)(Hc:bn<=100000)(Gz:∀i,i<rn->(t.row i).length<=1048576)(row zp:Int)(hno:ep t row zp=false):
 Calls Tryz.prog 235 #[Gw ra rn rc ba bn bc t.r7,.int .i64 row,.int .i64 zp] w fun e w'=>LK w' w.heap.size e t false/\Ext w w':=by
 have y9:=(Ext.alloc w (cj ra rn rc ba bn bc t.r7)).trans (Ext.alloc _ (.cells #[.slice none 0 0,.slice none 0 0,.int .i64 0] 116));obtain⟨W,hW⟩:=b9 ((w.alloc (cj ra rn rc ba bn bc t.r7)).alloc (.cells #[.slice none 0 0,.slice none 0 0,.int .i64 0] 116));rw[<-hW]at y9;have y7:=ae y9;have H:=ae (h.ext y9);have HF:=ae (iY H.o e7);have VG:=ae (fun ok=>gO h ok);have CV:=ae (fun(w':World) (hx:Ext W w')=>jO (H.o.ext hx) e7 e7 Gz);have Af:=ae (show W.heap[w.heap.size+1]?=some (.cells #[.slice none 0 0,.slice none 0 0,.int .i64 0] 116 (0,0))by rw[hW];exact ai _ _ _ e8);have zf:=ae (show W.heap[w.heap.size]?=some (.cells #[.slice ra rn rc,.slice ba bn bc,.int .i64 t.r7] 116 (0,0))by rw[hW,aO _ _ _ e8];exact ai _ _ _ rfl);have CR:=ae (show W.heap.size=w.heap.size+1+1 by rw[hW];simp);have AX:=h.rows.l8;have B9:=h.rows.l9;obtain⟨rows,basis,x⟩:=t
 have FE:=ae (show(Cl ⟨rows,basis,x⟩&&(r9 row 0 ((rn:Int)-1)&&r9 zp 0 (x+(rn:Int)-1)))=false by
  have:=hno;unfold ep at this;simp only at this;rw[h.rows.hlen]at this;exact this)
 clear h y9 Gz hno
 show Calls _ _ #[Gw ra rn rc ba bn bc x,.int .i64 row,.int .i64 zp] w _;cases zO:Cl ⟨rows,basis,x⟩
 ·rw[zO]at HF;clear zO;go_enter aeA,aee
  go_upto_region 1 with fail;rw[<-hW];clear hW;have p0:=am zf.o;have p1:=aD zf.o;have p2:=aG zf.o;go_wp2_with fail;refine HF.o.mono ?_;rintro e w1 ⟨rfl,hx⟩;have X1:=ae hx;clear hx p0 p1 p2;have p0:=am (X1.o.blk zf.o);have p1:=aD (X1.o.blk zf.o);have p2:=aG (X1.o.blk zf.o);go_wp2_with fail;refine(CV.o _ X1.o).mono ?_;rintro e w2 ⟨⟨va,vb,vs,rfl,ho⟩,hx⟩;have X2:=ae (X1.o.trans hx);have HO:=ae ho;obtain⟨a7,Q,Z,rfl,H9⟩:=ho.a.var;obtain⟨a8,O,c8,rfl,IL⟩:=ho.b.var;have K:=am (X2.o.blk Af.o);have r1:=aD (X2.o.blk Af.o);have J:=aG (X2.o.blk Af.o);have rf:=dp (X2.o.blk Af.o);have U:=X1.o.size;have KW:=CR.o;clear hx ho p0 p1 p2;go_wp2_with fail;refine bR (v:=.tuple #[.agg #[.slice a7 Q Z,.slice a8 O c8,.int .i64 x],.bool false]) (by simp[results,abX,go_sem,K,r1,J,rf]) rfl ⟨⟨_,_,vs,rfl,(HO.o.AL fun k hk=>dd _ _ _ _ _ _ e7).mono e7⟩,(y7.o.trans X2.o).CH (Cj _) _ _ _⟩
 ·rw[zO]at HF;obtain⟨m,IV,hm,GC,_,_⟩:=VG.o zO;simp only at IV;subst IV GC;have I:=ae (show(r9 row 0 ((bn:Int)-1)&&r9 zp 0 ((m:Int)+(bn:Int)-1))=false by have:=FE.o;rw[zO]at this;simpa using this);have EB:=ae (fun w=>aq row 0 ((bn:Int)-1) w);have DA:=ae (fun w=>aq zp 0 ((m:Int)+(bn:Int)-1) w);clear zO;cases zU:r9 row 0 ((bn:Int)-1)
  case' true =>
   have Kt:r9 zp 0 ((m:Int)+(bn:Int)-1)=false:=by have:=I.o;rw[zU]at this;simpa using this
   simp only[Kt]at DA;clear Kt
  all_goals
   simp only[zU]at EB;clear zU;go_enter aeA,aee
   go_upto_region 1 with fail;rw[<-hW];clear hW;have p0:=am zf.o;have p1:=aD zf.o;have p2:=aG zf.o;go_wp2_with fail;refine HF.o.mono ?_;rintro e w1 ⟨rfl,hx⟩;have X1:=ae hx;clear hx p0 p1 p2;have p0:=am (X1.o.blk zf.o);have p1:=aD (X1.o.blk zf.o);have p2:=aG (X1.o.blk zf.o);go_wp2_with fail;refine(EB.o _).mono ?_;rintro e w1' ⟨rfl,rfl⟩;go_wp2_with fail
  all_goals
   try(
    with_reducible refine(DA.o _).mono ?_
    rintro e w1' ⟨rfl,rfl⟩
    go_wp2_with fail)
   refine(CV.o _ X1.o).mono ?_;rintro e w2 ⟨⟨va,vb,vs,rfl,ho⟩,hx⟩;have X2:=ae (X1.o.trans hx);have HO:=ae ho;obtain⟨a7,Q,Z,rfl,H9⟩:=ho.a.var;obtain⟨a8,O,c8,rfl,IL⟩:=ho.b.var;have K:=am (X2.o.blk Af.o);have r1:=aD (X2.o.blk Af.o);have J:=aG (X2.o.blk Af.o);have rf:=dp (X2.o.blk Af.o);have U:=X1.o.size;have KW:=CR.o;clear hx ho p0 p1 p2;go_wp2_with fail;refine bR (v:=.tuple #[.agg #[.slice a7 Q Z,.slice a8 O c8,.int .i64 (m:Int)],.bool false]) (by simp[results,abX,go_sem,K,r1,J,rf]) rfl ⟨⟨_,_,vs,rfl,(HO.o.AL fun k hk=>dd _ _ _ _ _ _ e7).mono e7⟩,(y7.o.trans X2.o).CH (Cj _) _ _ _⟩
end
section
variable{w:World}{ra:j6}{rn rc:Nat}{ba:j6}{bn bc:Nat}{t:Tb}
theorem oG(h:Hg w ra rn rc ba bn bc t)(CP:rn<=100000)(Hc:bn<=100000)(hval:∀i j,-9223372036854775807<=(t.at i j).1/\(t.at i j).1<=9223372036854775807)(row zp:Int)(Kh:ep t row zp=true):
 Calls Tryz.prog 235 #[Gw ra rn rc ba bn bc t.r7,.int .i64 row,.int .i64 zp] w fun e w'=>LK w' w.heap.size e (dL t row zp) (bJ t row zp).isSome/\Ext w w':=by
 have y9:=(Ext.alloc w (cj ra rn rc ba bn bc t.r7)).trans (Ext.alloc _ (.cells #[.slice none 0 0,.slice none 0 0,.int .i64 0] 116));obtain⟨W,hW⟩:=b9 ((w.alloc (cj ra rn rc ba bn bc t.r7)).alloc (.cells #[.slice none 0 0,.slice none 0 0,.int .i64 0] 116));rw[<-hW]at y9;have y7:=ae y9;have H:=ae (h.ext y9);have zO:Cl t=true:=by unfold ep at Kh;simp only[xf]at Kh;exact Kh.1
 have HF:=ae (iY H.o e7);rw[zO]at HF;obtain⟨m,IV,hm,GC,Lt,RQ⟩:=gO h zO;subst GC;have Gz:∀i,i<bn->(t.row i).length<=1048576:=fun i hi=>by rw[Lt i hi];omega
 have CV:=ae (fun(w':World) (hx:Ext W w')=>jO (H.o.ext hx) e7 e7 Gz);have Af:=ae (show W.heap[w.heap.size+1]?=some (.cells #[.slice none 0 0,.slice none 0 0,.int .i64 0] 116 (0,0))by rw[hW];exact ai _ _ _ e8);have zf:=ae (show W.heap[w.heap.size]?=some (.cells #[.slice ra bn rc,.slice ba bn bc,.int .i64 t.r7] 116 (0,0))by rw[hW,aO _ _ _ e8];exact ai _ _ _ rfl);have CR:=ae (show W.heap.size=w.heap.size+1+1 by rw[hW];simp);have AX:=h.rows.l8;have B9:=h.rows.l9;obtain⟨rows,basis,x⟩:=t;simp only at IV;subst IV;have A1:=ae (show rows.length=bn from h.rows.hlen);have AO:=ae (show basis.length=bn from h.basis.hlen);have zU:r9 row 0 ((bn:Int)-1)=true/\r9 zp 0 ((m:Int)+(bn:Int)-1)=true:=by
  have:=Kh;unfold ep at this;simp only[xf]at this;rw[h.rows.hlen]at this;exact this.2
 obtain⟨RF,Kt⟩:=zU;obtain⟨r,rfl⟩:∃r:Nat,row=r:=⟨row.toNat,by simp[r9]at RF;omega⟩;obtain⟨c,rfl⟩:∃c:Nat,zp=c:=⟨zp.toNat,by simp[r9]at Kt;omega⟩;have O:r<bn:=by simp[r9]at RF;omega
 obtain⟨u,hu⟩:=b9 (m+bn+1);have Qn:c<u:=by simp[r9]at Kt;omega
 have Wl:u<=200000:=by omega
 have EB:=ae (fun w=>aq (r:Int) 0 ((bn:Int)-1) w);have DA:=ae (fun w=>aq (c:Int) 0 ((m:Int)+(bn:Int)-1) w);simp only[RF]at EB;simp only[Kt]at DA;obtain⟨T,hT⟩:=b9 (Tb.mk rows basis (m:Int));have Br:=ae (show∀i,i<bn->(T.row i).length=u by rw[hT,hu];exact Lt);rw[<-hT]at Kh;have ZH:=ae (ks Kh);have Se:=ae (show T.rows=rows/\T.basis=basis/\T.r7=(m:Int)by rw[hT];exact⟨rfl,rfl,rfl⟩);have CZ:=ae (show∀i,T.row i=rows[i]?.getD []by intro i;rw[hT];rfl);rw[<-hT]at CV;have HH:=ae (show gY W ra bn rc rows from H.o.rows);have FI:=ae (show T.r7=(m:Int)by rw[hT]);rw[<-hT]at hval;have ZP:=ae hval;clear hval;rw[FI.o]at CV;clear h y9 Gz Kh RF Kt zO Lt RQ hu H;have Oc:dL (Tb.mk rows basis (m:Int)) (r:Int) (c:Int)=dL T (r:Int) (c:Int)/\bJ (Tb.mk rows basis (m:Int)) (r:Int) (c:Int)=bJ T (r:Int) (c:Int):=by rw[hT];exact⟨rfl,rfl⟩
 rw[Oc.1,Oc.2];clear Oc hT
 show Calls _ _ #[Gw ra bn rc ba bn bc (m:Int),.int .i64 (r:Int),.int .i64 (c:Int)] w _;have hrr:(r:Int)<(bn:Int):=by omega
 have A':(0:Int)<=(r:Int):=by omega
 go_enter aeA,aee
 go_upto_region 1 with fail;rw[<-hW];clear hW;have p0:=am zf.o;have p1:=aD zf.o;have p2:=aG zf.o;go_wp2_with fail;refine HF.o.mono ?_;rintro e w1 ⟨rfl,hx⟩;have X1:=ae hx;clear hx p0 p1 p2;have p0:=am (X1.o.blk zf.o);have p1:=aD (X1.o.blk zf.o);have p2:=aG (X1.o.blk zf.o);go_wp2_with fail;refine(EB.o _).mono ?_;rintro e w1' ⟨rfl,rfl⟩;go_wp2_with fail;refine(DA.o _).mono ?_;rintro e w1' ⟨rfl,rfl⟩;go_wp2_with fail;refine(CV.o _ X1.o).mono ?_;rintro e w2 ⟨⟨va,vb,vs,rfl,ho⟩,hx⟩;have X2:=ae (X1.o.trans hx);obtain⟨aa,na,ca,rfl,Tw⟩:=ho.a.var;obtain⟨ab,nb,cb,rfl,IK⟩:=ho.b.var;obtain rfl:na=bn:=by have h1:=ho.rows.len;have h2:=Se.o.1;have h3:=A1.o;have h4:=Tw.o;rw[h2]at h1;omega
 obtain rfl:nb=na:=by have h1:=IK.o;have h2:=Se.o.2.1;have h3:=AO.o;rw[h2]at h1;omega
 obtain⟨G,hG,_,_⟩:=ho.a.cell O;subst hG;obtain⟨B,hB,_,_,_⟩:=ho.b.block O;subst hB;obtain⟨E,hE⟩:=b9 (w2.alloc (.cells #[.slice (some ⟨G,0,none⟩) nb ca,.slice (some ⟨B,0,none⟩) nb cb,.int .i64 (m:Int)] 116));have B0:Ext w2 E:=by rw[hE];exact Ext.alloc _ _
 have UZ:w1.heap.size<=w2.heap.size:=hx.size;have HVS:=ae (fun i g' (hi:i<nb) (he:(vs[i]?.getD undef).ownBlock=some g')=>((ho.rows.row i (by rw[Se.o.1,A1.o];exact hi)).lt g' he).2)
 have Mz:=ae (show FB E w1.heap.size w2.heap.size G nb ca (.slice (some ⟨B,0,none⟩) nb cb) (m:Int) vs rows basis from
  ⟨by rw[hE];exact ai _ _ _ rfl,UZ,⟨ho.a.ext B0,by have:=ho.rows.ext B0;rw[Se.o.1]at this;exact this⟩,by have:=ho.b.ext B0;rw[Se.o.2.1]at this;exact this⟩)
 have XE:=ae (X2.o.trans B0);have ZE:=ae (hx.trans B0);have Ur:w.heap.size+1+1<=w1.heap.size:=by have:=X1.o.size;have:=CR.o;omega
 have hsE:w1.heap.size<=E.heap.size:=by have:=B0.size;omega
 have Tq:=ae B0.size;clear ho p0 p1 p2 hx;go_upto_region 4 with fail;rw[<-hE];clear hE B0;have p0:=am (XE.o.blk zf.o);obtain⟨zb,zL,za,U,zc,Dp,NR,o8⟩:=HH.o.at O;subst Dp;have Lp:U=u:=by rw[<-o8.hlen,<-CZ.o];exact Br.o r O
 subst Lp;have hrc1:=o8.l8;have hrc2:=o8.l9;have CA:=ae (show Rats W za U zc (T.row r)by rw[CZ.o];exact o8);have LM:=ae NR;obtain⟨pb,Ke,pp,pq,hpa,D5,F7,G9⟩:=(CA.o.ext XE.o).at Qn;subst hpa;have AU:=XE.o.j9 LM.o;have FD:=ae (show T.at r c=(pp,pq)from D5);have L4:=ae (Br.o r O);have hcc:(c:Int)<(U:Int):=by omega
 have AB:(0:Int)<=(c:Int):=by omega
 clear D5 o8 NR;obtain⟨E2,RU⟩:=b9 (E.alloc (.cells #[.int .i64 pp,.int .i64 pq] 62));have Ue:Ext E E2:=by rw[RU];exact Ext.alloc _ _
 have Yi:E2.heap.size=E.heap.size+1:=by rw[RU];simp
 have HM1:=ae (Mz.o.ext Ue);have VO:=ae (show E2.heap[E.heap.size]?=some (.cells #[.int .i64 pp,.int .i64 pq] 62 (0,0))by rw[RU];exact ai _ _ _ rfl);have Vs:=ae (ZE.o.trans Ue);have hw2E:w2.heap.size<=E.heap.size:=Tq.o;have HSE2:=ae Yi;go_upto_region 5 with fail;rw[<-RU];clear RU Ue p0 AU F7 G9 Yi;have p0:=am ((X1.o.trans Vs.o).blk zf.o);have AU:=(X1.o.trans Vs.o).j9 LM.o;go_wp2_with fail
 go_loopg [60] U (fun gk ii wr=>∃(k:Nat) (I:j4),b7 (gk+k=U)/\ii=.int .i64 (k:Int)/\b7 (runT (Gk (T.row r) (T.at r c)) k=some I)/\b7 (FB wr w1.heap.size w2.heap.size G nb ca (.slice (some ⟨B,0,none⟩) nb cb) (m:Int) vs (rows.set r (I++(T.row r).drop k)) basis)/\b7 (Ext w1 wr)/\b7 (wr.heap[E.heap.size]?=some (.cells #[.int .i64 pp,.int .i64 pq] 62 (0,0))))
 case atStart =>
  refine⟨0,[],ae e7,rfl,ae rfl,ae ?_,Vs,VO⟩;have h1:=HM1.o;have h2:rows.set r ([]++(T.row r).drop 0)=rows:=by
   rw[aaX,List.drop_zero,CZ.o];refine List.ext_getElem? fun i=>?_
   by_cases hir:r=i
   ·subst hir;rw[H3 (by rw[A1.o];exact O),bk (by rw[A1.o];exact O)];rfl
   ·rw[DZ hir]
  rw[h2];exact h1
 case round =>
  obtain⟨g1,o7⟩:=b9 gk;subst o7;obtain⟨o6,o5⟩:=b9 wr;subst o5;obtain⟨k,I,HK,rfl,Ho,HT,HX,HP⟩:=hrel;clear p0 AU;have Rs:=HX.o.size;have En:=mr HP.o;by_cases hlt:k<U
  ·obtain⟨xb,MI,ex,ey,SO,XS,y9,zK⟩:=(CA.o.ext (X1.o.trans HX.o)).at hlt;simp only[bA,mq,zz]at SO;obtain⟨rfl,rfl⟩:=SO;have HXV:=ae XS;have q0:o6.cell? ⟨E.heap.size,0,none⟩=some (.int .i64 pp):=(aj HP.o).1;have q1:o6.cell? ⟨E.heap.size,1,none⟩=some (.int .i64 pq):=(aj HP.o).2.1;obtain⟨d1,d2,Fz,hdd⟩:∃x y ok,AW (ex,ey) (pp,pq)=((x,y),ok):=⟨_,_,_,rfl⟩;have L9:=ae (show Gk (T.row r) (T.at r c) k=if Fz=true then some (d1,d2) else none by unfold Gk;rw[HXV.o,FD.o,hdd]);have JS:=ae (fun w=>sl ex ey pp pq w);simp only[hdd]at JS;clear XS hdd;go_wp2_with fail;refine(JS.o _).mono ?_;rintro e w5 ⟨rfl,hx⟩;have X5:=ae ((Ext.alloc o6 (.cells #[.int .i64 ex,.int .i64 ey] 62)).trans hx);have X6:=ae (X5.o.trans (Ext.alloc w5 (.cells #[.int .i64 d1,.int .i64 d2] 62)));have EK:=X5.o.size;clear hx q0 q1;obtain⟨E5,WI⟩:=b9 (w5.alloc (.cells #[.int .i64 d1,.int .i64 d2] 62));have HQ:=ae (show E5.heap[w5.heap.size]?=some (.cells #[.int .i64 d1,.int .i64 d2] 62 (0,0))by rw[WI];exact ai _ _ _ rfl);rw[<-WI]at X6;cases Fz
   ·have HN:=ae (show bJ T (r:Int) (c:Int)=none by
     rw[ZH.o];refine kr ?_
     unfold Dw;rw[L4.o];exact im Ho.o (by rw[L9.o];rfl) hlt)
    go_upto_region 10 with fail;rw[<-WI];clear WI;have Z:=((X1.o.trans HX.o).trans X6.o);have p0:=am (Z.blk zf.o);have p1:=aD (Z.blk zf.o);have p2:=aG (Z.blk zf.o);have XF:=ae Z;clear Z;go_wp2_with fail;refine(CV.o _ XF.o).mono ?_;rintro e w8 ⟨⟨va8,vb8,QL,rfl,DG⟩,hx⟩;have X8:=ae (XF.o.trans hx);have J7:=ae DG;obtain⟨a7,n7,c7,rfl,H9⟩:=DG.a.var;obtain⟨a8,n8,c8,rfl,IL⟩:=DG.b.var;have r0:=am (X8.o.blk Af.o);have r1:=aD (X8.o.blk Af.o);have r2:=aG (X8.o.blk Af.o);have rf:=dp (X8.o.blk Af.o);have hsz:=XF.o.size;have KW:=CR.o;clear hx DG p0 p1 p2;go_wp2_with fail;refine bR (v:=.tuple #[.agg #[.slice a7 n7 c7,.slice a8 n8 c8,.int .i64 (m:Int)],.bool false]) (by simp[results,abX,go_sem,r0,r1,r2,rf]) rfl ⟨?_,(y7.o.trans X8.o).CH (Cj _) _ _ _⟩;refine⟨.slice a7 n7 c7,.slice a8 n8 c8,QL,?_,?_⟩
    ·unfold dL;rw[HN.o,aaa,FI.o];rfl
    ·unfold dL;rw[HN.o,aaa];exact(J7.o.AL fun k hk=>dd _ _ _ _ _ _ e7).mono e7
   ·go_upto_region 11 with fail;rw[<-WI];clear WI;have PV:=ae (eE (x:=(d1,d2)) Ho.o (by rw[L9.o];rfl));have L5:=ae (dO Ho.o);have Qu:=ae (HT.o.ext X6.o);have PI:=ae (show(rows.set r (I++(T.row r).drop k))[r]?.getD []=I++(T.row r).drop k by rw[H3 (by rw[A1.o];exact O)];rfl);have AN:=ae (show(I++(T.row r).drop k).length=U by rw[pk,aaj,L5.o,L4.o];omega);obtain⟨rg,rcap,XZ,hcr,Om,_,WD,I1,Ba,CY⟩:=Qu.o.m.row O (n:=U) (by rw[PI.o,AN.o]) e7;obtain⟨rg',_,_,_,UP,_,ho0,Ry⟩:=Om.zj.at hlt;simp only[bA,mq,zz]at UP;obtain⟨rfl,rfl⟩:=UP;obtain⟨rg',UP,_,H5,_⟩:=Om.block hlt;simp only[bA,mq,zz]at UP;subst UP;have c8:=Qu.o.c0;have q0:E5.cell? ⟨w5.heap.size,0,none⟩=some (.int .i64 d1):=(aj HQ.o).1;have q1:E5.cell? ⟨w5.heap.size,1,none⟩=some (.int .i64 d2):=(aj HQ.o).2.1;have Fu:(0:Int)<=(k:Int):=by omega
    have BR:(k:Int)<(U:Int):=by omega
    have ZO:=ae XZ;have Yp:rg≠E.heap.size:=by have:=HVS.o r rg O (by rw[ZO.o];rfl);omega
    have H8:=ae Yp;clear XZ Om Yp;rw[Mf]at ho0 Ry
    go_still_tail 8,e9
    have HT6:=ae (show FB ((E5.drew.setCell ⟨rg,k*2,none⟩ (.int .i64 d1)).setCell ⟨rg,k*2+1,none⟩ (.int .i64 d2)) w1.heap.size w2.heap.size G nb ca (.slice (some ⟨B,0,none⟩) nb cb) (m:Int) vs (rows.set r ((I++[(d1,d2)])++(T.row r).drop (k+1))) basis by
     have h1:=(Qu.o.ext (Ext.drew E5)).FZ O ZO.o (j:=k) (by rw[PI.o,AN.o];exact hlt) d1 d2;rw[PI.o,aen,Vk L5.o (by rw[L4.o];exact hlt)]at h1
     exact h1)
    have E8:=ae (((HX.o.trans (X6.o.trans (Ext.drew E5))).setCell (p:=⟨rg,k*2,none⟩) WD (.int .i64 d1)).setCell (p:=⟨rg,k*2+1,none⟩) WD (.int .i64 d2))
    have HP6:=ae (show((E5.drew.setCell ⟨rg,k*2,none⟩ (.int .i64 d1)).setCell ⟨rg,k*2+1,none⟩ (.int .i64 d2)).heap[E.heap.size]?=some (.cells #[.int .i64 pp,.int .i64 pq] 62 (0,0))by
     rw[bB _ _ _ _ H8.o.symm,bB _ _ _ _ H8.o.symm];exact(X6.o.trans (Ext.drew E5)).blk HP.o)
    go_wp2_with fail
    go_roundg (g1-1)
    case measure=>have:=HK.o;omega
    case rel=>exact⟨k+1,I++[(d1,d2)],ae (j1 HK.o),by go_num,PV,HT6,E8,HP6⟩
  ·have zQ:U=k:=by have:=HK.o;omega
   subst zQ;have Fa:=ae (show Dw (T.row r) (T.at r c)=some I by unfold Dw;rw[L4.o];exact Ho.o)
   have PN:=ae (show bJ T (r:Int) (c:Int)=(A8 T r c I nb).map fun rs=>⟨rs,basis.set r (c:Int),(m:Int)⟩by
    rw[ZH.o,mL Fa.o,Se.o.1,A1.o,Se.o.2.1,FI.o])
   have ZT:=ae (show FB o6 w1.heap.size w2.heap.size G nb ca (.slice (some ⟨B,0,none⟩) nb cb) (m:Int) vs (rows.set r I) basis by
    have h1:=HT.o
    rw[List.drop_eq_nil_of_le (by rw[L4.o];exact ao _),ZR]at h1;exact h1)
   have p0:=am ((X1.o.trans HX.o).blk zf.o);clear En;go_wp2_with fail
   go_loopg [87] nb (fun gk ii wr=>∃(k:Nat) (Q:List Value) (M:List (j4)),b7 (gk+k=nb)/\ii=.int .i64 (k:Int)/\b7 (A8 T r c I k=some M)/\b7 (FB wr w1.heap.size w2.heap.size G nb ca (.slice (some ⟨B,0,none⟩) nb cb) (m:Int) Q M basis)/\b7 (Ext w1 wr))
   case atStart=>exact⟨0,vs,rows.set r I,ae e7,rfl,ae (by simp only[A8,Se.o.1]),ZT,HX⟩
   case round =>
    obtain⟨g2,Am⟩:=b9 gk;subst Am;obtain⟨J,zx⟩:=b9 wr;subst zx;obtain⟨k,Q,M,KM,rfl,I8,Dh,zt⟩:=hrel;clear p0;have hsr2:=zt.o.size;by_cases Ah:k<nb
    ·obtain⟨zb2,Xk,ya,yn,yc,NQ,T',Dr⟩:=(HH.o.ext (X1.o.trans zt.o)).at Ah;simp only[bA,mq,zz]at NQ;obtain⟨rfl,rfl⟩:=NQ;obtain rfl:yn=U:=by rw[<-Dr.hlen,<-CZ.o,<-L4.o,Br.o k Ah,Br.o r O]
     have Mw:=ae (show Rats J ya yn yc (T.row k)by rw[CZ.o];exact Dr);obtain⟨yb,zE,p,q,ET,zR,BG,An⟩:=Mw.o.at Qn;subst ET;have Ay:=ae (show T.at k c=(p,q)from zR);have hyk1:=Dr.l8;have hyk2:=Dr.l9;clear zR Dr;have Gp:=ae (show decide (k=r∨T.at k c=(0,1))=(decide (k=r)||((p == 0)&&(q == 1)))by rw[Ay.o,U9];simp);go_upto_region 16 with fail
     go_cut [102] (fun TV wx=>TV=.bool (decide (k=r∨T.at k c=(0,1)))/\b7 (Ext J wx))
     case first =>
      have k7:Ext J J.drew:=Ext.drew J;by_cases hkr:k=r
      ·have heq:((k:Int) == (r:Int))=true:=by simp;omega
       have Sv:=ae (show decide (k=r∨T.at k c=(0,1))=true by rw[Gp.o,z' hkr];rfl);clear hkr;refine rN (S:=(fun w'=>w'.cell? ⟨yb,zE+c*2,none⟩=some (.int .i64 p)/\w'.cell? ⟨yb,zE+c*2+1,none⟩=some (.int .i64 q)/\Ext J w')) e9 ?_ (fun l7=>?_)
       ·exact⟨k7.j9 BG,k7.j9 An,k7⟩
       refine tk 0 ?_;refine tk 1 ?_;refine tk 2 ?_;refine tk 3 ?_;refine sk 4 ?_;refine sk 5 ?_;refine sk 6 ?_;refine sk 7 ?_;refine sk 8 ?_;refine sk 9 ?_;refine tk 10 ?_;refine Gh e9 ?_ _;go_wp2_with fail;go_meet;exact⟨by rw[Sv.o],ae k7⟩
      ·have heq:((k:Int) == (r:Int))=false:=by simp;omega
       have Sv:=ae (show decide (k=r∨T.at k c=(0,1))=((p == 0)&&(q == 1))by rw[Gp.o,u' hkr];rfl);clear hkr;cases h1:(p == 0)
       all_goals
        cases h2:(q == 1)
       all_goals
        have TB:=ae Sv.o;rw[h1,h2]at TB;refine rN (S:=(fun w'=>w'.cell? ⟨yb,zE+c*2,none⟩=some (.int .i64 p)/\w'.cell? ⟨yb,zE+c*2+1,none⟩=some (.int .i64 q)/\Ext J w')) e9 ?_ (fun l7=>?_)
        ·exact⟨k7.j9 BG,k7.j9 An,k7⟩
        refine tk 0 ?_;refine tk 1 ?_;refine tk 2 ?_;refine tk 3 ?_;refine tk 4 ?_;refine tk 5 ?_;refine tk 6 ?_;refine tk 7 ?_;refine rd (i:=8) (h:=fun K hK=>?_);go_simp
        (go_at_call 71;refine(cX _ _).mono ?_;rintro e w3 ⟨rfl,zm⟩;have k7:=k7.trans zm)
        go_wp2_with fail;refine hK.out _ _ ?_ (fun l7=>?_)
        ·exact⟨k7.j9 BG,k7.j9 An,k7⟩
        clear hK K
        try simp only[Act.put,sA,sB,sC]
        refine tk 9 ?_;refine tk 10 ?_;refine Gh e9 ?_ _;go_wp2_with fail;go_meet;exact⟨by rw[TB.o];rfl,ae k7⟩
     obtain⟨rfl,E7⟩:=hcut;have PF:=ae (Dh.o.ext E7.o);have zk:=ae (zt.o.trans E7.o);have VK:=ae (Mw.o.ext E7.o);replace BG:=E7.o.j9 BG;replace An:=E7.o.j9 An;clear T';cases hsk:decide (k=r∨T.at k c=(0,1))
     ·have Sk:=ae (ab6 hsk);clear hsk;have HPM:=ae (qQ (t:=T) (by rw[Se.o.1,A1.o];exact O) I8.o);obtain⟨mg,Xx,hvm,Iu,hom,_,_,_,hmc1,hmc2⟩:=PF.o.m.row O (n:=I.length) (by rw[HPM.o.2]) (by rw[dO Ho.o];omega);rw[HPM.o.2]at hom;have Xb:=ae hom.zj;have FF:=ae (dO Ho.o);obtain⟨mn,hmn⟩:=b9 I.length;rw[<-hmn]at Iu Xb FF;have hmn2:mn<=200000:=by have:=FF.o;omega
      have c8:=PF.o.c0;have F7:-9223372036854775807<=p:=by have:=ZP.o k c;rw[Ay.o]at this;exact this.1
      have G9:p<=9223372036854775807:=by have:=ZP.o k c;rw[Ay.o]at this;exact this.2
      have Qx:=ae (fun(wz:World) (z1:j6) (z2 z3:Nat) (z4:j6) (z5 z6:Nat) (h1:Rats wz z1 z2 z3 (T.row k)) (h2:Rats wz z4 z5 z6 I) (h3:z2<=1048576)=>mA (k1:=-p) (k2:=q) h1 h2 h3);obtain⟨sv,IY⟩:=b9 (Bl (T.row k) (-p,q) I);have Gn:=ae (show A8 T r c I (k+1)=sv.map fun x=>M.set k x by rw[IY,vo I8.o Sk.o,Ay.o];rfl);simp only[<-IY]at Qx;clear IY hvm hom hmn;go_upto_region 17 with fail;have k7:Ext wc wc.drew:=Ext.drew wc;have zw:=k7;have k8:=ae (fun(w':World) (h:Ext wc w')=>(⟨h.j9 BG,h.j9 An,h.j9 c8,h.j9 Iu,h⟩:w'.cell? ⟨yb,zE+c*2,none⟩=some (.int .i64 p)/\w'.cell? ⟨yb,zE+c*2+1,none⟩=some (.int .i64 q)/\w'.cell? ⟨w2.heap.size,0,none⟩=some (.slice (some ⟨G,0,none⟩) nb ca)/\w'.cell? ⟨G,r,none⟩=some (.slice (some ⟨mg,0,none⟩) mn Xx)/\Ext wc w'))
      go_region_held3 (fun w'=>w'.cell? ⟨yb,zE+c*2,none⟩=some (.int .i64 p)/\w'.cell? ⟨yb,zE+c*2+1,none⟩=some (.int .i64 q)/\w'.cell? ⟨w2.heap.size,0,none⟩=some (.slice (some ⟨G,0,none⟩) nb ca)/\w'.cell? ⟨G,r,none⟩=some (.slice (some ⟨mg,0,none⟩) mn Xx)/\Ext wc w')
       (with_reducible exact k8.o _ k7)
       (first
         | (go_at_call 74
            (with_reducible refine(eo p q _ F7 G9).mono ?_)
            rintro e w3 ⟨rfl,y8⟩;have k7:Ext wc w3:=k7.trans y8
            have F5:=k7.size)
         | (go_at_call 251
            (with_reducible refine(Qx.o _ _ _ _ _ _ _ (VK.o.ext (by first|with_reducible exact k7|with_reducible exact zw|with_reducible exact k7.trans (Ext.alloc _ _))) (Xb.o.ext (by first|with_reducible exact k7|with_reducible exact zw|with_reducible exact k7.trans (Ext.alloc _ _))) e7).mono ?_)
            rintro e w4 ⟨⟨v4,rfl,C5⟩,zg⟩;have hs4':=k7.size;obtain⟨a4,n4,c4,rfl,Ju⟩:=C5.var;have k7:Ext wc w4:=k7.trans zg
            have Hv:=k7.size)
         | fail)
      clear k8 zw;have Bk:=ae (zk.o.trans k7);have Qv:=ae (PF.o.ext k7);have Ar:=ae (C5.mono hs4');have HK4:=ae k7;clear k7 C5 BG An c8 Iu;cases sv with
      | none =>
        have HN:=ae (show bJ T (r:Int) (c:Int)=none by rw[PN.o,qR (k:=k+1) (by rw[Gn.o];rfl) Ah];rfl);have Z:=(X1.o.trans Bk.o);have p0:=am (Z.blk zf.o);have p1:=aD (Z.blk zf.o);have p2:=aG (Z.blk zf.o);have XF:=ae Z;clear Z;go_wp2_with fail;refine(CV.o _ XF.o).mono ?_;rintro e w8 ⟨⟨va8,vb8,QL,rfl,DG⟩,hx⟩;have X8:=ae (XF.o.trans hx);have J7:=ae DG;obtain⟨a7,n7,c7,rfl,H9⟩:=DG.a.var;obtain⟨a8,n8,c8,rfl,IL⟩:=DG.b.var;have r0:=am (X8.o.blk Af.o);have r1:=aD (X8.o.blk Af.o);have r2:=aG (X8.o.blk Af.o);have rf:=dp (X8.o.blk Af.o);have hsz:=XF.o.size;have KW:=CR.o;clear hx DG p0 p1 p2;go_wp2_with fail;refine bR (v:=.tuple #[.agg #[.slice a7 n7 c7,.slice a8 n8 c8,.int .i64 (m:Int)],.bool false]) (by simp[results,abX,go_sem,r0,r1,r2,rf]) rfl ⟨?_,(y7.o.trans X8.o).CH (Cj _) _ _ _⟩;refine⟨.slice a7 n7 c7,.slice a8 n8 c8,QL,?_,?_⟩
        ·unfold dL;rw[HN.o,aaa,FI.o];rfl
        ·unfold dL;rw[HN.o,aaa];exact(J7.o.AL fun k hk=>dd _ _ _ _ _ _ e7).mono e7
      | some nr =>
        have c8:=Qv.o.c0;obtain⟨G',CD,Gf,Tf⟩:=Qv.o.m.own.cell Ah;simp only[bA,mq,zz]at CD;subst CD;have UI:w4.cell? ⟨G,k,none⟩=some (Q[k]?.getD undef):=by
         rw[Tf k Ah];have:k<Q.length:=by rw[Qv.o.m.BW];exact Ah
         simp[this]
        obtain⟨G',CD,_,_,H5⟩:=Qv.o.m.outer e7;simp only[bA,mq,zz]at CD;subst CD;have Qu:=ae (PF.o.put HK4.o (j1 zk.o.size) Ar.o Ah);have D0:=ae (Bk.o.setCell (p:=⟨G,k,none⟩) Gf (.slice a4 n4 c4));have HP5:=ae (show A8 T r c I (k+1)=some (M.set k nr)by rw[Gn.o];rfl);clear Tf;go_wp2_with fail
        go_roundg (g2-1)
        case measure=>have:=KM.o;omega
        case rel=>exact⟨k+1,_,_,ae (j1 KM.o),by go_num,HP5,Qu,D0⟩
     ·have CE:=ae (qS I8.o (EE hsk));clear hsk;go_wp2_with fail
      go_roundg (g2-1)
      case measure=>have:=KM.o;omega
      case rel=>exact⟨k+1,Q,M,ae (j1 KM.o),by go_num,CE,PF,zk⟩
    ·have zQ:nb=k:=by have:=KM.o;omega
     subst zQ;have HN:=ae (show bJ T (r:Int) (c:Int)=some ⟨M,basis.set r (c:Int),(m:Int)⟩by rw[PN.o,I8.o];rfl);have c81:=aD Dh.o.box;obtain⟨B',off',OY,LD⟩:=Dh.o.b.ints.at O;simp only[bA,mq,zz]at OY;obtain⟨rfl,rfl⟩:=OY;obtain⟨B',OY,hbB,U0,_⟩:=Dh.o.b.block O;simp only[bA,mq,zz]at OY;subst OY;rw[Mf]at LD;have KF:=ae (Dh.o.Xv r (c:Int));have GG:=ae (zt.o.setCell (p:=⟨B,r,none⟩) hbB (.int .i64 (c:Int)));go_upto_region 23 with fail;obtain⟨W9,Hd⟩:=b9 (J.setCell ⟨B,r,none⟩ (.int .i64 (c:Int)));rw[<-Hd]at KF GG⊢;clear Hd c81 LD U0;have r0:=am ((X1.o.trans GG.o).blk Af.o);have r1:=aD ((X1.o.trans GG.o).blk Af.o);have r2:=aG ((X1.o.trans GG.o).blk Af.o);have rf:=dp ((X1.o.trans GG.o).blk Af.o);have t0:=am KF.o.box;have t1:=aD KF.o.box;have t2:=aG KF.o.box;go_wp2_with fail;refine bR (v:=.tuple #[.agg #[.slice (some ⟨G,0,none⟩) nb ca,.slice (some ⟨B,0,none⟩) nb cb,.int .i64 (m:Int)],.bool true]) (by simp[results,abX,go_sem,r0,r1,r2,rf]) rfl ⟨?_,((y7.o.trans X1.o).trans GG.o).CH (Cj _) _ _ _⟩;refine⟨.slice (some ⟨G,0,none⟩) nb ca,.slice (some ⟨B,0,none⟩) nb cb,Q,?_,?_⟩
     ·unfold dL;rw[HN.o,l'];rfl
     ·unfold dL;rw[HN.o,l'];exact(KF.o.own.AL fun k hk=>dd _ _ _ _ _ _ e7).mono e7
theorem pI(h:Hg w ra rn rc ba bn bc t)(J:rn<=100000)(Hc:bn<=100000)(Gz:∀i,i<rn->(t.row i).length<=1048576)(I:∀i j,-9223372036854775807<=(t.at i j).1/\(t.at i j).1<=9223372036854775807)(row zp:Int):
 Calls Tryz.prog 235 #[Gw ra rn rc ba bn bc t.r7,.int .i64 row,.int .i64 zp] w fun e w'=>LK w' w.heap.size e (dL t row zp) (bJ t row zp).isSome/\Ext w w':=by
 cases hp:ep t row zp
 ·have e:=yp hp;unfold dL;rw[e];exact oF h J Hc Gz row zp hp
 ·exact oG h J Hc I row zp hp
end
structure Mod(S:Nat)(w w':World):Prop where
 os:w'.os=w.os
 tape:w'.tape=w.tape
 output:w'.output=w.output
 size:w.heap.size<=w'.heap.size
 block:∀k,k<w.heap.size->k≠S->w'.heap[k]?=w.heap[k]?
theorem Mod.refl(S:Nat)(w:World):Mod S w w:=⟨rfl,rfl,rfl,ao _,fun _ _ _=>rfl⟩
theorem Mod.of(h:Ext w w'):Mod S w w':=⟨h.os,h.tape,h.output,h.size,fun k hk _=>h.block k hk⟩
theorem Mod.trans{a b c:World}(h:Mod S a b)(k:Mod S b c):Mod S a c :=
 ⟨k.os.trans h.os,k.tape.trans h.tape,k.output.trans h.output,SC h.size k.size,fun i hi hn=>(k.block i (aa5 hi h.size) hn).trans (h.block i hi hn)⟩
theorem Mod.set(S:Nat)(w:World)(k:Nat)(v:Value):Mod S w (w.setCell ⟨S,k,none⟩ v):=by
 have h:=(acb S w).setCell (p:=⟨S,k,none⟩) (ao S) v;exact⟨h.os,h.tape,h.output,h.size,fun i _ hn=>bB _ _ _ _ hn⟩
theorem Mod.ext{w0:World}(h:Mod S w w')(hx:Ext w0 w)(hs:w0.heap.size<=S):Ext w0 w' :=
 ⟨h.os.trans hx.os,h.tape.trans hx.tape,h.output.trans hx.output,SC hx.size h.size,fun k hk=>(h.block k (aa5 hk hx.size) e7).trans (hx.block k hk)⟩
structure dK(w:World)(S:Nat)(ra:j6)(rn rc:Nat)(ba:j6)(bn bc:Nat)(vs:List Value)(t:Tb)(n:Nat)(f:Bool):Prop where
 box:w.heap[S]?=some (.cells #[.slice ra rn rc,.slice ba bn bc,.int .i64 t.r7,.int .i64 (n:Int),.bool f] 182 (0,0))
 tb:AJ w 0 (.slice ra rn rc) (.slice ba bn bc) vs t
theorem AJ.M0{I vb:Value}{vs:List Value}{c:Array Value}{z:Nat×Nat}(h:AJ w base I vb vs t)(hb:w.heap[S]?=some (.cells c 182 z)):AJ (w.setCell ⟨S,k,none⟩ v) base I vb vs t :=
 ⟨ei h.a hb (by decide),⟨h.rows.len,fun i hi=>ei (h.rows.row i hi) hb (by decide),h.rows.apart⟩,ei h.b hb (by decide)⟩
section
variable{w:World}{S:Nat}{ra:j6}{rn rc:Nat}{ba:j6}{bn bc:Nat}{vs:List Value}{t:Tb}{n:Nat}{f:Bool}
theorem dK.ext{w':World}(h:dK w S ra rn rc ba bn bc vs t n f)(hx:Ext w w'):dK w' S ra rn rc ba bn bc vs t n f:=⟨(hx.block _ (mr h.box)).trans h.box,h.tb.ext hx⟩
theorem dK.cells(h:dK w S ra rn rc ba bn bc vs t n f):w.cell? ⟨S,0,none⟩=some (.slice ra rn rc)/\w.cell? ⟨S,1,none⟩=some (.slice ba bn bc)/\w.cell? ⟨S,2,none⟩=some (.int .i64 t.r7)/\w.cell? ⟨S,3,none⟩=some (.int .i64 (n:Int))/\w.cell? ⟨S,4,none⟩=some (.bool f)/\∀k,w.frozen? ⟨S,k,none⟩=false:=by
 have hb:=h.box;refine⟨?_,?_,?_,?_,?_,fun k=>sd w S k _ _ hb⟩<;>rw[tn w S _ _ _ _ hb]<;>rfl
theorem dK.fail(h:dK w S ra rn rc ba bn bc vs t n f):dK (w.setCell ⟨S,4,none⟩ (.bool true)) S ra rn rc ba bn bc vs t n true :=
 ⟨ta w S 4 _ _ (.bool true) h.box,h.tb.M0 h.box⟩
theorem dK.step(h:dK w S ra rn rc ba bn bc vs t n f){U:j6}{Z I:Nat}{K:j6}{KA J:Nat}{O:List Value}{Q:Tb}(ho:AJ w 0 (.slice U Z I) (.slice K KA J) O Q):
 dK ((((w.setCell ⟨S,0,none⟩ (.slice U Z I)).setCell ⟨S,1,none⟩ (.slice K KA J)).setCell ⟨S,2,none⟩ (.int .i64 Q.r7)).setCell ⟨S,3,none⟩ (.int .i64 ((n:Int)+1))) S U Z I K KA J O Q (n+1) f:=by
 have b1:=ta w S 0 _ _ (.slice U Z I) h.box;have b2:=ta _ S 1 _ _ (.slice K KA J) b1;have b3:=ta _ S 2 _ _ (.int .i64 Q.r7) b2;have b4:=ta _ S 3 _ _ (.int .i64 ((n:Int)+1)) b3;refine⟨?_,(((ho.M0 h.box).M0 b1).M0 b2).M0 b3⟩;rw[b4];have:((n+1:Nat):Int)=(n:Int)+1:=by simp
 rw[this];rfl
end
theorem o0.mod{b:Nat}{l:j4}(h:o0 w b v l)(hm:Mod S w w'){c:Array Value}{z:Nat×Nat}(hb:w.heap[S]?=some (.cells c 182 z)):o0 w' b v l :=
 h.keep fun k hk=>hm.block k (h.lt k hk).2 fun e=>(au h hb (by decide)) (by rw[hk,e])
def Left(S:Nat)(w w':World)(o:Option (Tb×Nat)):Prop :=
 Mod S w w'/\∃ra rn rc ba bn bc vs,match o with
  | some (t,n)=>dK w' S ra rn rc ba bn bc vs t n false
  | none=>∃t n,dK w' S ra rn rc ba bn bc vs t n true
def B7(t:Tb)(n:Nat)(row zp:Int):Option (Tb×Nat):=if n=1000 then none else(bJ t row zp).map fun t'=>(t',n+1)
theorem Ak.bounds{m:Nat}{I:Nat->Nat->Rat}(h:Ak n m I t):(∀i,i<m->(t.row i).length=n+m+1)/\∀i j,-9223372036854775807<=(t.at i j).1/\(t.at i j).1<=9223372036854775807:=by
 refine⟨fun i hi=>(h.row i hi).1,fun i j=>?_⟩;by_cases hi:i<m
 ·by_cases hj:j<n+m+1
  ·have:=aQ ((h.row i hi).2 j hj);unfold Tb.at
   omega
  ·unfold Tb.at
   rw[G4 (by rw[(h.row i hi).1];omega)];simp
 ·unfold Tb.at Tb.row;rw[G4 (l:=t.rows) (by rw[h.len];omega)];simp
section
variable{w:World}{S:Nat}{ra:j6}{rn rc:Nat}{ba:j6}{bn bc:Nat}{vs:List Value}{t:Tb}{n:Nat}
theorem uZ(h:dK w S ra rn rc ba bn bc vs t n false){N m:Nat}{T0:Nat->Nat->Rat}(hT:Ak N m T0 t)(hN:N<=1000)(hm:m<=1000)(hn:n<=1000)(row zp:Int):
 Calls Tryz.prog 194 #[.pointer (some ⟨S,0,none⟩),.int .i64 row,.int .i64 zp] w fun e w'=>e=.returned (.tuple #[])/\Left S w w' (B7 t n row zp):=by
 have hlt:=mr h.box;obtain⟨c0,c1,c2,c3,c4,cf⟩:=h.cells;have H:=ae h;by_cases Ip:n=1000
 ·subst Ip;have HP:=ae (show B7 t 1000 row zp=none by unfold B7;rw[hI rfl]);clear h;go_enter aeB,aef
  go_wp2_with fail;refine bR (aaF rfl _ _ _) rfl ⟨rfl,Mod.set _ _ _ _,?_⟩;rw[HP.o];exact⟨_,_,_,_,_,_,_,_,_,H.o.fail⟩
 ·have Qj:((n:Int) == 1000)=false:=by simp;omega
  have B1:n<1000:=by omega
  have HB:=ae hT.bounds;have zf:=ae h.tb.CW;have CP:rn=m:=by rw[<-h.tb.CW.rows.hlen,hT.len]
  have Hc:bn=m:=by rw[<-h.tb.CW.basis.hlen,hT.De]
  have FD:=ae (pI h.tb.CW e7 e7 (fun i hi=>by rw[hT.bounds.1 i e7];omega) hT.bounds.2 row zp);have HP:=ae (show B7 t n row zp=(bJ t row zp).map fun t'=>(t',n+1)by unfold B7;rw[hD Ip]);clear h hT Ip CP Hc;unfold LK dL at FD;cases hp:bJ t row zp with
  | none =>
    rw[hp]at FD HP;go_enter aeB,aef
    go_wp2_with fail;refine FD.o.mono ?_;simp only[aaa,acZ];rintro e w1 ⟨⟨va,vb,K,rfl,ho⟩,hx⟩;obtain⟨a7,Q,U,rfl,H9⟩:=ho.a.var;obtain⟨Z,O,c8,rfl,IL⟩:=ho.b.var;obtain⟨E1,I⟩:=b9 (w1.alloc (.cells #[.slice a7 Q U,.slice Z O c8,.int .i64 t.r7] 116));have X1:=ae (show Ext w E1 by rw[I];exact hx.trans (Ext.alloc _ _));have HO:=ae (show AJ E1 0 (.slice a7 Q U) (.slice Z O c8) K t by rw[I];exact(ho.ext (Ext.alloc _ _)).mono (KJ _));have J:=ae (show E1.heap[w1.heap.size]?=some (.cells #[.slice a7 Q U,.slice Z O c8,.int .i64 t.r7] 116 (0,0))by rw[I];exact ai _ _ _ rfl);have HS:=ae (H.o.ext X1.o);go_upto_region 3 with fail;rw[<-I];clear I ho hx c0 c1 c2 c3 c4 cf;obtain⟨c0,c1,c2,c3,c4,cf⟩:=HS.o.cells;have b0:=am J.o;have b1:=aD J.o;have b2:=aG J.o;have Ah:=mr J.o;have hne:w1.heap.size≠S:=fun e=>jK J.o HS.o.box (by decide) e
    go_wp2_with fail;refine bR (aaF rfl _ _ _) rfl ⟨rfl,(Mod.of X1.o).trans (Mod.set _ _ _ _),?_⟩;rw[HP.o];exact⟨_,_,_,_,_,_,_,_,_,HS.o.fail⟩
  | some t' =>
    rw[hp]at FD HP;go_enter aeB,aef
    go_wp2_with fail;refine FD.o.mono ?_;simp only[l',aa7];rintro e w1 ⟨⟨va,vb,K,rfl,ho⟩,hx⟩;obtain⟨a7,Q,U,rfl,H9⟩:=ho.a.var;obtain⟨Z,O,c8,rfl,IL⟩:=ho.b.var;obtain⟨E1,I⟩:=b9 (w1.alloc (.cells #[.slice a7 Q U,.slice Z O c8,.int .i64 t'.r7] 116));have X1:=ae (show Ext w E1 by rw[I];exact hx.trans (Ext.alloc _ _));have HO:=ae (show AJ E1 0 (.slice a7 Q U) (.slice Z O c8) K t' by rw[I];exact(ho.ext (Ext.alloc _ _)).mono (KJ _));have J:=ae (show E1.heap[w1.heap.size]?=some (.cells #[.slice a7 Q U,.slice Z O c8,.int .i64 t'.r7] 116 (0,0))by rw[I];exact ai _ _ _ rfl);have HS:=ae (H.o.ext X1.o);go_upto_region 3 with fail;rw[<-I];clear I ho hx c0 c1 c2 c3 c4 cf;obtain⟨c0,c1,c2,c3,c4,cf⟩:=HS.o.cells;have b0:=am J.o;have b1:=aD J.o;have b2:=aG J.o;have Ah:=mr J.o;have hne:w1.heap.size≠S:=fun e=>jK J.o HS.o.box (by decide) e
    go_wp2_with fail;refine ab8 (aaF rfl _ _ _) rfl ⟨rfl,(Mod.of X1.o).trans ((((Mod.set _ _ _ _).trans (Mod.set _ _ _ _)).trans (Mod.set _ _ _ _)).trans (Mod.set _ _ _ _)),?_⟩;rw[HP.o];exact⟨_,_,_,_,_,_,_,HS.o.step HO.o⟩
end
