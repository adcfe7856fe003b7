import Derived.Test.YtdadoignenffgaaGreatDoorEbAllG26
import Derived.Test.YtdadoignenffgaaGreatDoorEbAllG1
import Derived.Test.YtdadoignenffgaaGreatDoorEbAllG6
import Derived.Test.YtdadoignenffgaaGreatDoorEbAllG0
import Derived.Deep.DeepCutAuto
set_option linter.unusedVariables false
set_option linter.unusedSimpArgs false
namespace Go.Proofs.YtdadoignenffgaaGreatDoor
variable{w w' wr:World}{a:j6}{n cb b vb gb rb:Nat}{V:j7}
set_option maxHeartbeats 16000000
theorem vi(p:Int)(V:j7):∀(f:Nat) (L:j2) (k:Nat),(DO p V f L k).pt.length<=p.toNat/\(DO p V f L k).st.length<=L.length+f*V.length
 | 0,L,k=>⟨KJ _,KJ _⟩
 | f+1,L,k=>by
   have ih:=vi p V f (dE V L (ci p.toNat V L)) (k+1);have hl:(dE V L (ci p.toNat V L)).length<=L.length+V.length:=by
    unfold dE;rw[pk];have h1:=kp (AE V L) (ci p.toNat V L) (AE V L).length;have h2:(AE V L).length<=V.length-2:=dU L (V.length-2);omega
   have hm:(f+1)*V.length=f*V.length+V.length:=ab4 _ _;unfold DO
   split
   ·split
    ·refine⟨?_,?_⟩
     ·show((_:j4).map ze).length<=_;rw[zo,FX];omega
     ·show(dE V L (ci p.toNat V L)).length<=_;omega
    ·exact⟨ih.1,by omega⟩
   ·exact⟨KJ _,KJ _⟩
theorem vj(p:Int)(V:j7):(CN p V).pt.length<=5/\(CN p V).st.length<=2000:=by
 unfold CN
 split
 ·next h =>
  split
  ·exact⟨by show 1<=5;omega,KJ _⟩
  ·obtain⟨_,G,_,_,h5,_⟩:=iL h;have hb:=vi p V ((AE V []).length+1) [] 0;have h2:(AE V []).length<=V.length-2:=dU [] (V.length-2);have h3:((AE V []).length+1)*V.length<=32*32:=Y4 e7 G;simp only[aap]at hb;exact⟨by omega,by omega⟩
 ·exact⟨KJ _,KJ _⟩
set_option maxRecDepth 100000
open Go.RowKit
structure eS(w:World)(a:j6)(n cap:Nat):Prop where
 l8:n<=cap
 l9:cap<=9223372036854775807
 cell:∀k,k<n->∃b off,a=some ⟨b,off,none⟩/\∀k,k<n->∃x:Int,w.cell? ⟨b,off+k,none⟩=some (.int .u8 x)/\0<=x/\x<=255
theorem eS.ext{cap:Nat}(h:eS w a n cap)(hx:Ext w w'):eS w' a n cap :=
 ⟨h.l8,h.l9,fun k hk=>let⟨b,off,e,hc⟩:=h.cell k hk;⟨b,off,e,fun k hk=>let⟨x,h1,h2⟩:=hc k hk;⟨x,hx.j9 h1,h2⟩⟩⟩
theorem eS.at{cap:Nat}(h:eS w a n cap){k:Nat}(hk:k<n):∃b off x,a=some ⟨b,off,none⟩/\w.cell? ⟨b,off+k,none⟩=some (.int .u8 x)/\0<=x/\x<=255 :=
 let⟨b,off,e,hc⟩:=h.cell k hk;let⟨x,h1,h2,h3⟩:=hc k hk;⟨b,off,x,e,h1,h2,h3⟩
def D2(w:World)(cb:Nat):Prop:=∃(ba:j6) (bn bc:Nat) (i h:Int),w.heap[cb]?=some (.cells #[.slice ba bn bc,.int .i64 i,.int .i64 h] 95 (0,0))/\eS w ba bn bc/\0<=i/\i<=bn/\∀b off,ba=some ⟨b,off,none⟩->0<bn->b<cb
theorem D2.lt(h:D2 w cb):cb<w.heap.size:=by obtain⟨_,_,_,_,_,h,_⟩:=h;exact mr h
theorem D2.ext(h:D2 w cb)(hx:Ext w w'):D2 w' cb:=by
 have hl:=h.lt;obtain⟨ba,bn,bc,i,v,h1,h2,h3⟩:=h;exact⟨ba,bn,bc,i,v,(hx.block _ hl).trans h1,h2.ext hx,h3⟩
theorem fY(h:w'.heap[b]?=w.heap[b]?)(o:Nat):w'.cell? ⟨b,o,none⟩=w.cell? ⟨b,o,none⟩:=by
 simp only[World.cell?,h]
theorem qh{bn bc:Nat}{ba:j6}{i i' h v:Int}(hb:w.heap[cb]?=some (.cells #[.slice ba bn bc,.int .i64 i,.int .i64 h] 95 (0,0)))(I:eS w ba bn bc)
 (h0:0<=i') (h1:i'<=bn) (hne:∀b off,ba=some ⟨b,off,none⟩->0<bn->b<cb) {W0 W:World} (G:W0.heap[cb]?=some (.cells #[.slice ba bn bc,.int .i64 i',.int .i64 v] 95 (0,0))) (hg:w.grownBy W0 (some cb)) (hW:Ext W0 W):D2 W cb/\w.grownBy W (some cb):=by
 have hby0:eS W0 ba bn bc:=by
  refine⟨I.l8,I.l9,fun j hj=>?_⟩;obtain⟨b,off,e,hc⟩:=I.cell j hj;refine⟨b,off,e,fun j hj=>?_⟩;obtain⟨y,hy,An⟩:=hc j hj;refine⟨y,(fY (hg.block b (Kq _ _ hy) (fun e2=>Nat.ne_of_lt (hne b off e e7) (Og e2))) _).trans hy,An⟩
 exact⟨⟨ba,bn,bc,i',v,(hW.block _ (mr G)).trans G,hby0.ext hW,h0,h1,hne⟩,mz hg (ij none hW) (fun k hk=>by cases hk)⟩
theorem Pw(x:Int)(m:Nat)(hm:m<2147483648):0<=bits .and .i64 x (m:Int)/\bits .and .i64 x (m:Int)<=m:=by
 have h2:(BitVec.ofInt 64 (m:Int)).toNat=m:=by rw[abi,abv];exact abq e7
 have e:bits .and .i64 x (m:Int)=IntKind.i64.wrap ((BitVec.ofInt 64 x &&& BitVec.ofInt 64 (m:Int)).toNat:Int):=rfl;rw[e,BitVec.toNat_and,h2];have:=Nat.and_le_right (n:=(BitVec.ofInt 64 x).toNat) (m:=m);rw[cn];omega
theorem lL(x:Int):0<=bits .and .i64 x 255/\bits .and .i64 x 255<=255:=Pw x 255 e7
theorem vz{cap:Nat}(h:eS w a n cap)(hn:n<=1048576):
 Calls Tryz.prog 30 #[.slice a n cap] w fun e w'=>(∃cb,e=.returned (.pointer (some ⟨cb,0,none⟩))/\w.heap.size<=cb/\D2 w' cb)/\Ext w w':=by
 have l8:=h.l8;have l9:=h.l9;have HB:=ae h
 have HLT:=ae (show∀b off,a=some ⟨b,off,none⟩->0<n->b<w.heap.size by
  intro b off e hp;obtain⟨b',off',x,e',hc,_⟩:=h.at hp;rw[e]at e';simp only[bA,mq,zz]at e';obtain⟨rfl,rfl⟩:=e'
  exact Kq _ _ hc)
 clear h;go_enter Tryz.func30,Tryz.ntmps30
 go_wp2_with fail
 go_loop [3,4] (fun hh ii=>∃(k:Nat) (hv:Int),k<=n/\ii=.int .i64 (k:Int)/\hh=.int .i64 hv) (fun _ ii=>n-(intOf ii).toNat)
 case atStart=>exact⟨0,_,KJ _,rfl,rfl⟩
 case round =>
  obtain⟨k,hv,hk,rfl,rfl⟩:=hrel;by_cases hlt:k<n/\k<4000
  ·obtain⟨UD,Ah⟩:=hlt;obtain⟨b,off,x,rfl,hc,y9,zK⟩:=HB.o.at UD;go_wp2_with fail
   go_round
   case rel=>exact⟨k+1,_,by omega,by go_num,rfl⟩
   case measure=>simp[intOf];omega
  ·have G:¬k<n∨(k<n/\¬k<4000):=by omega
   have HP:=ae (show D2 (w.alloc (.cells #[.slice a n cap,.int .i64 0,.int .i64 hv] 95)) w.heap.size from
    ⟨a,n,cap,0,hv,L' _ _,HB.o.ext (Ext.alloc _ _),by omega,by omega,fun b off e hp=>by have:=HLT.o b off e hp;omega⟩)
   clear hlt
   rcases G with G|⟨hge1,hge2⟩
   all_goals
    go_wp2_with fail;go_ret;exact⟨⟨_,rfl,ao _,HP.o⟩,Ext.alloc _ _⟩
theorem jh(h:D2 w cb):
 Calls Tryz.prog 82 #[.pointer (some ⟨cb,0,none⟩)] w fun e w'=>(∃x:Int,e=.returned (.int .i64 x)/\0<=x/\x<=255)/\D2 w' cb/\w.grownBy w' (some cb):=by
 obtain⟨ba,bn,bc,i,hv,hb,J,h0,h1,hne⟩:=h;have hl:=mr hb;have c0:w.cell? ⟨cb,0,none⟩=some (.slice ba bn bc):=by rw[tn w cb 0 _ _ _ hb];rfl
 have c1:w.cell? ⟨cb,1,none⟩=some (.int .i64 i):=by rw[tn w cb 1 _ _ _ hb];rfl
 have c2:w.cell? ⟨cb,2,none⟩=some (.int .i64 hv):=by rw[tn w cb 2 _ _ _ hb];rfl
 have f1:w.frozen? ⟨cb,1,none⟩=false:=sd w cb 1 _ _ hb;have f2:w.frozen? ⟨cb,2,none⟩=false:=sd w cb 2 _ _ hb;have G:=ae J;have HB:=ae hb;have H8:=ae hne;have l8:=J.l8;have l9:=J.l9;clear hb J hne;by_cases hlt:i<bn
 ·obtain⟨k,rfl⟩:∃k:Nat,i=k:=⟨i.toNat,by omega⟩;obtain⟨b,off,x,rfl,hc,y9,zK⟩:=G.o.at (k:=k) e7;have I:b≠cb:=Nat.ne_of_lt (H8.o b off rfl e7);go_enter Tryz.func82,Tryz.ntmps82
  have hbne':¬cb=b:=fun e=>I e.symm
  have CX:0<=(k:Int)+1:=by omega
  have hkj:(k:Int)+1<=9223372036854775807:=by omega
  have IP:=ae (fun(v:Int) (W:World) (hW:Bj ((w.setCell ⟨cb,2,none⟩ (.int .i64 v)).setCell ⟨cb,1,none⟩ (.int .i64 ((k:Int)+1))) W) =>
   qh (i':=(k:Int)+1) (v:=v) HB.o G.o CX e7 H8.o (W0:=(w.setCell ⟨cb,2,none⟩ (.int .i64 v)).setCell ⟨cb,1,none⟩ (.int .i64 ((k:Int)+1)))
    (by rw[ta _ _ _ _ _ _ (ta _ _ _ _ _ _ HB.o)];rfl)
    ⟨rfl,rfl,rfl,by simp,fun j hj hne=>by
     have hj:j≠cb:=fun e=>hne (by rw[e])
     rw[bB _ _ _ _ hj,bB _ _ _ _ hj]⟩ hW.ext)
  go_wp2_with fail
  go_quiet (fail)
  go_wp2_with fail
  go_quiet (fail)
  go_wp2_with fail
  go_quiet (fail)
  go_wp2_with fail;refine bR (v:=.int .i64 _) (by simp[results,Tryz.results82,go_sem];rfl) rfl ⟨⟨_,rfl,(lL _).1,(lL _).2⟩,IP.o _ _ ⟨_,rfl⟩⟩
 ·have IP:=ae (fun(v:Int) (W:World) (hW:Bj (w.setCell ⟨cb,2,none⟩ (.int .i64 v)) W) =>
   qh (i':=i) (v:=v) HB.o G.o h0 h1 H8.o (W0:=w.setCell ⟨cb,2,none⟩ (.int .i64 v))
    (by rw[ta _ _ _ _ _ _ HB.o];rfl)
    ⟨rfl,rfl,rfl,by simp,fun j hj hne=>by
     have hj:j≠cb:=fun e=>hne (by rw[e])
     rw[bB _ _ _ _ hj]⟩ hW.ext)
  go_enter Tryz.func82,Tryz.ntmps82
  go_wp2_with fail
  go_quiet (fail)
  go_wp2_with fail
  go_quiet (fail)
  go_wp2_with fail;refine bR (v:=.int .i64 _) (by simp[results,Tryz.results82,go_sem];rfl) rfl ⟨⟨_,rfl,(lL _).1,(lL _).2⟩,IP.o _ _ (Bj.trans ⟨_,rfl⟩ ⟨_,rfl⟩)⟩
def aaP(w:World)(cb:Nat)(lo hi:Int)(e:Ending)(w':World):Prop:=(∃x:Int,e=.returned (.int .i64 x)/\lo<=x/\x<=hi)/\D2 w' cb/\w.grownBy w' (some cb)
theorem eA{I G:World}(h:w.grownBy I (some cb))(k:I.grownBy G (some cb)):w.grownBy G (some cb):=mz h k (fun k hk=>.inl hk)
theorem ek(h:D2 w cb)(n:Int)(hn:1<=n):
 Calls Tryz.prog 29 #[.pointer (some ⟨cb,0,none⟩),.int .i64 n] w (aaP w cb 0 (n-1)):=by
 have H:=ae h;clear h;have Ip:¬n<=0:=by omega
 have hnz:(n == 0)=false:=by simp;omega
 by_cases hle:n<=256
 ·go_enter Tryz.func29,Tryz.ntmps29
  go_wp2_with fail;refine(jh H.o).mono ?_;rintro e w1 ⟨⟨x,rfl,y9,G⟩,hc,hg⟩;have HC:=ae hc;have HG:=ae hg;clear hc hg;go_wp2_with fail;go_ret;refine⟨⟨_,rfl,adE _ e7,?_⟩,HC.o,HG.o⟩;have:=acX x (show 0<n by omega);omega
 ·go_enter Tryz.func29,Tryz.ntmps29
  go_wp2_with fail;refine(jh H.o).mono ?_;rintro e w1 ⟨⟨x,rfl,y9,G⟩,hc,hg⟩;have H1:=ae hc;have U:=ae hg;clear hc hg;go_wp2_with fail;refine(jh H1.o).mono ?_;rintro e w2 ⟨⟨y,rfl,BG,An⟩,hc,hg⟩;have H2:=ae hc;have Q:=ae (eA U.o hg);clear hc hg;go_wp2_with fail;refine(jh H2.o).mono ?_;rintro e w3 ⟨⟨z,rfl,AU,Fq⟩,hc,hg⟩;have J:=ae hc;have O:=ae (eA Q.o hg);clear hc hg;go_wp2_with fail;refine(jh J.o).mono ?_;rintro e w4 ⟨⟨u,rfl,Mk,GY⟩,hc,hg⟩;have I:=ae hc;have K:=ae (eA O.o hg);clear hc hg;go_wp2_with fail;go_ret;refine⟨⟨_,rfl,adE _ e7,?_⟩,I.o,K.o⟩;have:=acX (x*16777216+y*65536+z*256+u) (show 0<n by omega);omega
theorem uN(h:D2 w cb){cap:Nat}{l:j7}(hl:Ints w a n cap l)(hn:1<=n)(hne:∀b off,a=some ⟨b,off,none⟩->b≠cb):
 Calls Tryz.prog 155 #[.pointer (some ⟨cb,0,none⟩),.slice a n cap] w fun e w'=>(∃k:Nat,k<n/\e=.returned (.int .i64 (l[k]?.getD 0)))/\D2 w' cb/\w.grownBy w' (some cb):=by
 have l8:=hl.l8;have l9:=hl.l9;have H:=ae (ek h (n:Int) e7);have HL:=ae hl;have HN:=ae hne;clear h hl hne;go_enter Tryz.func155,Tryz.ntmps155
 go_wp2_with fail;refine H.o.mono ?_;rintro e w1 ⟨⟨x,rfl,y9,zK⟩,hc,hg⟩;obtain⟨k,rfl⟩:∃k:Nat,x=k:=⟨x.toNat,by omega⟩;have hk:k<n:=by omega
 obtain⟨b,off,rfl,G⟩:=HL.o.at hk;have UX:w1.cell? ⟨b,off+k,none⟩=some (.int .i64 (l[k]?.getD 0)) :=
  (fY (hg.block b (Kq _ _ G) (fun e=>HN.o b off rfl (Og e))) _).trans G
 have HC:=ae hc;have HG:=ae hg;clear hc hg G;go_wp2_with fail;go_ret;exact⟨⟨k,hk,rfl⟩,HC.o,HG.o⟩
def Ij(s:Nat)(k:Nat):Nat:=(List.range k).countP fun j=>bit (s:Int) j
theorem yq(s k:Nat):Ij s (k+1)=Ij s k+if bit (s:Int) k then 1 else 0:=by
 unfold Ij;rw[TP,List.countP_append];simp[List.countP_cons]
theorem vt(s k:Nat):Ij s k<=k:=by unfold Ij;exact SC acr e8
theorem kw(s:Nat)(hs:s<4294967296)(w:World):Calls Tryz.prog 41 #[.int .i64 (s:Int)] w fun e w'=>e=.returned (.int .i64 (Ij s 5:Int))/\w=w':=by
 go_enter Tryz.func41,Tryz.ntmps41
 go_wp2_with fail
 go_loop [3,4] (fun G kk=>∃k:Nat,k<=5/\kk=.int .i64 (k:Int)/\G=.int .i64 (Ij s k:Int)) (fun _ kk=>5-(intOf kk).toNat)
 case atStart=>exact⟨0,by omega,rfl,rfl⟩
 case round =>
  obtain⟨k,hk,rfl,rfl⟩:=hrel;have Yu:=vt s k;by_cases hlt:k<5
  ·have HP:=ae (cw (s:Int) (k:Int) w e7);have HB:=ae (el (s:Int) k e7 e7);have HS:=ae (yq s k);cases hb:bit (s:Int) k
   all_goals
    rw[HB.o,hb]at HP;rw[hb]at HS;clear hb;go_wp2_with fail;refine HP.o.mono ?_;rintro e w' ⟨rfl,rfl⟩;go_wp2_with fail
    go_round
    case rel=>exact⟨k+1,by omega,by go_num,by rw[HS.o];go_num⟩
    case measure=>simp[intOf];omega
  ·have I:k=5:=by omega
   subst I;go_wp2_with fail;go_ret;exact⟨rfl,rfl⟩
def Tiny(V:j7):Prop:=∀k:Nat,-100<=V[k]?.getD 0/\V[k]?.getD 0<=100
theorem Tiny.zeros(n:Nat):Tiny (List.replicate n 0):=fun k=>by
 by_cases h:k<n
 ·simp[h]
 ·rw[G4 (by simp;omega)];simp
theorem Tiny.set(h:Tiny V)(k:Nat){x:Int}(h0:-100<=x)(h1:x<=100):Tiny (V.set k x):=fun j=>by
 by_cases e:j=k
 ·subst e;by_cases hj:j<V.length
  ·rw[H3 hj];exact⟨h0,h1⟩
  ·rw[G4 (by simp;omega)];simp
 ·rw[DZ (aax e)];exact h j
theorem hJ(hg:w.grownBy w' (some cb))(hb:b<w.heap.size)(hne:b≠cb):w'.heap[b]?=w.heap[b]?:=hg.block b hb fun e=>hne (Og e)
structure aaQ(w w':World)(cb most n vb:Nat)(V:j7):Prop where
 lo:1<=n
 hi:n<=most
 len:V.length=cN n
 tiny:Tiny V
 zero:V[0]?.getD 0=0
 row:Row w' vb 3 V
 new:w.heap.size<=vb
 ne:vb≠cb
theorem D2.put{t:TypeId}(h:D2 w cb)(hr:Row w vb t V)(hne:vb≠cb)(k:Nat)(v:Value):D2 (w.setCell ⟨vb,k,none⟩ v) cb:=by
 obtain⟨ba,bn,bc,i,x,h1,h2,h3,h4,h5⟩:=h;refine⟨ba,bn,bc,i,x,(bB _ _ _ _ (aax hne)).trans h1,⟨h2.l8,h2.l9,fun j hj=>?_⟩,h3,h4,h5⟩;obtain⟨b,off,e,hc⟩:=h2.cell j hj;refine⟨b,off,e,fun j hj=>?_⟩;obtain⟨y,hy,An⟩:=hc j hj;refine⟨y,(fY (bB _ _ _ _ ?_) _).trans hy,An⟩;intro e2;subst e2;rw[tn w b _ _ _ _ hr]at hy;simp[be,MD]at hy
structure DS(w wr:World)(cb vb gb rb n:Nat)(V:j7):Prop where
 row:Row wr vb 3 V
 cur:D2 wr cb
 WL:wr.heap[gb]?=some (.cells #[.int .i64 (n:Int),.slice (some ⟨vb,0,none⟩) (cN n) (cN n)] 32 (0,0))
 Xt:wr.heap[rb]?=some (.cells #[.int .i64 0,.slice none 0 0] 32 (0,0))
 grown:w.grownBy wr (some cb)
 apart:vb≠cb/\gb≠cb/\rb≠cb/\gb≠vb/\rb≠vb/\rb≠gb/\w.heap.size<=vb/\w.heap.size<=gb/\w.heap.size<=rb
theorem DS.call(h:DS w wr cb vb gb rb n V)(hc:D2 w' cb)(hg:wr.grownBy w' (some cb)):DS w w' cb vb gb rb n V :=
 ⟨(hJ hg h.row.lt h.apart.1).trans h.row,hc,(hJ hg (mr h.WL) h.apart.2.1).trans h.WL,(hJ hg (mr h.Xt) h.apart.2.2.1).trans h.Xt,eA h.grown hg,h.apart⟩
theorem DS.ext(h:DS w wr cb vb gb rb n V)(hx:Ext wr w'):DS w w' cb vb gb rb n V :=
 h.call (h.cur.ext hx) (ij _ hx)
theorem DS.put(h:DS w wr cb vb gb rb n V)(k:Nat)(x:Int):DS w (wr.setCell ⟨vb,k,none⟩ (.int .i64 x)) cb vb gb rb n (V.set k x):=by
 obtain⟨h1,h2,h3,h4,h5,h6,h7,h8,h9⟩:=h.apart;have ho:∀j,j≠vb->(wr.setCell ⟨vb,k,none⟩ (.int .i64 x)).heap[j]?=wr.heap[j]?:=fun j hj=>bB _ _ _ _ hj
 refine⟨h.row.set k x,h.cur.put h.row h1 k _,(ho _ h4).trans h.WL,(ho _ h5).trans h.Xt,?_,h.apart⟩;have hg:=h.grown;exact⟨hg.os,hg.tape,hg.output,by simpa using hg.size,fun j hj hne=>(ho j e7).trans (hg.block j hj hne)⟩
theorem DS.c0(h:DS w wr cb vb gb rb n V):wr.cell? ⟨gb,0,none⟩=some (.int .i64 (n:Int)):=by rw[tn wr gb 0 _ _ _ h.WL];rfl
theorem DS.c1(h:DS w wr cb vb gb rb n V):wr.cell? ⟨gb,1,none⟩=some (.slice (some ⟨vb,0,none⟩) (cN n) (cN n)):=by rw[tn wr gb 1 _ _ _ h.WL];rfl
theorem D2.put'(h:D2 w cb)(hne:b≠cb)(hno:∀j x,w.cell? ⟨b,j,none⟩≠some (.int .u8 x))(k:Nat)(v:Value):D2 (w.setCell ⟨b,k,none⟩ v) cb:=by
 obtain⟨ba,bn,bc,i,x,h1,h2,h3,h4,h5⟩:=h;refine⟨ba,bn,bc,i,x,(bB _ _ _ _ (aax hne)).trans h1,⟨h2.l8,h2.l9,fun j hj=>?_⟩,h3,h4,h5⟩;obtain⟨G,off,e,hc⟩:=h2.cell j hj;refine⟨G,off,e,fun j hj=>?_⟩;obtain⟨y,hy,An⟩:=hc j hj;refine⟨y,(fY (bB _ _ _ _ ?_) _).trans hy,An⟩;intro e2;subst e2;exact hno _ _ hy
theorem wI{W:World}{x:Int}{s:Value}{t:TypeId}(hc:D2 W cb)(hb:W.heap[b]?=some (.cells #[.int .i64 x,s] t (0,0)))(hs:∀y,s≠.int .u8 y)(hne:b≠cb)(hg:w.grownBy W (some cb))(hw:w.heap.size<=b)(G:Int)(I:Value)(Ru:∀y,I≠.int .u8 y):
 D2 ((W.setCell ⟨b,0,none⟩ (.int .i64 G)).setCell ⟨b,1,none⟩ I) cb/\w.grownBy ((W.setCell ⟨b,0,none⟩ (.int .i64 G)).setCell ⟨b,1,none⟩ I) (some cb)/\(∀j,j≠b->((W.setCell ⟨b,0,none⟩ (.int .i64 G)).setCell ⟨b,1,none⟩ I).heap[j]?=W.heap[j]?)/\((W.setCell ⟨b,0,none⟩ (.int .i64 G)).setCell ⟨b,1,none⟩ I).heap[b]?=some (.cells #[.int .i64 G,I] t (0,0)):=by
 have ho:∀j,j≠b->((W.setCell ⟨b,0,none⟩ (.int .i64 G)).setCell ⟨b,1,none⟩ I).heap[j]?=W.heap[j]?:=fun j hj=>by
  rw[bB _ _ _ _ hj,bB _ _ _ _ hj]
 have no:∀{W:World} {x:Int} {s:Value},W.heap[b]?=some (.cells #[.int .i64 x,s] t (0,0))->(∀y,s≠.int .u8 y)->∀j y,W.cell? ⟨b,j,none⟩≠some (.int .u8 y):=fun{W x s} hb hs j y e=>by
  rw[tn W b j _ _ _ hb]at e
  match j with
  | 0=>simp at e
  | 1=>exact hs y (by simpa using e)
  | j+2=>simp at e
 have h1:=ta W b 0 _ t (.int .i64 G) hb;have J:(W.setCell ⟨b,0,none⟩ (.int .i64 G)).heap[b]?=some (.cells #[.int .i64 G,s] t (0,0)):=h1;have h2:=ta _ b 1 _ t I J;refine⟨(hc.put' hne (no hb hs) 0 _).put' hne (no J hs) 1 _,⟨hg.os,hg.tape,hg.output,by simpa using hg.size,fun j hj hn=>(ho j e7).trans (hg.block j hj hn)⟩,ho,h2⟩
theorem Ints.lit(w:World)(l:j7)(t:TypeId)(hl:l.length<=9223372036854775807):Ints (w.alloc (.cells (be l) t)) (some ⟨w.heap.size,0,none⟩) l.length l.length l :=
 Row.ints (L' w _) rfl (ao _) hl
theorem Xw:∀k,k<8->-100<=([0,1,2,3,5,8,-2,4]:j7)[k]?.getD 0/\([0,1,2,3,5,8,-2,4]:j7)[k]?.getD 0<=100:=by
 intro k hk;have:∀k:Fin 8,-100<=([0,1,2,3,5,8,-2,4]:j7)[k.val]?.getD 0/\([0,1,2,3,5,8,-2,4]:j7)[k.val]?.getD 0<=100:=by decide
 exact this ⟨k,hk⟩
theorem TT(x y:Int)(w:World):Calls Tryz.prog 156 #[.int .i64 x,.int .i64 y] w fun e w'=>e=.returned (.int .i64 (max x y))/\w=w':=by
 by_cases h:y<x
 all_goals
  have H:=ae h;go_enter Tryz.func156,Tryz.ntmps156
  go_wp2_with fail;go_ret;exact⟨ap (j1 H.o),rfl⟩
theorem eh(b:Bool)(y:Int)(h0:0<=y)(h1:y<=1):-100<=zA b*(3+y*3)/\zA b*(3+y*3)<=100:=by
 unfold zA;cases b
 ·simp
 ·simp;omega
theorem M8(h:D2 w cb)(most:Nat)(h1:1<=most)(h5:most<=5):
 Calls Tryz.prog 92 #[.pointer (some ⟨cb,0,none⟩),.int .i64 (most:Int)] w fun e w'=>(∃(n vb:Nat) (V:j7),e=.returned (.agg #[.int .i64 (n:Int),.slice (some ⟨vb,0,none⟩) (cN n) (cN n)])/\aaQ w w' cb most n vb V)/\D2 w' cb/\w.grownBy w' (some cb):=by
 have WB:=h.lt;have HX:=ae (Ext.alloc w (.cells #[.int .i64 0,.slice none 0 0] 32));have HC:=ae (h.ext HX.o);have HB:=ae (ek HC.o (most:Int) e7);have Ao:(w.alloc (.cells #[.int .i64 0,.slice none 0 0] 32)).heap[w.heap.size]?=some (.cells #[.int .i64 0,.slice none 0 0] 32 (0,0)):=L' _ _;have zF:=ae Ao;clear h Ao;go_enter Tryz.func92,Tryz.ntmps92
 go_wp2_with fail;refine HB.o.mono ?_;rintro e w1 ⟨⟨x,rfl,y9,zK⟩,hc,hg⟩;have Mb:=ae hc;have JQ:=ae hg;have Z0:=ae ((hJ hg e8 e7).trans zF.o);have DF:=hg.size;rw[V4]at DF;obtain⟨n,hn⟩:∃n:Nat,1+x=(n:Int):=⟨(1+x).toNat,by omega⟩;have B1:1<=n:=by omega
 have hnm:n<=most:=by omega
 have C6:n<=5:=by omega
 have It:=bP n C6;have Ly:=gh (cN n) e7;clear hc hg y9 zK;go_wp2_with fail;refine(kv n C6 _).mono ?_;rintro e w2 ⟨rfl,rfl⟩;go_wp2_with fail;obtain⟨vb,A4⟩:=b9 w1.heap.size;obtain⟨w2,Ch⟩:=b9 ((w1.alloc (.cells (be (List.replicate (cN n) 0)) 3)).alloc (.cells #[.int .i64 (n:Int),.slice (some ⟨w1.heap.size,0,none⟩) (cN n) (cN n)] 32));rw[<-Ch,<-A4]
 have HD2:=ae (show DS w w2 cb vb (vb+1) w.heap.size n (List.replicate (cN n) 0)by
  have hx:Ext w1 w2:=by rw[Ch];exact(Ext.alloc _ _).trans (Ext.alloc _ _)
  have DY:w.grownBy w1 (some cb):=eA (ij (some cb) HX.o) JQ.o;refine⟨?_,Mb.o.ext hx,?_,(hx.block _ (mr Z0.o)).trans Z0.o,eA DY (ij (some cb) hx),by omega⟩
  ·unfold Row;rw[Ch,aO _ _ _ (by simp;omega)];exact ai _ _ _ A4
  ·rw[Ch,A4];exact ai _ _ _ e8)
 clear Ch;refine(ek HD2.o.cur 4 e7).mono ?_;rintro e w3 ⟨⟨z,rfl,AU,Fq⟩,hc,hg⟩;have Xi:=ae (HD2.o.call hc hg);have c1:=Xi.o.c1;clear hc hg Ly hn A4;go_wp2_with fail
 go_loopg [8] (cN n-1) (fun gk ss wr=>∃(s:Nat) (V:j7),b7 (gk+s=cN n)/\ss=.int .i64 (s:Int)/\b7 (1<=s)/\b7 (V.length=cN n)/\b7 (Tiny V)/\b7 (V[0]?.getD 0=0)/\b7 (DS w wr cb vb (vb+1) w.heap.size n V))
 case atStart=>exact⟨1,_,ae e7,rfl,ae e7,ae e8,ae (Tiny.zeros _),ae (by cases cN n<;>simp),Xi⟩
 case round =>
  obtain⟨g1,o7⟩:=b9 gk;subst o7;obtain⟨J,o5⟩:=b9 wr;subst o5;obtain⟨s,V,HS,rfl,Z,AM,Q,PE,HD⟩:=hrel;clear c1;have c1:=HD.o.c1;by_cases hlt:s<cN n
  ·obtain⟨I,T9⟩:∃q:Int,q=(Ij s 5:Int):=⟨_,rfl⟩;have hz5:0<=I/\I<=5:=by have:=vt s 5;omega
   have hsq:0<=I*I/\I*I<=25:=by
    have h1:I*I<=5*5:=Int.mul_le_mul e7 e7 e7 e7;have h2:0<=I*I:=aa2 e7 e7;omega
   obtain⟨hsq0,hsq1⟩:=hsq;obtain⟨hz50,hz51⟩:=hz5;have HZ:=ae T9;have Wm:s<4294967296:=by omega
   have JX:IntKind.i64.wrap (I*I)=I*I:=by rw[cn];omega
   clear T9;have OJ:z=0∨z=1∨z=2∨z=3:=by omega
   rcases OJ with rfl|rfl|rfl|rfl
   ·go_wp2_with fail;have G:DS w J.drew cb vb (vb+1) w.heap.size n V:=HD.o.ext (Ext.drew J)
    go_region_held3 (fun w'=>w'.cell? ⟨vb+1,1,none⟩=some (.slice (some ⟨vb,0,none⟩) (cN n) (cN n)))
     (first|with_reducible exact G.c1|with_reducible exact(G.put _ _).c1)
     (first
       | (go_at_call 41;refine(kw s Wm _).mono ?_;rw[<-HZ.o];rintro e w' ⟨rfl,rfl⟩)
       | (go_at_call 29
          refine(ek G.cur 2 e7).mono ?_;rintro e w5 ⟨⟨y,rfl,K,An⟩,hc,hg⟩;have G:=G.call hc hg;have hcv:=G.row.cell (k:=s) (by rw[AM.o];exact hlt);have OA:=G.row.free s
          clear hc hg)
       | fail)
    all_goals
     go_wp2_with fail
     go_roundg (g1-1)
     case measure=>have:=HS.o;omega
     case rel =>
      refine⟨s+1,_,ae (j1 HS.o),by go_num,ae e7,ae ?_,ae ?_,ae ?_,ae (G.put s _)⟩
      ·rw[H4];exact AM.o
      ·refine Q.o.set s ?_ ?_<;>(first|omega|(rw[cn];omega)|(have AS:=eh (decide ((n:Int)<I*2)) y K An;unfold wrap64;omega))
      ·rw[DZ (j1 Z.o)];exact PE.o
   ·go_wp2_with fail;have O:DS w J.drew cb vb (vb+1) w.heap.size n V:=HD.o.ext (Ext.drew J);have UQ:DS w (J.alloc (.cells #[.int .i64 0,.int .i64 1,.int .i64 2,.int .i64 3,.int .i64 5,.int .i64 8,.int .i64 (-2),.int .i64 4] 3)).drew cb vb (vb+1) w.heap.size n V:=(HD.o.ext (Ext.alloc _ _)).ext (Ext.drew _);have YI:Ints (J.alloc (.cells #[.int .i64 0,.int .i64 1,.int .i64 2,.int .i64 3,.int .i64 5,.int .i64 8,.int .i64 (-2),.int .i64 4] 3)).drew (some ⟨J.heap.size,0,none⟩) 8 8 [0,1,2,3,5,8,-2,4]:=(Ints.lit J [0,1,2,3,5,8,-2,4] 3 (by decide)).ext (Ext.drew _);have UU:=HD.o.cur.lt
    go_region_held3 (fun w'=>w'.cell? ⟨vb+1,1,none⟩=some (.slice (some ⟨vb,0,none⟩) (cN n) (cN n)))
     (first|with_reducible exact O.c1|with_reducible exact UQ.c1|with_reducible exact G.c1|with_reducible exact(G.put _ _).c1)
     (first
       | (go_at_call 155
          refine(uN UQ.cur YI e7 (fun b off e=>by simp only[bA,mq,zz]at e;omega)).mono ?_;rintro e w5 ⟨⟨k,hk,rfl⟩,hc,hg⟩;have Uw:=Xw k hk;obtain⟨y,hy⟩:=b9 (([0,1,2,3,5,8,-2,4]:j7)[k]?.getD 0);rw[<-hy]at Uw;rw[<-hy];obtain⟨K,An⟩:=Uw;clear hy;have G:=UQ.call hc hg;have hcv:=G.row.cell (k:=s) (by rw[AM.o];exact hlt);have OA:=G.row.free s
          clear hc hg)
       | fail)
    all_goals
     go_wp2_with fail
     go_roundg (g1-1)
     case measure=>have:=HS.o;omega
     case rel =>
      refine⟨s+1,_,ae (j1 HS.o),by go_num,ae e7,ae ?_,ae ?_,ae ?_,ae (G.put s _)⟩
      ·rw[H4];exact AM.o
      ·exact Q.o.set s K An
      ·rw[DZ (j1 Z.o)];exact PE.o
   ·have Gx:IntKind.i64.wrap (3*I)=3*I:=by rw[cn];omega
    have hw32:IntKind.i64.wrap (3*I-2)=3*I-2:=by rw[cn];omega
    go_wp2_with fail;have G:DS w J.drew cb vb (vb+1) w.heap.size n V:=HD.o.ext (Ext.drew J)
    go_region_held3 (fun w'=>w'.cell? ⟨vb+1,1,none⟩=some (.slice (some ⟨vb,0,none⟩) (cN n) (cN n)))
     (first|with_reducible exact G.c1|with_reducible exact(G.put _ _).c1)
     (first
       | (go_at_call 41;refine(kw s Wm _).mono ?_;rw[<-HZ.o];rintro e w' ⟨rfl,rfl⟩)
       | (go_at_call 156;refine(TT _ _ _).mono ?_;rintro e w' ⟨rfl,rfl⟩)
       | (go_at_call 29
          refine(ek G.cur 2 e7).mono ?_;rintro e w5 ⟨⟨y,rfl,K,An⟩,hc,hg⟩;have G:=G.call hc hg;have hcv:=G.row.cell (k:=s) (by rw[AM.o];exact hlt);have OA:=G.row.free s;have hwy:IntKind.i64.wrap (3*I-2-y)=3*I-2-y:=by rw[cn];omega
          clear hc hg)
       | fail)
    all_goals
     go_wp2_with fail
     go_roundg (g1-1)
     case measure=>have:=HS.o;omega
     case rel =>
      refine⟨s+1,_,ae (j1 HS.o),by go_num,ae e7,ae ?_,ae ?_,ae ?_,ae (G.put s _)⟩
      ·rw[H4];exact AM.o
      ·refine Q.o.set s ?_ ?_<;>(first|omega|(rw[cn];omega)|exact(eh _ _ K An).1|exact(eh _ _ K An).2|(have AS:=eh (decide ((n:Int)<I*2)) y K An;rw[cn];omega)|(have AS:=eh (decide ((n:Int)<I*2)) y K An;unfold wrap64;omega))
      ·rw[DZ (j1 Z.o)];exact PE.o
   ·have Gx:IntKind.i64.wrap (I*2)=I*2:=by rw[cn];omega
    go_wp2_with fail;have G:DS w J.drew cb vb (vb+1) w.heap.size n V:=HD.o.ext (Ext.drew J)
    go_region_held3 (fun w'=>w'.cell? ⟨vb+1,1,none⟩=some (.slice (some ⟨vb,0,none⟩) (cN n) (cN n)))
     (first|with_reducible exact G.c1|with_reducible exact(G.put _ _).c1)
     (first
       | (go_at_call 41;refine(kw s Wm _).mono ?_;rw[<-HZ.o];rintro e w' ⟨rfl,rfl⟩)
       | (go_at_call 104;refine(fk _ _).mono ?_;rintro e w' ⟨rfl,rfl⟩)
       | (go_at_call 29
          refine(ek G.cur 2 e7).mono ?_;rintro e w5 ⟨⟨y,rfl,K,An⟩,hc,hg⟩;have G:=G.call hc hg;have hcv:=G.row.cell (k:=s) (by rw[AM.o];exact hlt);have OA:=G.row.free s;have hwy:IntKind.i64.wrap (y*3)=y*3:=by rw[cn];omega
          have hwy3:IntKind.i64.wrap (3+y*3)=3+y*3:=by rw[cn];omega
          clear hc hg)
       | fail)
    all_goals
     go_wp2_with fail
     go_roundg (g1-1)
     case measure=>have:=HS.o;omega
     case rel =>
      refine⟨s+1,_,ae (j1 HS.o),by go_num,ae e7,ae ?_,ae ?_,ae ?_,ae (G.put s _)⟩
      ·rw[H4];exact AM.o
      ·refine Q.o.set s ?_ ?_<;>(first|omega|(rw[cn];omega)|exact(eh _ _ K An).1|exact(eh _ _ K An).2|(have AS:=eh (decide ((n:Int)<I*2)) y K An;rw[cn];omega)|(have AS:=eh (decide ((n:Int)<I*2)) y K An;unfold wrap64;omega))
      ·rw[DZ (j1 Z.o)];exact PE.o
  ·have Ob:s=cN n:=by have:=HS.o;omega
   subst Ob;have c0:=HD.o.c0;have U:=HD.o.Xt;have r0:J.cell? ⟨w.heap.size,0,none⟩=some (.int .i64 0):=by rw[tn J w.heap.size 0 _ _ _ U];rfl
   have r1:J.cell? ⟨w.heap.size,1,none⟩=some (.slice none 0 0):=by rw[tn J w.heap.size 1 _ _ _ U];rfl
   have rf:∀o,J.frozen? ⟨w.heap.size,o,none⟩=false:=fun o=>sd J w.heap.size o _ _ U
   have rf0:=rf 0;have rf1:=rf 1;have IP:=ae (wI (w:=w) HD.o.cur U (by intro y;simp) HD.o.apart.2.2.1 HD.o.grown (ao _) (n:Int) (.slice (some ⟨vb,0,none⟩) (cN n) (cN n)) (by intro y;simp));have HZ0:=ae (show((J.setCell ⟨w.heap.size,0,none⟩ (.int .i64 (n:Int))).setCell ⟨w.heap.size,1,none⟩ (.slice (some ⟨vb,0,none⟩) (cN n) (cN n))).cell? ⟨w.heap.size,0,none⟩=some (.int .i64 (n:Int))by rw[tn _ _ 0 _ _ _ IP.o.2.2.2];rfl);have HZ1:=ae (show((J.setCell ⟨w.heap.size,0,none⟩ (.int .i64 (n:Int))).setCell ⟨w.heap.size,1,none⟩ (.slice (some ⟨vb,0,none⟩) (cN n) (cN n))).cell? ⟨w.heap.size,1,none⟩=some (.slice (some ⟨vb,0,none⟩) (cN n) (cN n))by rw[tn _ _ 1 _ _ _ IP.o.2.2.2];rfl);clear U rf;go_wp2_with fail;refine bR (v:=.agg #[.int .i64 (n:Int),.slice (some ⟨vb,0,none⟩) (cN n) (cN n)]) (by simp[results,Tryz.results92,go_sem,HZ0.o,HZ1.o]) rfl ⟨⟨n,vb,V,rfl,B1,hnm,AM.o,Q.o,PE.o,?_,HD.o.apart.2.2.2.2.2.2.1,HD.o.apart.1⟩,IP.o.1,IP.o.2.1⟩;exact(IP.o.2.2.1 vb (j1 HD.o.apart)).trans HD.o.row
