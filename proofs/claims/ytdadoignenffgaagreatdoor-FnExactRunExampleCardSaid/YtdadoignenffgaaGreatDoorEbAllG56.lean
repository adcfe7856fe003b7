import Derived.Test.YtdadoignenffgaaGreatDoorEbAllG38
import Derived.Test.YtdadoignenffgaaGreatDoorEbAllG35
import Derived.Deep.Cut
import Derived.Deep.DeepCutAuto
import Derived.Test.YtdadoignenffgaaGreatDoorEbAllG39
import Derived.Test.YtdadoignenffgaaGreatDoorEbAllG3
import Derived.Test.YtdadoignenffgaaGreatDoorEbAllG7
set_option linter.unusedVariables false
set_option linter.unusedSimpArgs false
namespace Go.Proofs.YtdadoignenffgaaGreatDoor
set_option maxHeartbeats 16000000
set_option maxRecDepth 100000
open Go.RowKit
def nX(w w':World)(e:Ending)(r:(Nat×j7)×Int):Prop:=∃a m cap,e=.returned (.tuple #[pair (r.1.1:Int) a m cap,.int .i64 r.2])/\o4 w' w.heap.size (.slice a m cap) r.1.2
theorem kz{l:List UInt8}{t:ByteArray}(h:t=bs l):t.toList.isEmpty=decide (l=[]):=by
 rw[h,bW,U9,adk,sw]
theorem uM{w:World}(t:List UInt8)(ht:t.length<=1048576):Calls Tryz.prog 15 #[.string (bs t)] w fun e w'=>nX w w' e (di t)/\Ext w w':=by
 obtain⟨W,hW⟩:=b9 (w.alloc (.cells #[.int .i64 0,.slice none 0 0] 32));have XW:=ae (show Ext w W by rw[hW];exact Ext.alloc _ _);have Ai:=ae (show W.heap.size=w.heap.size+1 by rw[hW];simp);have HR:=ae (show W.heap[w.heap.size]?=some (.cells #[.int .i64 0,.slice none 0 0] 32 (0,0))by rw[hW];exact ai _ _ _ rfl);have Hj:=ae (jG (w:=W) t 10 e7);have LW:=ae (jF t);have AN:=ae (fun x (h:x∈dG t)=>qD h);obtain⟨L,hL⟩:∃L,Aa 10 t=L:=⟨_,rfl⟩;have BE:=ae (fun u x=>qC hL (u:=u) (x:=x));have FG:=ae (show 1<=L.length/\L.length<=1048577 by rw[<-hL];exact⟨nQ _ _,by have:=lF 10 t;omega⟩);rw[hL]at Hj;obtain⟨P,hP⟩:=b9 (di t);rw[<-hP]at LW;rw[<-hP];obtain⟨K,Vc⟩:=b9 (dG t);rw[<-Vc]at LW AN;simp only[<-Vc]at BE;obtain⟨tt,G5⟩:=b9 (bs t);have H7:=ae G5;rw[<-G5]at Hj;rw[<-G5];have GH:=ae ht;have HFIN0:b7 (∀w':World,P=((0,[]),0)->∀h:Ext w w',nX w w' (.returned (.tuple #[pair 0 none 0 0,.int .i64 0])) P):=ae (fun w' h _=>by rw[h];exact⟨none,0,0,rfl,o4.nil _ _⟩);have D1:b7 (∀(w':World) (k:Int),P=((0,[]),k)->nX w w' (.returned (.tuple #[pair 0 none 0 0,.int .i64 k])) P):=ae (fun w' k h=>by rw[h];exact⟨none,0,0,rfl,o4.nil _ _⟩);clear hP Vc G5 ht hL;go_enter Tryz.func15,Tryz.ntmps15
 go_upto_region 1 with fail;rw[<-hW];clear hW;go_wp2_with fail;refine Hj.o.mono ?_;rintro e w1 ⟨v,rfl,ho,hx⟩;obtain⟨a1,n1,c1,rfl,ED⟩:=ho.var;obtain⟨u,rfl⟩:∃u,n1=u+1:=⟨n1-1,by have:=ED.o;have:=FG.o;omega⟩;have CE:=ae ho.Ej;have X1:=ae hx;have OM:=CE.o.l8;have Ou:=CE.o.l9;have Wl:u<=1048576:=by have:=ED.o;have:=FG.o;omega
 have Cd:=ae (XW.o.trans hx);have EB:=ae (hx.blk HR.o);obtain⟨Q,lo,xl,rfl,Vb,Qn⟩:=CE.o.at (k:=u) e7;have Jv:w1.cell? ⟨Q,lo+u,none⟩=some (.string (bs xl)):=dH CE.o Vb;have P8:=ae (BE.o u xl ED.o Vb);have GY:((u+1:Nat):Int)-1=(u:Int):=by omega
 obtain⟨tl,SS⟩:=b9 (bs xl);have HTS:=ae (kz SS);rw[<-SS]at Jv;clear ho hx Qn Vb SS
 go_upto_if 20 with fail
 rw[HTS.o];obtain⟨bE,U2⟩:=b9 (decide (xl=[]));rw[<-U2];have Je:=ae U2;clear U2
 go_cut [4] (fun s4 wx=>∃(m:Nat),s4=.slice (some ⟨Q,lo,none⟩) m c1/\b7 (BU zH w1 (some ⟨Q,lo,none⟩) m c1 K)/\b7 (m<=u+1)/\b7 (w1=wx))
 case first =>
  cases bE with
  | true =>
    have HM:=ae (show BU zH w1 (some ⟨Q,lo,none⟩) u c1 K by rw[P8.o,hI (EE Je.o.symm)];exact CE.o.take e7);go_wp2_with fail;go_meet;exact⟨u,rfl,HM,ae e7,ae rfl⟩
  | false =>
    have HM:=ae (show BU zH w1 (some ⟨Q,lo,none⟩) (u+1) c1 K by rw[P8.o,hD (ab6 Je.o.symm)];exact CE.o);go_wp2_with fail;go_meet;exact⟨u+1,rfl,HM,ae e7,ae rfl⟩
 obtain⟨m,rfl,HS,HMU,Tp⟩:=hcut;obtain rfl:=Tp.o;have hmu:=HMU.o;have S9:=HS.o.l8;have VX:=ae HS.o.hlen;clear Tp Jv HMU GY;obtain⟨r0,r1⟩:=JH (an EB.o) (al EB.o);have f0:=sd w1 _ 0 _ _ EB.o;have f1:=sd w1 _ 1 _ _ EB.o;by_cases F9:m=0
 ·subst F9;have HE:=ae (LW.o.trans (mH (Lj VX.o)));go_wp2_with fail;refine bR (v:=.tuple #[pair 0 none 0 0,.int .i64 0]) (by simp[results,acf,go_sem,pair,r0,r1]) rfl ⟨D1.o _ _ HE.o,(Cd.o.store 0 (ao _) _).store 1 (ao _) _⟩
 ·have F8:((m:Int) == 0)=false:=by simp;omega
  have K0:(0:Int)<(m:Int):=by omega
  obtain⟨lb',lo',x0,e',K8,_⟩:=HS.o.at (k:=0) e7;simp only[bA,mq,zz]at e';obtain⟨rfl,rfl⟩:=e';have q0:=dH HS.o K8;rw[ab3]at q0;have I':=ae K8;have HF:=ae (yP (w:=w1) x0 (by have:=AN.o x0 (aaf K8);have:=GH.o;omega));obtain⟨F,hF⟩:=b9 (dq x0);have QG:=ae hF;have IQ:=ae (show∀n,F=some n->1<=n/\n<=5 by rw[hF];exact fun n h=>kU h);rw[<-hF]at HF;clear hF K8;go_wp2_with fail;refine HF.o.mono ?_;rintro e w2 ⟨⟨J,G,I,rfl,ho⟩,hx⟩;have X2:=ae hx;have As:=ae ho;have DA:=ae (hx.blk EB.o);have ZK:=ae (Cd.o.trans hx);have VF:=ae (show G=ow F by have:=ho.ints.hlen;rw[O5]at this;exact this.symm);clear ho hx r0 r1 f0 f1 q0;have El:=ZK.o.size;cases F with
  | none =>
    have HE:=ae (LW.o.trans (oP I'.o QG.o.symm));obtain⟨U,O⟩:=b9 (w2.alloc (.cells #[.int .i64 0,.slice J G I] 32));have X3:=ae (show Ext w2 U by rw[O];exact Ext.alloc _ _);have IG:=ae (X3.o.blk DA.o);go_upto_region 7 with fail;rw[<-O];clear O;have g0:=an IG.o;have g1:=al IG.o;have Zs:=sd U _ 0 _ _ IG.o;have Zr:=sd U _ 1 _ _ IG.o;go_wp2_with fail;refine bR (v:=.tuple #[pair 0 none 0 0,.int .i64 0]) (by simp[results,acf,go_sem,pair,g0,g1]) rfl ⟨D1.o _ _ HE.o,((ZK.o.trans X3.o).store 0 (ao _) _).store 1 (ao _) _⟩
  | some n0 =>
    obtain⟨B1,C6⟩:=IQ.o n0 rfl;obtain⟨q,rfl⟩:∃q:Nat,n0=q:=⟨n0.toNat,by omega⟩;have VE:=ae (show G=2^q by rw[VF.o];rfl);have HVM:=ae (show 1<=G/\G<=32 by rw[VF.o];exact bP q e7);obtain⟨U,O⟩:=b9 (w2.alloc (.cells #[.int .i64 (q:Int),.slice J G I] 32));have X3:=ae (show Ext w2 U by rw[O];exact Ext.alloc _ _);have KN:=ae (show U.heap[w2.heap.size]?=some (.cells #[.int .i64 (q:Int),.slice J G I] 32 (0,0))by rw[O];exact ai _ _ _ rfl);have zi:=ae (show o4 U w1.heap.size (.slice J G I) (List.replicate G 0)by have:=As.o.ext X3.o;rw[<-VF.o]at this;exact this);have IX:=zi.o.ints.l8;have hvx:=zi.o.ints.l9;have ZG:=ae (show w1.heap.size<=w2.heap.size from X2.o.size);have LM:=ae (show w.heap.size<w1.heap.size from mr EB.o);obtain⟨g,hg⟩:=b9 w2.heap.size;have HGG:=ae hg;rw[<-hg]at KN ZG;go_upto_region 7 with fail;rw[<-O,<-hg];clear O hg;go_wp2_with fail
    go_loopg [7,8] (m-1) (fun gk aa kk wr=>∃(k:Nat) (last:Int) (V:j7),b7 (gk+k=m)/\aa=.int .i64 last/\kk=.int .i64 (k:Int)/\b7 (1<=k)/\b7 (ch (2^q) (K.drop 1) (k-1)=.ok (V,last))/\b7 (o4 wr w1.heap.size (.slice J G I) V)/\b7 (wr.heap[g]?=some (.cells #[.int .i64 (q:Int),.slice J G I] 32 (0,0)))/\b7 (Ext w1 wr))
    case atStart =>
     exact⟨1,0,List.replicate G 0,ae e7,rfl,rfl,ae (ao _),ae (by rw[VE.o];rfl),zi,KN,ae (X2.o.trans X3.o)⟩
    case round =>
     obtain⟨g1,o7⟩:=b9 gk;subst o7;obtain⟨wr,Aw⟩:=b9 wr;subst Aw;obtain⟨k,last,V,HK,rfl,rfl,HK1,MA,HO,HG,HX⟩:=hrel;have Fu:(0:Int)<=(k:Int):=by omega
     have b0:=an HG.o;have b1:=al HG.o;by_cases hlt:k<m
     ·have CX:(k:Int)<(m:Int):=by omega
      obtain⟨j,hj⟩:∃j,k=j+1:=⟨k-1,by have:=HK1.o;omega⟩;have HJ:=ae hj;have JO:=ae (show ch (2^q) (K.drop 1) j=.ok (V,last)by have:=MA.o;rwa [show k-1=j by omega]at this);obtain⟨lb',lo',x,e',K6,_⟩:=HS.o.at (k:=k) hlt;simp only[bA,mq,zz]at e';obtain⟨rfl,rfl⟩:=e';have Hx:=dH (HS.o.ext HX.o) K6;have Ib:=ae (show(K.drop 1)[j]?=some x by rw[aaS,show 1+j=k by omega];exact K6);have Z:=ae (fun(w':World)=>M7 (w:=w') (p:=(q:Int)) (a:=J) (n:=G) (cap:=I) last x (by have:=AN.o x (aaf K6);have:=GH.o;omega));have Lm:=ae (fun sv (h:eC G last x=some sv)=>nq h);obtain⟨R,hR⟩:=b9 (eC G last x);have C0:=ae hR;simp only[<-hR]at Z Lm;obtain⟨tx,Eb⟩:=b9 (bs x);rw[<-Eb]at Hx;simp only[<-Eb]at Z;clear K6 hj hR Eb;have k7:Ext wr wr.drew:=Ext.drew wr;have zw:=k7;have k8:=ae (fun(w':World) (h:Ext wr w')=>(⟨h.j9 b0,h.j9 b1,h.j9 Hx,h⟩:w'.cell? ⟨g,0,none⟩=some (.int .i64 (q:Int))/\w'.cell? ⟨g,1,none⟩=some (.slice J G I)/\w'.cell? ⟨Q,lo+k,none⟩=some (.string tx)/\Ext wr w'));go_wp2_with fail
      go_region_held3 (fun w'=>w'.cell? ⟨g,0,none⟩=some (.int .i64 (q:Int))/\w'.cell? ⟨g,1,none⟩=some (.slice J G I)/\w'.cell? ⟨Q,lo+k,none⟩=some (.string tx)/\Ext wr w')
       (with_reducible exact k8.o _ k7)
       (first
         | (go_at_call 38
            (with_reducible refine(Z.o _).mono ?_)
            rintro e w3 ⟨⟨y1,y2,rfl,DH⟩,y8⟩;have k7:Ext wr w3:=k7.trans y8
            have F5:=k7.size)
         | fail)
      clear k8 zw;have A1:=ae DH;have zk:=ae (HX.o.trans k7);have P3:=ae (k7.blk HG.o);have LZ:=ae (HO.o.ext k7);clear b0 b1 Hx k7 DH;cases R with
      | none =>
        have HE:=ae (show P=((0,[]),(k:Int))from LW.o.trans (qN I'.o QG.o.symm (k:=k) (by rw[VX.o];omega) (by
         have:=qB JO.o Ib.o (by rw[<-VE.o];exact C0.o.symm)
         rw[<-HJ.o]at this;exact this)))
        have IG:=ae (zk.o.blk EB.o);have g0:=an IG.o;have g1:=al IG.o;have Zs:=sd w3 _ 0 _ _ IG.o;have Zr:=sd w3 _ 1 _ _ IG.o;go_wp2_with fail;refine bR (v:=.tuple #[pair 0 none 0 0,.int .i64 (k:Int)]) (by simp[results,acf,go_sem,pair,g0,g1]) rfl ⟨D1.o _ _ HE.o,((Cd.o.trans zk.o).store 0 (ao _) _).store 1 (ao _) _⟩
      | some sv =>
        obtain⟨s,v⟩:=sv;obtain⟨rfl,rfl⟩:=A1.o _ rfl;obtain⟨s1,s2,s3,s4⟩:=Lm.o _ rfl;simp only at s1 s2 s3 s4;have DR:(0:Int)<=(s:Int):=by omega
        have Ob:(s:Int)<(G:Int):=by omega
        have HN:=ae (show ch (2^q) (K.drop 1) (j+1)=.ok (V.set s y2,(s:Int))from oL JO.o Ib.o (by rw[<-VE.o];exact C0.o.symm));obtain⟨gb,A4,B2,Oy,I1⟩:=LZ.o.block (show s<G by omega);have hne:=au LZ.o P3.o (by decide);subst A4;have VS:=ae (LZ.o.set s y2);have L7:=ae (show(w3.setCell ⟨gb,s,none⟩ (.int .i64 y2)).heap[g]?=_ from(bB w3 ⟨gb,s,none⟩ g _ (fun e=>hne (by rw[show g=gb from e];rfl))).trans P3.o);have HXS:=ae (zk.o.store s B2 (.int .i64 y2));have H5:=Oy s;have b1:=al P3.o;obtain⟨gb',go',e',hcs⟩:=LZ.o.ints.at (show s<G by omega);simp only[bA,mq,zz]at e';obtain⟨rfl,rfl⟩:=e';rw[Mf]at hcs;clear hne Oy I1 s1 s2 s3 s4;go_wp2_with fail
        go_roundg (g1-1)
        case measure=>have:=HK.o;omega
        case rel=>exact⟨k+1,(s:Int),V.set s y2,ae (j1 HK.o),rfl,by go_num,ae e7,ae (by rw[ac2,HJ.o];exact HN.o),VS,L7,HXS⟩
     ·have Cr:k=m:=by have:=HK.o;omega
      have JO:=ae (show ch (2^q) (K.drop 1) (K.length-1)=.ok (V,last)by rw[VX.o,<-Cr];exact MA.o);have PM:=ae (LW.o.trans (qM I'.o QG.o.symm JO.o));have Eg:=ae (lu JO.o);have FH:=ae (jg (p:=q) HO.o.ints (fun k=>by have:=Eg.o.2.2.1 k;omega))
      have Qt:=ae (show((bs (cY q V)).toList == tt.toList)=decide (cY q V=t)by
       rw[H7.o,bW,bW,U9,beq_iff_eq,sw])
      obtain⟨tg,SU⟩:=b9 (bs (cY q V));rw[<-SU]at FH Qt;have CX:¬(k:Int)<(m:Int):=by omega
      clear Cr SU;go_wp2_with fail;refine FH.o.mono ?_;rintro e w4 ⟨rfl,hx⟩;have Bk:=ae (HX.o.trans hx);have Lk:=ae (hx.blk HG.o);have Ar:=ae (HO.o.ext hx);have Dj:=ae (Bk.o.blk EB.o);have g0:=an Dj.o;have g1:=al Dj.o;have Zs:=sd w4 _ 0 _ _ Dj.o;have Zr:=sd w4 _ 1 _ _ Dj.o;clear hx b0 b1;have b0:=an Lk.o;have b1:=al Lk.o;by_cases CQ:cY q V=t
      ·have N9:(tg.toList == tt.toList)=true:=by rw[Qt.o,z' CQ]
       have HE:=ae (show P=((q,V),-1)by rw[PM.o];exact hI CQ);clear CQ;go_wp2_with fail;refine bR (v:=.tuple #[pair (q:Int) J G I,.int .i64 (-1)]) (by simp[results,acf,go_sem,pair,g0,g1]) rfl ⟨⟨J,G,I,by rw[HE.o],?_⟩,((Cd.o.trans Bk.o).store 0 (ao _) _).store 1 (ao _) _⟩;rw[HE.o];refine(Ar.o.mono (Nat.le_of_lt LM.o)).keep fun j hj=>?_
       have h1:=(Ar.o.lt j hj).1;have h2:=LM.o;rw[bB _ _ _ _ (by simp;omega),bB _ _ _ _ (by simp;omega)]
      ·have N9:(tg.toList == tt.toList)=false:=by rw[Qt.o,u' CQ]
       have HE:=ae (show P=((0,[]),(m:Int))by rw[PM.o,<-VX.o];exact hD CQ);clear CQ;go_wp2_with fail;refine bR (v:=.tuple #[pair 0 none 0 0,.int .i64 (m:Int)]) (by simp[results,acf,go_sem,pair,g0,g1]) rfl ⟨D1.o _ _ HE.o,((Cd.o.trans Bk.o).store 0 (ao _) _).store 1 (ao _) _⟩
end Go.Proofs.YtdadoignenffgaaGreatDoor
namespace Go.Proofs.YtdadoignenffgaaGreatDoor
set_option maxHeartbeats 16000000
set_option maxRecDepth 100000
open Go.RowKit
theorem BU.bare{α:Type}{E:Enc α}{l:List α}(h:l.length=0)(w:World)(a:j6)(n:Nat):BU E w a 0 0 l :=
 ⟨h,ao _,by omega,fun k hk=>absurd hk e7⟩
theorem uF {w : World} (t : List UInt8) (ht : t.length <= 1048576) (htab : Lib.TabIs Tryz.prog w "internal/strconv.uint64pow10" .u64 Lib.pow10Tab) : Calls Tryz.prog 22 #[.string (bs t)] w fun e w' => nX w w' e (di t) /\ Ext w w' := by
 obtain⟨W,hW⟩:=b9 (w.alloc (.cells #[.int .i64 0,.slice none 0 0] 32));have XW:=ae (show Ext w W by rw[hW];exact Ext.alloc _ _);have zf:=ae htab;have Ai:=ae (show W.heap.size=w.heap.size+1 by rw[hW];simp);have HR:=ae (show W.heap[w.heap.size]?=some (.cells #[.int .i64 0,.slice none 0 0] 32 (0,0))by rw[hW];exact ai _ _ _ rfl);have Hj:=ae (mC (w:=W) t 10 e7);have LW:=ae (jF t);have AN:=ae (fun x (h:x∈dG t)=>qD h);obtain⟨L,hL⟩:∃L,Aa 10 t=L:=⟨_,rfl⟩;have BE:=ae (fun u x=>qC hL (u:=u) (x:=x));have FG:=ae (show 1<=L.length/\L.length<=1048577 by rw[<-hL];exact⟨nQ _ _,by have:=lF 10 t;omega⟩);rw[hL]at Hj;obtain⟨P,hP⟩:=b9 (di t);rw[<-hP]at LW;rw[<-hP];obtain⟨Ls,Vc⟩:=b9 (dG t);rw[<-Vc]at LW AN;simp only[<-Vc]at BE;obtain⟨tt,G5⟩:=b9 (bs t);have H7:=ae G5;rw[<-G5]at Hj;rw[<-G5];have GH:=ae ht;have D1:b7 (∀(w':World) (k:Int),P=((0,[]),k)->nX w w' (.returned (.tuple #[pair 0 none 0 0,.int .i64 k])) P):=ae (fun w' k h=>by rw[h];exact⟨none,0,0,rfl,o4.nil _ _⟩);clear hP Vc G5 ht hL htab;go_enter Tryz.func22,Tryz.ntmps22
 go_upto_region 1 with fail;rw[<-hW];clear hW;go_wp2_with fail;refine Hj.o.mono ?_;rintro e w1 ⟨v,rfl,ho,hx⟩;obtain⟨a1,n1,c1,rfl,ED⟩:=ho.var;obtain⟨u,rfl⟩:∃u,n1=u+1:=⟨n1-1,by have:=ED.o;have:=FG.o;omega⟩;have CE:=ae ho.Ej;have X1:=ae hx;have OM:=CE.o.l8;have Ou:=CE.o.l9;have Wl:u<=1048576:=by have:=ED.o;have:=FG.o;omega
 have Cd:=ae (XW.o.trans hx);have EB:=ae (hx.blk HR.o);obtain⟨lb,lo,xl,rfl,Vb,Qn⟩:=CE.o.at (k:=u) e7;have Jv:w1.cell? ⟨lb,lo+u,none⟩=some (.string (bs xl)):=dH CE.o Vb;have P8:=ae (BE.o u xl ED.o Vb);have GY:((u+1:Nat):Int)-1=(u:Int):=by omega
 obtain⟨tl,SS⟩:=b9 (bs xl);have HTS:=ae (kz SS);rw[<-SS]at Jv;clear ho hx Qn Vb SS
 go_upto_if 24 with fail
 rw[HTS.o];obtain⟨bE,U2⟩:=b9 (decide (xl=[]));rw[<-U2];have Je:=ae U2;clear U2
 go_cut [4] (fun s4 wx=>∃(m:Nat),s4=.slice (some ⟨lb,lo,none⟩) m c1/\b7 (BU zH w1 (some ⟨lb,lo,none⟩) m c1 Ls)/\b7 (m<=u+1)/\b7 (w1=wx))
 case first =>
  cases bE with
  | true =>
    have HM:=ae (show BU zH w1 (some ⟨lb,lo,none⟩) u c1 Ls by rw[P8.o,hI (EE Je.o.symm)];exact CE.o.take e7);go_wp2_with fail;go_meet;exact⟨u,rfl,HM,ae e7,ae rfl⟩
  | false =>
    have HM:=ae (show BU zH w1 (some ⟨lb,lo,none⟩) (u+1) c1 Ls by rw[P8.o,hD (ab6 Je.o.symm)];exact CE.o);go_wp2_with fail;go_meet;exact⟨u+1,rfl,HM,ae e7,ae rfl⟩
 obtain⟨m,rfl,HS,HMU,Tp⟩:=hcut;obtain rfl:=Tp.o;have hmu:=HMU.o;have S9:=HS.o.l8;have VX:=ae HS.o.hlen;clear Tp Jv HMU GY;obtain⟨r0,r1⟩:=JH (an EB.o) (al EB.o);have f0:=sd w1 _ 0 _ _ EB.o;have f1:=sd w1 _ 1 _ _ EB.o;by_cases F9:m=0
 ·subst F9;have HE:=ae (LW.o.trans (mH (Lj VX.o)));go_wp2_with fail;refine bR (v:=.tuple #[pair 0 none 0 0,.int .i64 0]) (by simp[results,abO,go_sem,pair,r0,r1]) rfl ⟨D1.o _ _ HE.o,(Cd.o.store 0 (ao _) _).store 1 (ao _) _⟩
 ·obtain⟨m',rfl⟩:∃m',m=m'+1:=⟨m-1,by omega⟩;obtain⟨c',rfl⟩:∃c',c1=c'+1:=⟨c1-1,by omega⟩;have F8:(((m'+1:Nat):Int) == 0)=false:=by simp;omega
  have K0:(0:Int)<((m'+1:Nat):Int):=by omega
  obtain⟨lb',lo',x0,e',K8,_⟩:=HS.o.at (k:=0) e7;simp only[bA,mq,zz]at e';obtain⟨rfl,rfl⟩:=e';have q0:=dH HS.o K8;rw[ab3]at q0;have I':=ae K8;have HF:=ae (rF (w:=w1) x0);obtain⟨F,hF⟩:=b9 (dq x0);have QG:=ae hF;have IQ:=ae (show∀n,F=some n->1<=n/\n<=5 by rw[hF];exact fun n h=>kU h);rw[<-hF]at HF;clear hF K8;go_wp2_with fail;refine HF.o.mono ?_;rintro e w2 ⟨⟨n0,rfl,Ip⟩,KW⟩;obtain rfl:=KW.symm;clear KW;cases F with
  | none =>
    have HE:=ae (LW.o.trans (oP I'.o QG.o.symm));clear Ip;go_wp2_with fail;refine bR (v:=.tuple #[pair 0 none 0 0,.int .i64 0]) (by simp[results,abO,go_sem,pair,r0,r1]) rfl ⟨D1.o _ _ HE.o,(Cd.o.store 0 (ao _) _).store 1 (ao _) _⟩
  | some n1 =>
    obtain⟨B1,C6⟩:=IQ.o n1 rfl;obtain rfl:=Ip n1 rfl;obtain⟨q,rfl⟩:∃q:Nat,n0=q:=⟨n0.toNat,by omega⟩;clear Ip;have EX:q<=5:=by omega
    have NY:IntKind.i64.wrap ((2:Int)^q)=(cN q:Int):=by
     have:=bP q EX;rw[<-iP,cn];omega
    have Uf:wrap64 ((2:Int)^q)=(cN q:Int):=(kC q EX).trans (iP q).symm;have Ly:=gh (cN q) (j1 (bP q EX));obtain⟨vn,hvn⟩:=b9 (cN q);have VE:=ae (show vn=2^q from hvn);have HVM:=ae (show 1<=vn/\vn<=32 by rw[hvn];exact bP q EX);rw[<-hvn]at NY Uf Ly;clear hvn r0 r1 f0 f1 q0;obtain⟨W2,EM⟩:=b9 (w1.alloc (.cells (be (List.replicate vn 0)) 3));have X2:=ae (show Ext w1 W2 by rw[EM];exact Ext.alloc _ _)
    have As:=ae (show o4 W2 w1.heap.size (.slice (some ⟨w1.heap.size,0,none⟩) vn vn) (List.replicate vn 0)by
     rw[EM];exact Row.own (ai _ _ _ rfl) (ao _) e8 (j1 HVM.o))
    obtain⟨W3,LF⟩:=b9 (W2.alloc (.cells #[.int .i64 (q:Int),.slice (some ⟨w1.heap.size,0,none⟩) vn vn] 32));have X3:=ae (show Ext W2 W3 by rw[LF];exact Ext.alloc _ _);have KN:=ae (show W3.heap[w1.heap.size+1]?=some (.cells #[.int .i64 (q:Int),.slice (some ⟨w1.heap.size,0,none⟩) vn vn] 32 (0,0))by rw[LF];exact ai _ _ _ (by rw[EM];simp));have zi:=ae (As.o.ext X3.o);have LM:=ae (show w.heap.size<w1.heap.size from mr EB.o);have HSD1:=ae HS.o.drop1;have LQ:=ae (show w1.heap.size+1=w1.heap.size+1 from rfl);go_upto_region 10 with fail;rw[<-EM,<-LF];clear EM LF NY Uf Ly;have VY:=ae (show Ls.length=m'+1 from VX.o);obtain⟨g,hg⟩:=b9 (w1.heap.size+1);obtain⟨va,Uh⟩:=b9 ((some ⟨w1.heap.size,0,none⟩:j6));rw[<-hg,<-Uh]at KN;rw[<-Uh]at zi;rw[<-hg,<-Uh];clear hg Uh LQ;go_upto_region 11 with fail
    go_cut [50,51,52] (fun s50 s51 s52 wx=>∃(sa:j6) (cd:Nat),s50=.slice sa m' cd/\s51=.int .i64 (m':Int)/\s52=.int .i64 0/\b7 (BU zH w1 sa m' cd (Ls.drop 1))/\b7 (W3=wx))
    case first =>
     by_cases hc:c'=0
     ·have HC:=ae hc;have hcT:(c'=0)=True:=eq_true hc;clear hc;go_wp2_with fail;go_meet
      exact⟨_,_,rfl,by go_num,rfl,ae (by
       obtain rfl:m'=0:=by have:=HC.o;omega
       exact BU.bare (by rw[aaj,VY.o]) _ _ 0),ae rfl⟩
     ·go_wp2_with fail;go_meet;exact⟨_,_,rfl,by go_num,rfl,HSD1,ae rfl⟩
    obtain⟨sa,cd,rfl,rfl,rfl,LR,Tp⟩:=hcut;obtain rfl:=Tp.o;have RP:=LR.o.l8;have Gc:=LR.o.l9;clear Tp;go_wp2_with fail
    go_loopg [8,52] m' (fun gk aa kk wr=>∃(k:Nat) (last:Int) (V:j7),b7 (gk+k=m')/\aa=.int .i64 last/\kk=.int .i64 (k:Int)/\b7 (ch (2^q) (Ls.drop 1) k=.ok (V,last))/\b7 (o4 wr w1.heap.size (.slice va vn vn) V)/\b7 (wr.heap[g]?=some (.cells #[.int .i64 (q:Int),.slice va vn vn] 32 (0,0)))/\b7 (Ext w1 wr))
    case atStart =>
     exact⟨0,0,List.replicate vn 0,ae e7,rfl,rfl,ae (by rw[VE.o];rfl),zi,KN,ae (X2.o.trans X3.o)⟩
    case round =>
     obtain⟨g1,o7⟩:=b9 gk;subst o7;obtain⟨wr,Aw⟩:=b9 wr;subst Aw;obtain⟨k,last,V,HK,rfl,rfl,MA,HO,HG,HX⟩:=hrel;have Fu:(0:Int)<=(k:Int):=by omega
     have hkb:k<=1048577:=by have:=HK.o;omega
     by_cases hlt:k<m'
     ·have CX:(k:Int)<(m':Int):=by omega
      obtain⟨lb2,lo2,x,rfl,K6,_⟩:=LR.o.at (k:=k) hlt;have Hx:=dH (LR.o.ext HX.o) K6;have Ib:=ae K6;have Vw:=ae (AN.o x (List.mem_of_mem_drop (aaf K6)));obtain⟨R,hR⟩:∃R,eC vn last x=R:=⟨_,rfl⟩;have C0:=ae hR
      have TH:=ae (fun(h:R=none)=>(show P=((0,[]),(k:Int)+1)by
       have h0:ch (2^q) (Ls.drop 1) (k+1)=.error (k+1):=qB MA.o Ib.o (by rw[<-VE.o,C0.o];exact h);have h1:=LW.o.trans (qN I'.o QG.o.symm (k:=k+1) (by rw[VY.o];omega) h0)
       rw[h1];simp))
      have HSX:=ae (mC (w:=wr) x 32 (by have:=Vw.o;have:=GH.o;omega));obtain⟨Lx,Te⟩:∃L,Aa 32 x=L:=⟨_,rfl⟩;have EF:=ae (fun y0 y1=>mF (N:=vn) (last:=last) Te (x0:=y0) (x1:=y1));have QA:=ae (mE (N:=vn) (last:=last) Te);have Lm:=ae (fun sv (h:eC vn last x=some sv)=>nq h);rw[Te]at HSX;rw[hR]at EF QA Lm;obtain⟨tx,Eb⟩:=b9 (bs x);rw[<-Eb]at Hx HSX;clear K6 hR Eb Te;go_wp2_with fail;refine HSX.o.mono ?_;rintro e w3 ⟨v3,rfl,Av,zm⟩;obtain⟨a3,n3,c3,rfl,Ia⟩:=Av.var;have Cz:=ae Av.Ej;have zk:=ae (HX.o.trans zm);have P3:=ae (zm.blk HG.o);have LZ:=ae (HO.o.ext zm);have hcap3:=Cz.o.l8;have hmax3:=Cz.o.l9;clear Av zm Hx;by_cases IZ:n3=2
      ·subst IZ;obtain⟨b3,o3,y0,rfl,BG,_⟩:=Cz.o.at (k:=0) e7;obtain⟨b3',o3',y1,e',An,_⟩:=Cz.o.at (k:=1) e7;simp only[bA,mq,zz]at e';obtain⟨rfl,rfl⟩:=e';have q0:=dH Cz.o BG;rw[ab3]at q0;have PK:=ae (dH Cz.o An);have Ac:=ae (EF.o y0 y1 Ia.o BG An);have II:=ae (fun(w':World)=>nk (w:=w') y0);have VN:=ae (fun(w':World)=>wv (w:=w') y1);obtain⟨b1,AS⟩:=b9 ((CK y0).isSome);obtain⟨b2,AD⟩:=b9 ((dS y1).isSome);obtain⟨s,hs⟩:=b9 ((CK y0).getD 0);obtain⟨v,hv⟩:=b9 ((dS y1).getD 0);rw[<-AS,<-AD,<-hs,<-hv]at Ac;simp only[<-AS,<-hs]at II;simp only[<-AD,<-hv]at VN;obtain⟨t0,F3⟩:=b9 (bs y0);obtain⟨t1,Gy⟩:=b9 (bs y1);rw[<-F3]at q0;rw[<-Gy]at PK;simp only[<-F3]at II;simp only[<-Gy]at VN;clear AS AD hs hv BG An F3 Gy;go_wp2_with fail;refine(II.o _).mono ?_;rintro e w4 ⟨rfl,zX⟩;have Bk:=ae (zk.o.trans zX);have Lk:=ae (zX.blk P3.o);have Ar:=ae (LZ.o.ext zX);have Dj:=ae (Bk.o.blk EB.o);have q1':=zX.j9 PK.o;clear zX q0;go_wp2_with fail;refine(VN.o _).mono ?_;rintro e w5 ⟨rfl,KW⟩;obtain rfl:=KW.symm;clear KW q1';have b0:=an Lk.o;have b1':=al Lk.o;have z0:=an Dj.o;have z1:=al Dj.o
       have zf0:=sd w4 _ 0 _ _ Dj.o;have zf1:=sd w4 _ 1 _ _ Dj.o;have key:=qA b1 b2 s v last vn
       rcases key with⟨rfl,HZ⟩|⟨rfl,rfl,HZ⟩|⟨rfl,rfl,h3,HZ⟩|⟨rfl,rfl,h3,h4,HZ⟩|⟨rfl,rfl,h3,h4,h5,HZ⟩|⟨rfl,rfl,h3,h4,h5,h6,HZ⟩|⟨rfl,rfl,h3,h4,h5,h6,HZ⟩
       rotate_right
       ·rw[HZ,hI rfl]at Ac;have hRs:=Ac.o;subst hRs;obtain⟨s1,s2,s3,s4⟩:=Lm.o _ rfl;simp only at s1 s2 s3 s4;have DR:(0:Int)<=(s:Int):=by omega
        have h3':¬(s:Int)<=last:=by omega
        have h4':¬(vn:Int)<=(s:Int):=by omega
        have HN:=ae (show ch (2^q) (Ls.drop 1) (k+1)=.ok (V.set s v,(s:Int))from oL MA.o Ib.o (by rw[<-VE.o];exact C0.o));obtain⟨gb,A4,B2,Oy,I1⟩:=Ar.o.block (show s<vn by omega);have hne:=au Ar.o Lk.o (by decide);subst A4;have VS:=ae (Ar.o.set s v);have L7:=ae (show(w4.setCell ⟨gb,s,none⟩ (.int .i64 v)).heap[g]?=_ from(bB w4 ⟨gb,s,none⟩ g _ (fun e=>hne (by rw[show g=gb from e];rfl))).trans Lk.o);have HXS:=ae (Bk.o.store s B2 (.int .i64 v));have H5:=Oy s;obtain⟨gb',go',e',hcs⟩:=Ar.o.ints.at (show s<vn by omega);simp only[bA,mq,zz]at e';obtain⟨rfl,rfl⟩:=e';rw[Mf]at hcs;clear hne Oy I1 s1 s2 s3 s4 HZ z0 z1 zf0 zf1 b0;go_wp2_with (first|(go_at_call 61;refine(aq _ _ _ _).mono ?_;rintro e w6 ⟨rfl,rfl⟩))
        go_roundg (g1-1)
        case measure=>have:=HK.o;omega
        case rel=>exact⟨k+1,(s:Int),V.set s v,ae (j1 HK.o),rfl,by go_num,HN,VS,L7,HXS⟩
       all_goals
        rw[HZ,hD (by decide)]at Ac;clear HZ;have HE:=ae (TH.o Ac.o)
        try have h3':(s:Int)<=last:=by omega
        try have h3':¬(s:Int)<=last:=by omega
        try have h4':(vn:Int)<=(s:Int):=by omega
        try have h4':¬(vn:Int)<=(s:Int):=by omega
        go_wp2_with (first|(go_at_call 61;refine(aq _ _ _ _).mono ?_;rintro e w6 ⟨rfl,rfl⟩));refine bR (v:=.tuple #[pair 0 none 0 0,.int .i64 ((k:Int)+1)]) (by simp[results,abO,go_sem,pair,z0,z1]) rfl ⟨D1.o _ _ HE.o,((Cd.o.trans Bk.o).store 0 (ao _) _).store 1 (ao _) _⟩
      ·have hne:((n3:Int) == 2)=false:=by simp;omega
       have HE:=ae (TH.o (QA.o (by rw[Ia.o];exact IZ)));have IG:=ae (zk.o.blk EB.o);have z0:=an IG.o;have z1:=al IG.o;have zf0:=sd w3 _ 0 _ _ IG.o;have zf1:=sd w3 _ 1 _ _ IG.o;go_wp2_with fail;refine bR (v:=.tuple #[pair 0 none 0 0,.int .i64 ((k:Int)+1)]) (by simp[results,abO,go_sem,pair,z0,z1]) rfl ⟨D1.o _ _ HE.o,((Cd.o.trans zk.o).store 0 (ao _) _).store 1 (ao _) _⟩
     ·have Cr:k=m':=by have:=HK.o;omega
      have JO:=ae (show ch (2^q) (Ls.drop 1) (Ls.length-1)=.ok (V,last)by rw[VY.o,ac2,<-Cr];exact MA.o);have PM:=ae (LW.o.trans (qM I'.o QG.o.symm JO.o));have Eg:=ae (lu JO.o);have FH:=ae (lg (p:=q) HO.o.ints (fun k=>by have:=Eg.o.2.2.1 k;omega) (ec zf.o (Cd.o.trans HX.o)))
      have Qt:=ae (show((bs (cY q V)).toList == tt.toList)=decide (cY q V=t)by
       rw[H7.o,bW,bW,U9,beq_iff_eq,sw])
      obtain⟨tg,SU⟩:=b9 (bs (cY q V));rw[<-SU]at FH Qt;have CX:¬(k:Int)<(m':Int):=by omega
      have b0:=an HG.o;have b1:=al HG.o;clear Cr SU;go_wp2_with fail;refine FH.o.mono ?_;rintro e w4 ⟨rfl,hx⟩;have Bk:=ae (HX.o.trans hx);have Lk:=ae (hx.blk HG.o);have Ar:=ae (HO.o.ext hx);clear hx b0 b1;have b0:=an Lk.o;have b1:=al Lk.o;by_cases CQ:cY q V=t
      ·have N9:(tg.toList == tt.toList)=true:=by rw[Qt.o,z' CQ]
       have HE:=ae (show P=((q,V),-1)by rw[PM.o];exact hI CQ);have CV:=ae (iy Ar.o.ints (j1 HVM.o));clear CQ;go_wp2_with fail;refine CV.o.mono ?_;rintro e w5 ⟨vc,rfl,Rx,hx⟩;have D0:=ae (Bk.o.trans hx);have I7:=ae (D0.o.blk EB.o);have z0:=an I7.o;have z1:=al I7.o;have zf0:=sd w5 _ 0 _ _ I7.o;have zf1:=sd w5 _ 1 _ _ I7.o;obtain⟨ac,nc,cc,rfl,HNC⟩:=Rx.var;have Fk:=ae Rx;have hz4:=Bk.o.size;clear Rx hx;go_wp2_with fail;refine bR (v:=.tuple #[pair (q:Int) ac nc cc,.int .i64 (-1)]) (by simp[results,abO,go_sem,pair,z0,z1]) rfl ⟨⟨ac,nc,cc,by rw[HE.o],?_⟩,((Cd.o.trans D0.o).store 0 (ao _) _).store 1 (ao _) _⟩;rw[HE.o];have h2:=LM.o;refine(Fk.o.mono e7).keep fun j hj=>?_
       have h1:=(Fk.o.lt j hj).1;rw[bB _ _ _ _ (by simp;omega),bB _ _ _ _ (by simp;omega)]
      ·have N9:(tg.toList == tt.toList)=false:=by rw[Qt.o,u' CQ]
       have HE:=ae (show P=((0,[]),((m'+1:Nat):Int))by rw[PM.o,<-VY.o];exact hD CQ);have Dj:=ae (Bk.o.blk EB.o);have z0:=an Dj.o;have z1:=al Dj.o;have zf0:=sd w4 _ 0 _ _ Dj.o;have zf1:=sd w4 _ 1 _ _ Dj.o;clear CQ;go_wp2_with fail;refine bR (v:=.tuple #[pair 0 none 0 0,.int .i64 ((m'+1:Nat):Int)]) (by simp[results,abO,go_sem,pair,z0,z1]) rfl ⟨D1.o _ _ HE.o,((Cd.o.trans Bk.o).store 0 (ao _) _).store 1 (ao _) _⟩
