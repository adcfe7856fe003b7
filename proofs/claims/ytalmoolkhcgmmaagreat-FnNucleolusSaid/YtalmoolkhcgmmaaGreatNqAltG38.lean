import Derived.Test.YtalmoolkhcgmmaaGreatNqAltG43
import Derived.Test.YtalmoolkhcgmmaaGreatNqAltG5
import Derived.StillTailTactics
import Derived.Test.YtalmoolkhcgmmaaGreatNqAltG4
import Derived.Test.YtalmoolkhcgmmaaGreatNqAltG14
set_option linter.unusedVariables false
set_option linter.unusedSimpArgs false
namespace Go.Proofs.YtalmoolkhcgmmaaGreat
variable{w:World}{a:j8}{n c:Nat}
set_option maxHeartbeats 16000000
set_option maxRecDepth 100000
open Go.RowKit
def Sn(P:Program)(w:World)(fid:FuncId)(ca:Array Value)(Q:j9->Prop)(p:j9->Bool):Prop :=
 ∀(l:j9) (a:j8) (n c:Nat) (w1:World),Ext w w1->Ints w1 a n c l->Q l->Calls P fid (#[.slice a n c]++ca) w1 fun e w2=>e=.returned (.bool (p l))/\Ext w1 w2
theorem lO{cap:Nat}{L:j7}{G:FuncId}{ca:Array Value}{Q:j9->Prop}{p:j9->Bool}(h:et w a n cap L)(hg:IsGo Tryz.prog G)(hf:Sn Tryz.prog w G ca Q p)(I:∀k,k<n->Q (L[k]?.getD [])):
 Calls Tryz.prog 53 #[.slice a n cap,.func (.func G) #[] ca] w fun e w'=>e=.returned (.int .i64 (bU p L))/\Ext w w':=by
 have hn:=h.o3;have hm:=h.l9;have HQ:=ae I;clear I;have XI:∀(args:Array Value) (w:World),(callFunc G args).run Tryz.prog w=.ok (.enter G args) w:=hg;go_enter Tryz.func53,Tryz.ntmps53
 go_wp2
 go_loopw [8] (fun i wr=>∃k:Nat,k<=n/\i=.int .i64 k/\b7 ((L.take k).all (fun x=>!p x)=true)/\Ext w wr) (fun i _=>n-(intOf i).toNat)
 case atStart=>exact⟨0,Nat.zero_le _,rfl,ae rfl,Ext.refl _⟩
 case round =>
  obtain⟨k,hk,rfl,HA,hx⟩:=hrel;by_cases hlt:k<n
  ·obtain⟨b,off,O,J,K,rfl,hc,hr⟩:=(h.ext hx).at hlt;have HL:=ae h.hlen;have HF:=ae (hf (L[k]?.getD []) O J K wr hx hr (HQ.o k hlt));clear hr;by_cases hb:p (L[k]?.getD [])=true
   ·have HB:=ae hb;go_wp2_with fail;refine HF.o.mono ?_;rintro e w2 ⟨rfl,xg⟩
    go_wp2
    go_ret;exact⟨aU (fh (j4 HL.o) HA.o HB.o).symm,hx.trans (by assumption)⟩
   ·have HB:=ae hb;simp only[Bool.not_eq_true]at hb;go_wp2_with fail;refine HF.o.mono ?_;rintro e w2 ⟨rfl,xg⟩
    go_wp2
    go_roundw
    case rel=>exact⟨k+1,by omega,by go_num,ae (by rw[fz (j4 HL.o),List.all_append,HA.o];simpa using HB.o),hx.trans (by assumption)⟩
    case measure=>simp[intOf];omega
  ·have HL:=ae h.hlen
   go_wp2
   go_ret;refine⟨aU ?_,hx⟩;have:=HA.o;rw[List.take_of_length_le (j4 HL.o)]at this;exact(dZ this).symm
theorem vk{bc cap:Nat}{l:j9}(hb:w.cell? ⟨bc,0,none⟩=some (.int .i64 (c:Int)))(h:Ints w a n cap l)(hc:c<n):
 Calls Tryz.prog 54 #[.slice a n cap,.pointer (some ⟨bc,0,none⟩)] w fun e w'=>e=.returned (.bool (l[c]?.getD 0 != 0))/\w=w':=by
 obtain⟨b,off,rfl,hcc⟩:=h.at hc;have l9:=h.l9;have o3:=h.o3;clear h;go_enter Tryz.func54,Tryz.ntmps54
 go_wp2
 go_ret;exact⟨rfl,rfl⟩
theorem tY:IsGo Tryz.prog 54:=isGo Tryz.func54 e8 e8
theorem pV{bc:Nat}(hb:w.cell? ⟨bc,0,none⟩=some (.int .i64 (c:Int)))(hc:c<n):
 Sn Tryz.prog w 54 #[.pointer (some ⟨bc,0,none⟩)] (fun l=>l.length=n) (fun r=>r[c]?.getD 0 != 0):=by
 intro l a m cp w1 hx hi hq;have hm:m=n:=by rw[<-hi.hlen];exact hq
 exact(vk (hx.k6 hb) hi b9).mono fun e w2 ⟨he,hw⟩=>⟨he,hw▸Ext.refl _⟩
theorem Pz{M:j7}{d:Nat}(hd:d<=M.length):bU (fun r:j9=>r[c]?.getD 0 != 0) (M.drop d)=if ym M c d<M.length then((ym M c d-d:Nat):Int) else -1:=by
 unfold bU ym;cases hf:(M.drop d).findIdx? (fun r=>r[c]?.getD 0 != 0)with
 | none=>simp
 | some k =>
   rw[List.findIdx?_eq_some_iff_getElem]at hf;obtain⟨h1,_⟩:=hf;rw[List.length_drop]at h1;simp only;rw[if_pos b9]
   congr 1
   omega
theorem M5{B:Int}:∀(l:j9) (g:Int),0<=g->g<=B->(∀x∈l,-B<=x/\x<=B)->0<=l.foldl gI g/\l.foldl gI g<=B
 | [],g,h0,h1,_=>⟨h0,h1⟩
 | x::l,g,h0,h1,h=>by
   have hx:=h x e7;have h2:gI g x<=B:=by
    by_cases hz:x=0
    ·subst hz;rw[nQ];omega
    ·have:=I8 g hz;omega
   exact M5 l (gI g x) (oK g x) h2 fun y hy=>h y (by simp[hy])
theorem Ni(n:Nat)(s:Int){b:Bool}(h:xt s (n:Int)=b):y8 n s++[wL b]=y8 (n+1) s:=by rw[<-h];exact oB n s
theorem LY{n:Int}{m cap:Nat}{l:j9}(h:Ints w a m cap l)(hl:∀k:Nat,l[k]?.getD 0<=9223372036854775807)(hm:m<=1048576):
 Calls Tryz.prog 20 #[.int .i64 n,.slice a m cap] w fun e w'=>e=.returned (.int .i64 (fe n l))/\Ext w w':=by
 have MQ:=h.o3;have MR:=h.l9;have HL:=ae h.hlen;have HI:=ae h;have y4:=ae hl;clear h hl;cases xR:wJ n 1 5
 ·have HN:=ae (show fe n l=0 by unfold fe;rw[xR];rfl);have HW:=ae (aK n 1 5 w);rw[xR]at HW;clear xR;go_enter Tryz.func20,Tryz.ntmps20
  go_wp2_with fail;refine HW.o.mono ?_;rintro e w1 ⟨rfl,rfl⟩;go_wp2_with fail;go_ret;exact⟨aU HN.o.symm,Ext.refl _⟩
 ·obtain⟨J,rfl⟩:∃k:Nat,n=k:=⟨n.toNat,by simp only[wJ,Bool.and_eq_true,decide_eq_true_eq]at xR;omega⟩;have h15:1<=J/\J<=5:=by simp only[wJ,Bool.and_eq_true,decide_eq_true_eq]at xR;omega
  obtain⟨h1,h5⟩:=h15;have HN:=ae (show fe (J:Int) l=((runM bT (l.map (y8 J)) J).2:Int)by unfold fe;rw[if_pos xR];rfl);have HW:=ae (aK J 1 5 w);rw[xR]at HW;have HO:=ae (xe.yG w w.heap.size _ rfl (Nat.le_refl _));clear xR;go_enter Tryz.func20,Tryz.ntmps20
  go_wp2_with fail;refine HW.o.mono ?_;rintro e w1 ⟨rfl,rfl⟩;go_wp2_with fail
  go_loopg [5,27] m (fun gk out i wr=>∃(k G n1 p1:Nat) (vs:List Value),b7 (gk+k=m)/\i=.int .i64 (k:Int)/\out=.slice (some ⟨G,0,none⟩) n1 p1/\b7 (xe wr w.heap.size (.slice (some ⟨G,0,none⟩) n1 p1) vs)/\b7 (bC wr w.heap.size vs ((l.take k).map (y8 J)))/\b7 (Ext w wr)/\b7 (w.heap.size<=G))
  case atStart=>exact⟨0,_,_,_,[],ae b9,rfl,rfl,HO,ae (bC.nil _ _),ae (Ext.alloc _ _),ae (Nat.le_refl _)⟩
  case round =>
   obtain⟨g1,r7⟩:=b8 gk;subst r7;obtain⟨o7,o6⟩:=b8 wr;subst o6;obtain⟨k,G,n1,p1,vs,HK,rfl,rfl,HV,HR,HX,HGW⟩:=hrel;have hsz:=HX.o.size;by_cases hlt:k<m
   ·obtain⟨b,off,ha,B0⟩:=(HI.o.ext HX.o).at hlt;subst ha;obtain⟨s,hs⟩:=b8 (l[k]?.getD 0);rw[<-hs]at B0;have HS:=ae hs;have F3:s<=9223372036854775807:=by rw[hs];exact y4.o k
    have yE:=ae (o8.yG o7 o7.heap.size _ rfl (Nat.le_refl _));have EI:=ae (show vs.length=k by rw[HR.o.len,List.length_map,List.length_take];have:=HL.o;omega);clear hs;go_wp2_with fail
    go_loopg [8,33] J (fun gk row i wr=>∃(j:Nat) (a2:j8) (n2 p2:Nat),b7 (gk+j=J)/\i=.int .i64 (j:Int)/\row=.slice a2 n2 p2/\b7 (o8 wr o7.heap.size (.slice a2 n2 p2) (y8 j s))/\b7 (Ext o7 wr))
    case atStart=>exact⟨0,_,_,_,ae b9,rfl,rfl,yE,ae (Ext.alloc _ _)⟩
    case round =>
     obtain⟨g2,xK⟩:=b8 gk;subst xK;obtain⟨wr2,wT⟩:=b8 wr;subst wT;obtain⟨j,a2,n2,p2,HJ,rfl,rfl,xp,xj⟩:=hrel;have D3:=xj.o.size;by_cases Ah:j<J
     ·have QM:=ae (ir j s);have QO:=ae (gQ s (j:Int) wr2 F3);cases J9:xt s (j:Int)
      all_goals
       rw[J9]at QO;have VA:=ae (Ni j s J9);clear J9;go_wp2_with fail;refine QO.o.mono ?_;rintro e w' ⟨rfl,rfl⟩
      ·go_wp2_with (first
        | (at_builtin;refine bm rfl _ _ rfl o7.heap.size (.slice a2 n2 p2) _ rfl (xp.o.ext (Ext.alloc _ _)) _ 1 _ [0] rfl (Ints.Ad _ _ _ _ e7) (by rw[QM.o];omega) (by simp;omega) ?_;intro v5 w5 ho hg l7;obtain⟨a5,n5,p5,rfl,A9⟩:=ho.var;have xL:=ae ho;have X5:=ae (al (xj.o.trans (Ext.alloc _ _)) hg (fun j hj=>(xp.o.lt j hj).1));clear ho hg l7))
       go_roundg (g2-1)
       case measure=>have:=HJ.o;omega
       case rel=>exact⟨j+1,a5,n5,p5,ae (j4 HJ.o),by go_num,rfl,ae (by rw[<-VA.o];exact xL.o),X5⟩
      ·go_wp2_with (first
        | (at_builtin;refine bm rfl _ _ rfl o7.heap.size (.slice a2 n2 p2) _ rfl (xp.o.ext (Ext.alloc _ _)) _ 1 _ [1] rfl (Ints.Ad _ _ _ _ e7) (by rw[QM.o];omega) (by simp;omega) ?_;intro v5 w5 ho hg l7;obtain⟨a5,n5,p5,rfl,A9⟩:=ho.var;have xL:=ae ho;have X5:=ae (al (xj.o.trans (Ext.alloc _ _)) hg (fun j hj=>(xp.o.lt j hj).1));clear ho hg l7))
       go_roundg (g2-1)
       case measure=>have:=HJ.o;omega
       case rel=>exact⟨j+1,a5,n5,p5,ae (j4 HJ.o),by go_num,rfl,ae (by rw[<-VA.o];exact xL.o),X5⟩
     ·have Gz:j=J:=by have:=HJ.o;omega
      subst Gz
      go_wp2_with (first
       | (at_builtin;refine eL rfl _ _ rfl w.heap.size (.slice (some ⟨G,0,none⟩) n1 p1) vs rfl ((HV.o.ext xj.o).ext (Ext.alloc _ _)) _ _ 1 rfl (by simp;rfl) rfl (j4 EI.o) (by simp;omega) ?_;intro v6 w6 ho hg l7;obtain⟨a6,n6,p6,rfl,Jg⟩:=ho.var;obtain⟨G6,rfl,hG6,_⟩:=ho.cell (k:=0) (by rw[<-ho.len];simp);have BU:=ae ho;have Et:=ae (((HR.o.snoc xj.o xp.o hsz).ext (Ext.alloc _ _)).AM ((HV.o.ext xj.o).ext (Ext.alloc _ _)) hg);have X6:=ae (al ((HX.o.trans xj.o).trans (Ext.alloc _ _)) hg (fun j hj=>(HV.o.lt j hj).1));have R':=ae hG6;clear ho hg l7 hG6))
      go_roundg (g1-1)
      case measure=>have:=HK.o;omega
      case rel=>exact⟨k+1,G6,n6,p6,_,ae (j4 HK.o),by go_num,rfl,BU,ae (by rw[cW (j4 HL.o),List.map_append,<-HS.o];exact Et.o),X6,R'⟩
   ·have Bf:k=m:=by have:=HK.o;omega
    subst Bf;have HT:=ae (show l.take k=l from List.take_of_length_le (by rw[HL.o];exact Nat.le_refl _));have Bj:n1=k:=by rw[<-HV.o.len,HR.o.len,HT.o,List.length_map,HL.o]
    subst Bj;have Kt:=ae (show A4 o7 w.heap.size (some ⟨G,0,none⟩) n1 p1 vs (l.map (y8 J))from⟨HV.o,by have:=HR.o;rw[HT.o]at this;exact this⟩);obtain⟨M,hM⟩:=b8 (l.map (y8 J));have HGD0:=ae (show Good J 1 M by rw[hM];exact jz J l);rw[<-hM]at Kt HN;have QL:=ae Kt.o.len;have hcp1:=Kt.o.cap.1;have Xz:=Kt.o.cap.2;have TM:=HGW.o;clear hM;go_wp2_with fail
    go_loopg [11,50] J (fun gk dn cc wr=>∃(c d:Nat) (vs:List Value) (K:j7),b7 (gk+c=J)/\cc=.int .i64 (c:Int)/\dn=.int .i64 (d:Int)/\b7 (runM bT M c=(K,d))/\b7 (A4 wr w.heap.size (some ⟨G,0,none⟩) n1 p1 vs K)/\b7 (Ext w wr))
    case atStart=>exact⟨0,0,vs,M,ae b9,rfl,rfl,ae rfl,Kt,HX⟩
    case round =>
     obtain⟨g3,Dg⟩:=b8 gk;subst Dg;obtain⟨I,A0⟩:=b8 wr;subst A0;obtain⟨c,d,vs,K,Y8,rfl,rfl,QC,HM,xj⟩:=hrel;by_cases EH:c<J
     ·have xq:=io nw HGD0.o c b9;rw[QC.o]at xq;obtain⟨GD,TK,Om,GB⟩:=xq;simp only at GD TK Om GB;have OR:=ae GB;have zD:=ae (show K.length=n1 by rw[TK,QL.o]);rw[QL.o]at Om;obtain⟨P,hP⟩:=b8 (ym K c d);have HP:=ae hP;have Rm:=tm K c (d:=d) (by rw[zD.o];exact Om);rw[<-hP,zD.o]at Rm;obtain⟨hdP,hPN⟩:=Rm;have Wr:=xj.o.size;have Ie:(I.alloc (.cells #[.int .i64 (c:Int)] 3)).cell? ⟨I.heap.size,0,none⟩=some (.int .i64 (c:Int)):=by simp
      have FV:=ae (lO ((HM.o.ext (Ext.alloc I (.cells #[.int .i64 (c:Int)] 3))).Fg.Im Om) tY (pV Ie EH) (by
       intro k hk;rw[List.getElem?_drop]
       exact(OR.o (d+k) (by rw[zD.o];omega)).1))
      rw[Pz (by rw[zD.o];exact Om),<-hP,zD.o]at FV;clear TK GB hP;by_cases DG:P<n1
      ·rw[if_pos DG]at FV;obtain⟨q,hq⟩:=b8 (P-d);rw[<-hq]at FV;have HQ:=ae (show P=d+q by omega);clear hq;have Av:d<n1:=by omega
       rw[if_neg (show¬p1=d by omega)]at FV;go_wp2_with fail
       (with_reducible refine FV.o.mono ?_)
       rintro e w5 ⟨rfl,zh⟩;have Br:=ae zh;have Cp:=ae ((HM.o.ext (Ext.alloc I (.cells #[.int .i64 (c:Int)] 3))).ext zh);have yu:=ae (show w5.heap[I.heap.size]?=some (.cells #[.int .i64 (c:Int)] 3 (0,0))from(zh.block _ e7).trans (heap_alloc_new I _));have XT:=(xj.o.trans (Ext.alloc _ _)).trans zh;have Em:=ae XT;have A8:=zh.size;rw[World.size_alloc]at A8;clear zh XT Ie;obtain⟨gp,cp,W,P9,R,Ro,XN,hgpl,hncp,hcpm⟩:=Cp.o.row DG (OR.o P (by rw[zD.o];exact DG)).1 h1;obtain⟨gd,cd,S0,RB,hod,ZG,CO,hgdl,WW,hcdm⟩:=Cp.o.row Av (OR.o d (by rw[zD.o];exact Av)).1 h1;obtain⟨G',AL,DF,JG,Cw⟩:=Cp.o.outer b9;simp only[Option.some.injEq,Addr.mk.injEq,and_true]at AL;subst AL;have MM:=Cw d;have ML:=Cw P;have B8:=ed (M:=K) (c:=c) (d:=d) (by rw[<-HP.o,zD.o];exact DG);rw[<-HP.o]at B8;have DT:=Cp.o.swap Av DG;rw[W,S0]at DT;obtain⟨u,Fo⟩:=b8 (swp K d P);obtain⟨Z,Gs⟩:=b8 (Hl vs d P);have Jl:=ae (show Good J (G9 d) u by rw[Fo];exact iu OR.o (by rw[zD.o];exact Av) (by rw[zD.o];exact DG));have FU:=ae (show u.length=n1 by rw[Fo,cL,zD.o])
       have Er:=ae (show runM bT M (c+1)=(zG bT c u d n1,d+1)by
        show Ao bT c (runM bT M c)=_;rw[QC.o];unfold Ao;simp only
        rw[<-HP.o,zD.o,if_pos DG,Fo])
       have HVD:=ae (show Z[d]?.getD undef=.slice (some ⟨gp,0,none⟩) J cp by
        rw[Gs,jv (by rw[HM.o.Aj];exact Av) (by rw[HM.o.Aj];exact DG)]
        split
        ·next e=>rw[S0,<-W,<-e,S0]
        ·rw[if_pos rfl,W])
       have NO:=ae (show∀i,i<n1->∃g c',Z[i]?.getD undef=.slice (some ⟨g,0,none⟩) J c'/\g<I.heap.size/\g≠G by
        intro i hi;rw[Gs,jv (by rw[HM.o.Aj];exact Av) (by rw[HM.o.Aj];exact DG)];have key:∀i,i<n1->∃g c',vs[i]?.getD undef=.slice (some ⟨g,0,none⟩) J c'/\g<I.heap.size/\g≠G:=fun i hi=>by
         obtain⟨g,c',k1,_,_,k2,_,k3,_⟩:=HM.o.row hi (OR.o i (by rw[zD.o];exact hi)).1 h1;exact⟨g,c',k1,k3,k2⟩
        split
        ·exact key d Av
        ·split
         ·exact key _ DG
         ·exact key i hi)
       rw[<-Fo,<-Gs]at DT;have Bc:=ae DT;have HGs:=ae (show G<I.heap.size by obtain⟨G',AL,_,h3,_⟩:=HM.o.outer b9;simp only[Option.some.injEq,Addr.mk.injEq,and_true]at AL;omega);have Ce:IntKind.i64.wrap ((d:Int)+(q:Int))=(P:Int):=by have:=HQ.o;rw[IntKind.wrap_i64];omega
       have AK:(d:Int)+(q:Int)=(P:Int):=by have:=HQ.o;omega
       have B7:IntKind.i64.wrap (P:Int)=(P:Int):=by rw[IntKind.wrap_i64];omega
       clear DT B8 R hod W S0 Fo Gs Cw XN CO;by_cases hq0:P=d
       case' pos =>
        have hq00:q=0:=by have:=HQ.o;omega
        have Au:=hq0.symm;subst Au;subst hq00;have yh:=P9.symm.trans RB;simp only[Option.some.injEq,Value.slice.injEq,Addr.mk.injEq,and_true,true_and]at yh;obtain⟨rfl,rfl⟩:=yh;clear RB ML Ce AK;go_wp2_with fail;refine du (M:=[17,19]) (S:=(fun w'=>w'.cell? ⟨G,d,none⟩=some (.slice (some ⟨gp,0,none⟩) J cp)/\True)) e8 ?_;have k9:=(show(fun w':World=>w'.cell? ⟨G,d,none⟩=some (.slice (some ⟨gp,0,none⟩) J cp)/\True) w5.drew from⟨P9,trivial⟩);refine lp 0 ?_;refine lp 1 ?_;refine lp 2 ?_;refine lp 3 ?_;refine lp 4 ?_;refine lp 5 ?_;refine lp 6 ?_;refine lp 7 ?_;refine lp 8 ?_;refine lp 9 ?_;refine lp 10 ?_;refine ll 11 ?_;refine lp 12 ?_;refine lp 13 ?_;refine lp 14 ?_;refine ll 15 ?_;refine lp 16 ?_;refine dH (i:=17) (oi:=?_) (w':=?_) ?_ ?_ ?_ ?_ ?_ ?_ ?_;rotate_left 2
        ·simp only[gA,gB,gC];rfl
        ·kernel_rfl
        ·kernel_rfl
        ·exact of_decide_eq_true e8
        ·rfl
        ·go_simp;(try with_reducible rfl)
        try simp only[Act.put,sA,sB,sC]
        refine jD (i:=18) (oi:=?_) (v:=?_) ?_ ?_ ?_ ?_ ?_ ?_ ?_ ?_ ?_;rotate_left 2
        ·simp only[gA,gB,gC];rfl
        ·kernel_rfl
        ·kernel_rfl
        ·kernel_rfl
        ·kernel_rfl
        ·exact fun _ _ _ h=>h
        ·refine Or.inl ⟨by rfl,?_⟩;intro w G8;(try dsimp only at G8);go_simp;(try with_reducible rfl)
        ·kernel_rfl
        try simp only[Act.put,sA,sB,sC]
        refine dH (i:=19) (oi:=?_) (w':=?_) ?_ ?_ ?_ ?_ ?_ ?_ ?_;rotate_left 2
        ·simp only[gA,gB,gC];rfl
        ·kernel_rfl
        ·kernel_rfl
        ·exact of_decide_eq_true e8
        ·rfl
        ·go_simp;(try with_reducible rfl)
        try simp only[Act.put,sA,sB,sC]
        refine dL e8 ?_ _
       case' neg =>
        have hne2:¬d=P:=fun e=>hq0 e.symm
        go_wp2_with fail;refine du (M:=[17,19]) (S:=(fun w'=>w'.cell? ⟨G,P,none⟩=some (.slice (some ⟨gp,0,none⟩) J cp)/\w'.cell? ⟨G,d,none⟩=some (.slice (some ⟨gd,0,none⟩) J cd))) e8 ?_;have k9:=(show(fun w':World=>w'.cell? ⟨G,P,none⟩=some (.slice (some ⟨gp,0,none⟩) J cp)/\w'.cell? ⟨G,d,none⟩=some (.slice (some ⟨gd,0,none⟩) J cd)) w5.drew from⟨P9,RB⟩);refine lp 0 ?_;refine lp 1 ?_;refine lp 2 ?_;refine lp 3 ?_;refine lp 4 ?_;refine lp 5 ?_;refine lp 6 ?_;refine lp 7 ?_;refine lp 8 ?_;refine lp 9 ?_;refine lp 10 ?_;refine ll 11 ?_;refine lp 12 ?_;refine lp 13 ?_;refine lp 14 ?_;refine ll 15 ?_;refine lp 16 ?_;refine dH (i:=17) (oi:=?_) (w':=?_) ?_ ?_ ?_ ?_ ?_ ?_ ?_;rotate_left 2
        ·simp only[gA,gB,gC];rfl
        ·kernel_rfl
        ·kernel_rfl
        ·exact of_decide_eq_true e8
        ·rfl
        ·go_simp;(try with_reducible rfl)
        try simp only[Act.put,sA,sB,sC]
        refine jD (i:=18) (oi:=?_) (v:=?_) ?_ ?_ ?_ ?_ ?_ ?_ ?_ ?_ ?_;rotate_left 2
        ·simp only[gA,gB,gC];rfl
        ·kernel_rfl
        ·kernel_rfl
        ·kernel_rfl
        ·kernel_rfl
        ·exact fun _ _ _ h=>h
        ·refine Or.inl ⟨by rfl,?_⟩;intro w G8;(try dsimp only at G8);go_simp;(try with_reducible rfl)
        ·kernel_rfl
        try simp only[Act.put,sA,sB,sC]
        refine dH (i:=19) (oi:=?_) (w':=?_) ?_ ?_ ?_ ?_ ?_ ?_ ?_;rotate_left 2
        ·simp only[gA,gB,gC];rfl
        ·kernel_rfl
        ·kernel_rfl
        ·exact of_decide_eq_true e8
        ·rfl
        ·go_simp;(try with_reducible rfl)
        try simp only[Act.put,sA,sB,sC]
        refine dL e8 ?_ _
       all_goals
        clear P9 MM JG B7
        try clear RB
        try clear ML
        try clear Ce AK
        try clear k9
       case' pos =>
        obtain⟨w6,FB⟩:=b8 (((w5.setCell ⟨G,d,none⟩ (.slice (some ⟨gp,0,none⟩) J cp)).setCell ⟨G,d,none⟩ (.slice (some ⟨gp,0,none⟩) J cp)).drew);rw[<-FB];have IC:=ae (show A4 w6 w.heap.size (some ⟨G,0,none⟩) n1 p1 Z u by rw[FB];exact Bc.o.ext (Ext.drew _));have RY:=ae (show Ext w w6 by rw[FB];exact Ext.trans ((Em.o.setCell (p:=⟨G,d,none⟩) TM _).setCell (p:=⟨G,d,none⟩) TM _) (Ext.drew _))
        have Bw:=ae (show w6.heap[I.heap.size]?=some (.cells #[.int .i64 (c:Int)] 3 (0,0))by
         rw[FB];have hne:I.heap.size≠G:=by have:=HGs.o;omega
         show((w5.setCell ⟨G,d,none⟩ (.slice (some ⟨gp,0,none⟩) J cp)).setCell ⟨G,d,none⟩ (.slice (some ⟨gp,0,none⟩) J cp)).heap[I.heap.size]?=_
         rw[heap_setCell_other _ _ _ _ hne,heap_setCell_other _ _ _ _ hne];exact yu.o)
        clear FB
       case' neg =>
        obtain⟨w6,FB⟩:=b8 (((w5.setCell ⟨G,d,none⟩ (.slice (some ⟨gp,0,none⟩) J cp)).setCell ⟨G,P,none⟩ (.slice (some ⟨gd,0,none⟩) J cd)).drew);rw[<-FB];have IC:=ae (show A4 w6 w.heap.size (some ⟨G,0,none⟩) n1 p1 Z u by rw[FB];exact Bc.o.ext (Ext.drew _));have RY:=ae (show Ext w w6 by rw[FB];exact Ext.trans ((Em.o.setCell (p:=⟨G,d,none⟩) TM _).setCell (p:=⟨G,P,none⟩) TM _) (Ext.drew _))
        have Bw:=ae (show w6.heap[I.heap.size]?=some (.cells #[.int .i64 (c:Int)] 3 (0,0))by
         rw[FB];have hne:I.heap.size≠G:=by have:=HGs.o;omega
         show((w5.setCell ⟨G,d,none⟩ (.slice (some ⟨gp,0,none⟩) J cp)).setCell ⟨G,P,none⟩ (.slice (some ⟨gd,0,none⟩) J cd)).heap[I.heap.size]?=_
         rw[heap_setCell_other _ _ _ _ hne,heap_setCell_other _ _ _ _ hne];exact yu.o)
        clear FB
       all_goals
        clear Bc Cp yu;obtain⟨gp',cp',W,hcp6,R,Ro,XN,hgpl6,hncp',hcpm'⟩:=IC.o.row Av (Jl.o d (by rw[FU.o];exact Av)).1 h1;have yh:=HVD.o.symm.trans W;simp only[Value.slice.injEq,Option.some.injEq,Addr.mk.injEq,and_true,true_and]at yh;obtain⟨rfl,rfl⟩:=yh;obtain⟨A,hA,hA'⟩:∃A:j8,(if p1=d+1 then some (⟨G,0,none⟩:Addr) else some ⟨G,d+1,none⟩)=A/\(d+1<n1->A=some ⟨G,d+1,none⟩):=⟨_,rfl,fun h=>by rw[if_neg b9]⟩;have HA':=ae hA';have FI:d+1<=n1:=by omega
        clear W R Ro XN hA';go_wp2_with fail;have QU:=ae (show w.heap.size<=I.heap.size from Wr);clear hA
        go_loopg [88] (n1-(d+1)) (fun gk ii wr=>∃t:Nat,b7 (gk+(d+1+t)=n1)/\ii=.int .i64 (t:Int)/\b7 (A4 wr w.heap.size (some ⟨G,0,none⟩) n1 p1 Z (zG bT c u d (d+1+t)))/\b7 (Ext w wr)/\b7 (wr.heap[I.heap.size]?=some (.cells #[.int .i64 (c:Int)] 3 (0,0))))
        case atStart=>exact⟨0,ae b9,rfl,ae (by rw[Nat.add_zero,nf];exact IC.o),RY,Bw⟩
        case round =>
         obtain⟨g4,MV⟩:=b8 gk;subst MV;obtain⟨wr4,GI⟩:=b8 wr;subst GI;obtain⟨t,HT,rfl,CB,Ai,AB⟩:=hrel;by_cases S3:d+1+t<n1
         ·obtain rfl:=HA'.o b9;have htN1:t<n1-(d+1):=by omega
          obtain⟨O,Wp⟩:=b8 (d+1+t);have OB:=ae Wp;have Zc:=ae (show Good J (G9 (d+1)) (zG bT c u d O)from lJ Jl.o (gh d b9).2.2 (by rw[FU.o];exact Av) fun p r Oe Cg h5 h6=>nw _ J c p r (gh d b9).1 Oe Cg h5 h6);rw[<-Wp]at CB;have zT:=ae (show(zG bT c u d O).length=n1 by rw[dz,FU.o]);obtain⟨gt,ct,Gr,ZS,ED,hnt,Kd,hgtl,hnct,hctm⟩:=CB.o.row (i:=O) b9 (Zc.o O (by rw[zT.o];omega)).1 h1;obtain⟨gp',cp',W,hcp4,R,Ro,XN,hgpl4,_,_⟩:=CB.o.row Av (Zc.o d (by rw[zT.o];exact Av)).1 h1;have yh:=HVD.o.symm.trans W;simp only[Value.slice.injEq,Option.some.injEq,Addr.mk.injEq,and_true,true_and]at yh;obtain⟨rfl,rfl⟩:=yh;have Vt:=ae Gr
          have Fu:=ae (show gt<I.heap.size/\gt≠G by
           obtain⟨g,c',k1,k2,k3⟩:=NO.o O b9;rw[Gr]at k1;simp only[Value.slice.injEq,Option.some.injEq,Addr.mk.injEq,and_true,true_and]at k1;obtain⟨rfl,_⟩:=k1
           exact⟨k2,k3⟩)
          have HAP:=ae (show gt≠gp from fun e=>CB.o.rows.apart' (i:=d) (j:=O) b9 (by rw[zT.o];exact Av) (by rw[zT.o];omega) (by rw[W];rfl) (by rw[Gr,e];rfl));rw[gL _ _ _ _ _ _ (by rw[FU.o];omega) b9]at ED;rw[gL _ _ _ _ _ _ (by rw[FU.o];exact Av) b9]at R;obtain⟨r,hr⟩:=b8 (u[O]?.getD []);obtain⟨p,hp⟩:=b8 (u[d]?.getD []);rw[<-hr]at ED;rw[<-hp]at R;have Cs:=ae (Jl.o O (by rw[FU.o];omega));have Hh:=ae (Jl.o d (by rw[FU.o];exact Av));rw[<-hr]at Cs;rw[<-hp]at Hh;have HOT:=ae ED;have NT:=ae R;have Bv:=ae hr;have YI:=ae hp;obtain⟨b,off,he,y5⟩:=ED.ints.at EH;simp only[Option.some.injEq,Addr.mk.injEq,and_true]at he;obtain⟨rfl,rfl⟩:=he;rw[Nat.zero_add]at y5;obtain⟨rc,Mn⟩:=b8 (r[c]?.getD 0);obtain⟨pc,Hz⟩:=b8 (p[c]?.getD 0);rw[<-Mn]at y5;have Iz:=ae Mn;have NQ:=ae Hz;have Ig:=cell_of_one AB.o;have HIDT:=ae (show d+1+t=O from Wp.symm);rw[Wp]at ZS;clear Gr W ED R hr hp Mn Hz Wp hcp4;by_cases hz:rc=0
          ·have Eo:=ae (wi (e:=bT) (c:=c) (M:=u) (d:=d) (t:=O) (j4 OB.o) (by rw[FU.o];have:=OB.o;omega) (by unfold bT;rw[<-Bv.o,<-YI.o,<-Iz.o,if_pos hz]));subst hz;go_wp2_with fail
           go_roundg (g4-1)
           case measure=>have:=HT.o;omega
           case rel=>exact⟨t+1,ae (j4 HT.o),by go_num,ae (by rw[show d+1+(t+1)=O+1 by have:=OB.o;omega,<-Eo.o];exact CB.o),Ai,AB⟩
          ·have hzb:(rc != 0)=true:=by simpa using hz
           have hzb':(rc == 0)=false:=by simpa using hz
           obtain⟨U,IU⟩:=b8 (xh c p r);obtain⟨Mt,MW⟩:=b8 (zG bT c u d O);have EN:O<n1:=by have:=OB.o;omega
           have hdt:d<O:=by have:=OB.o;omega
           rw[<-MW]at CB zT;have C5:=ae (show U.length=r.length by rw[IU,em]);have HMtr:=ae (show Mt[O]?.getD []=r by rw[MW,gL _ _ _ _ _ _ (by rw[FU.o];omega) b9,Bv.o]);have HMtp:=ae (show Mt[d]?.getD []=p by rw[MW,gL _ _ _ _ _ _ (by rw[FU.o];omega) b9,YI.o])
           have HBM:=ae (show∀j:Nat,-2147483648<=U[j]?.getD 0/\U[j]?.getD 0<=2147483648 by
            intro j;rw[IU];have h3:=(gh d b9).2.1;have h4:=(gh d b9).1
            exact qW (B:=32768) (fun j=>by have:=Hh.o.2 j;omega) (fun j=>by have:=Cs.o.2 j;omega) j)
           have HBMx:=ae (show∀x∈U,(-2147483648:Int)<=x/\x<=2147483648 by
            intro x hx;obtain⟨j,hj,rfl⟩:=List.getElem_of_mem hx;have:=HBM.o j;rw[List.getElem?_eq_getElem hj]at this
            exact this)
           have Yx:=ae (show Mt.set O (U.map fun x=>x.tdiv (max (Bn U) 1))=zG bT c u d (O+1)by
            rw[<-ku bT c u d O hdt (by rw[FU.o];exact EN),MW]
            congr 1
            unfold bT
            rw[<-Bv.o,<-YI.o,if_neg (by rw[<-Iz.o];exact hz),IU])
           have Ks:=ae IU;clear IU MW;go_wp2_with fail
           go_loopg [18,100] J (fun gk gg jj wr=>∃(j:Nat) (gv:Int),b7 (gk+j=J)/\jj=.int .i64 (j:Int)/\gg=.int .i64 gv/\b7 (gv=(U.take j).foldl gI 0)/\b7 (A4 wr w.heap.size (some ⟨G,0,none⟩) n1 p1 Z (Mt.set O (BX U r j)))/\b7 (Ext w wr)/\b7 (wr.heap[I.heap.size]?=some (.cells #[.int .i64 (c:Int)] 3 (0,0))))
           case atStart=>exact⟨0,0,ae b9,rfl,rfl,ae rfl,ae (by rw[oY,KX (by rw[zT.o];exact EN) HMtr.o];exact CB.o),Ai,AB⟩
           case round =>
            obtain⟨g5,TA⟩:=b8 gk;subst TA;obtain⟨Q1,MU⟩:=b8 wr;subst MU;obtain⟨j,gv,HJ,rfl,rfl,Ez,Cp,JK,Dm⟩:=hrel;have Xp:=M5 (B:=2147483648) (U.take j) 0 b9 b9 (fun x hx=>HBMx.o x (List.mem_of_mem_take hx));rw[<-Ez.o]at Xp;by_cases Ah:j<J
            ·have ED:=Cp.o.rows.row O (by rw[List.length_set,zT.o];exact EN);rw[Vt.o,List.getElem?_set_self (by rw[zT.o];exact EN)]at ED;have R:=Cp.o.rows.row d (by rw[List.length_set,zT.o];exact Av);rw[HVD.o,List.getElem?_set_ne b9,HMtp.o]at R;obtain⟨b,off,he,U4⟩:=ED.ints.at Ah;simp only[Option.some.injEq,Addr.mk.injEq,and_true]at he;obtain⟨rfl,rfl⟩:=he;rw[Nat.zero_add,Option.getD_some,sZ C5.o (by rw[Cs.o.1];exact Ah)]at U4;obtain⟨b,off,he,U7⟩:=R.ints.at Ah;simp only[Option.some.injEq,Addr.mk.injEq,and_true]at he;obtain⟨rfl,rfl⟩:=he;rw[Nat.zero_add]at U7;obtain⟨b,off,he,Hy⟩:=R.ints.at EH;simp only[Option.some.injEq,Addr.mk.injEq,and_true]at he;obtain⟨rfl,rfl⟩:=he;rw[Nat.zero_add,<-NQ.o]at Hy;obtain⟨g',G7,_,Cw,_⟩:=ED.block Ah;simp only[Option.some.injEq,Addr.mk.injEq,and_true]at G7;subst G7;have hfj:=Cw j;have hbc5:=cell_of_one Dm.o;obtain⟨rj,Jt⟩:=b8 (r[j]?.getD 0);obtain⟨pj,B1⟩:=b8 (p[j]?.getD 0);rw[<-Jt]at U4;rw[<-B1]at U7;have h3:=(gh d b9).2.1;have zN:=gK (B:=32768) (x:=rj) (y:=pc) (j4 (Cs.o.2 j)) (j4 (Cs.o.2 j)) (by have:=Hh.o.2 c;have:=NQ.o;omega) (by have:=Hh.o.2 c;have:=NQ.o;omega)
             have zx:=gK (B:=32768) (x:=rc) (y:=pj) (by have:=Cs.o.2 c;have:=Iz.o;omega) (by have:=Cs.o.2 c;have:=Iz.o;omega) (j4 (Hh.o.2 j)) (j4 (Hh.o.2 j));have Ce:IntKind.i64.wrap (rj*pc)=rj*pc:=by rw[IntKind.wrap_i64];omega
             have A7:IntKind.i64.wrap (rc*pj)=rc*pj:=by rw[IntKind.wrap_i64];omega
             have AK:IntKind.i64.wrap (rj*pc-rc*pj)=rj*pc-rc*pj:=by rw[IntKind.wrap_i64];omega
             have HV:=ae (show rj*pc-rc*pj=U[j]?.getD 0 by rw[Ks.o,fO (by rw[Cs.o.1];exact Ah),Jt,B1,NQ.o,Iz.o]);have Wi:xr (rj*pc-rc*pj):=by unfold xr;omega
             have Xr:xr gv:=by unfold xr;omega
             have HX18:=ae Wi;have HG18:=ae Xr;clear ED R Jt B1 zN zx h3 Wi Xr Cw Xp;go_wp2_with fail
             go_still_tail 19,e8
             change wpList _ _ _ _ _ Q1.drew;go_wp2_with fail;refine(iy gv (rj*pc-rc*pj) _ HG18.o HX18.o).mono ?_;rintro e w7 ⟨rfl,hd⟩;have xR:=((Cp.o.ext (Ext.drew Q1)).DZ EN Vt.o j (rj*pc-rc*pj)).ext hd.ext;rw[HV.o,pE (by rw[zT.o];exact EN) C5.o (by rw[Cs.o.1];exact Ah)]at xR;have Dx:=ae xR;have Uf:=ae (Ext.trans (Below.setCell (p:=⟨gt,j,none⟩) (JK.o.trans (Ext.drew Q1)) Kd (.int .i64 (rj*pc-rc*pj))) hd.ext)
             have Cb:=ae (show w7.heap[I.heap.size]?=some (.cells #[.int .i64 (c:Int)] 3 (0,0))by
              have hne:I.heap.size≠gt:=by have:=Fu.o.1;omega
              have h0:(Q1.drew.setCell ⟨gt,j,none⟩ (.int .i64 (rj*pc-rc*pj))).heap[I.heap.size]?=some (.cells #[.int .i64 (c:Int)] 3 (0,0)):=by
               rw[heap_setCell_other _ _ _ _ hne];exact Dm.o
              exact(hd.ext.block _ (lt_of_block h0)).trans h0)
             have HGV7:=ae (show gI gv (rj*pc-rc*pj)=(U.take (j+1)).foldl gI 0 by
              rw[cW (by rw[C5.o,Cs.o.1];exact Ah),List.foldl_append,<-Ez.o,<-HV.o];rfl)
             clear xR hd Ce A7 AK;go_wp2_with fail
             go_roundg (g5-1)
             case measure=>have:=HJ.o;omega
             case rel=>exact⟨j+1,_,ae (j4 HJ.o),by go_num,rfl,HGV7,Dx,Uf,Cb⟩
            ·have Gz:j=J:=by have:=HJ.o;omega
             have HGF:=ae (show max gv 1=max (Bn U) 1 by rw[Ez.o,List.take_of_length_le (by rw[C5.o,Cs.o.1];omega)];rfl);have HMID:=ae (show BX U r j=U by rw[Gz,<-Cs.o.1,<-C5.o,qV C5.o]);rw[HMID.o]at Cp;subst Gz;obtain⟨F,hF⟩:∃F:Int->Int,F=fun x=>x.tdiv (max gv 1):=⟨_,rfl⟩
             have Ge:=ae (show(U.map F).length=U.length by simp);have HFS:=ae (show Mt.set O (U.map F)=zG bT c u d (O+1)by rw[hF,HGF.o];exact Yx.o);have HFF:=ae hF;clear hF;by_cases BO:1<=gv
             case' pos =>
              have HD:=ae (show∀y,F y=y.tdiv gv by intro y;rw[HFF.o];simp only;congr 1;omega);have hgv':¬gv<1:=by omega
              have Fj:(gv == 0)=false:=by simp;omega
             case' neg =>
              have hgv0:gv=0:=by omega
              subst hgv0;have HD:=ae (show∀y,F y=y by intro y;rw[HFF.o];simp only;rw[show max (0:Int) 1=1 by omega,Int.tdiv_one])
             all_goals
              go_wp2_with fail
              go_loopg [131] j (fun gk ii wr=>∃i:Nat,b7 (gk+i=j)/\ii=.int .i64 (i:Int)/\b7 (A4 wr w.heap.size (some ⟨G,0,none⟩) n1 p1 Z (Mt.set O (BX (U.map F) U i)))/\b7 (Ext w wr)/\b7 (wr.heap[I.heap.size]?=some (.cells #[.int .i64 (c:Int)] 3 (0,0))))
              case atStart=>exact⟨0,ae b9,rfl,ae (by rw[oY];exact Cp.o),JK,Dm⟩
              case round =>
               obtain⟨g6,h_g6⟩:=b8 gk;subst h_g6;obtain⟨wr6,XP⟩:=b8 wr;subst XP;obtain⟨i,HI6,rfl,QK,Yo,Zo⟩:=hrel;by_cases IW:i<j
               ·have ED:=QK.o.rows.row O (by rw[List.length_set,zT.o];exact EN);rw[Vt.o,List.getElem?_set_self (by rw[zT.o];exact EN),Option.getD_some]at ED;have hlen:=ED.ints.hlen;obtain⟨b,off,he,hyi⟩:=ED.ints.at IW;simp only[Option.some.injEq,Addr.mk.injEq,and_true]at he;obtain⟨rfl,rfl⟩:=he;rw[Nat.zero_add,sZ Ge.o (by rw[C5.o,Cs.o.1];exact IW)]at hyi;obtain⟨g',G7,_,Cw,_⟩:=ED.block IW;simp only[Option.some.injEq,Addr.mk.injEq,and_true]at G7;subst G7;have hfi:=Cw i;obtain⟨yv,J1⟩:=b8 (U[i]?.getD 0);rw[<-J1]at hyi;have F0:=HBM.o i;rw[<-J1]at F0;obtain⟨hyb1,hyb2⟩:=F0;have HFI:=ae (show F yv=(U.map F)[i]?.getD 0 by rw[J1];simp[C5.o,Cs.o.1,IW]);rw[HD.o]at HFI;have hw0:∀g:Int,IntKind.i64.wrap (yv.tdiv g)=yv.tdiv g:=by
                 intro g;have h2:(yv.tdiv g).natAbs<=yv.natAbs:=by rw[Int.natAbs_tdiv];exact Nat.div_le_self _ _
                 rw[IntKind.wrap_i64];omega
                first|have hw:=hw0 gv|skip
                clear ED Cw J1 hlen hw0;go_wp2_with fail
                go_roundg (g6-1)
                case measure=>have:=HI6.o;omega
                case rel =>
                 refine⟨i+1,ae (j4 HI6.o),by go_num,ae ?_,ae (Below.setCell (p:=⟨gt,i,none⟩) Yo.o Kd _),ae ?_⟩
                 ·rw[<-pE (m:=U.map F) (r:=U) (j:=i) (by rw[zT.o];exact EN) Ge.o (by rw[C5.o,Cs.o.1];exact IW),<-HFI.o];exact QK.o.DZ EN Vt.o i _
                 ·have hne:I.heap.size≠gt:=by have:=Fu.o.1;omega
                  rw[heap_setCell_other _ _ _ _ hne];exact Zo.o
               ·have Xm:i=j:=by have:=HI6.o;omega
                have YZ:=ae (show Mt.set O (BX (U.map F) U i)=zG bT c u d (O+1)by
                 rw[<-HFS.o,show i=(U.map F).length by rw[Ge.o,C5.o,Cs.o.1];exact Xm,qV Ge.o])
                rw[YZ.o]at QK;subst Xm;go_wp2_with fail
                go_roundg (g4-1)
                case measure=>have:=HT.o;omega
                case rel=>exact⟨t+1,ae (j4 HT.o),by go_num,ae (by rw[show d+1+(t+1)=O+1 by have:=OB.o;omega];exact QK.o),Yo,Zo⟩
         ·have Me:d+1+t=n1:=by have:=HT.o;omega
          have HTE:=ae Me;have htE2:t=n1-(d+1):=by omega
          rw[Me]at CB;clear Me;go_wp2_with fail
          go_roundg (g3-1)
          case measure=>have:=Y8.o;omega
          case rel=>exact⟨c+1,d+1,Z,_,ae (j4 Y8.o),by go_num,by go_num,Er,CB,Ai⟩
      ·rw[if_neg DG]at FV
       have Er:=ae (show runM bT M (c+1)=(K,d)by
        show Ao bT c (runM bT M c)=_;rw[QC.o];unfold Ao;simp only
        rw[<-HP.o,zD.o,if_neg DG])
       by_cases hpd:p1=d
       case' pos=>subst hpd;rw[if_pos rfl,show n1-p1=0 by omega,Nat.sub_self]at FV
       case' neg=>rw[if_neg hpd]at FV
       all_goals
        go_wp2_with fail
        (with_reducible refine FV.o.mono ?_)
        rintro e w5 ⟨rfl,zh⟩;have Br:=ae ((xj.o.trans (Ext.alloc _ _)).trans zh);have Cp:=ae ((HM.o.ext (Ext.alloc I (.cells #[.int .i64 (c:Int)] 3))).ext zh);clear zh Ie;go_wp2_with fail
        go_roundg (g3-1)
        case measure=>have:=Y8.o;omega
        case rel=>exact⟨c+1,_,vs,K,ae (j4 Y8.o),by go_num,rfl,Er,Cp,Br⟩
     ·have hcn':c=J:=by have:=Y8.o;omega
      subst hcn';go_wp2_with fail;go_ret;exact⟨aU (by rw[HN.o,QC.o]),xj.o⟩
abbrev nuc(o:Bool)(a:j8)(n cap:Nat)(b:j8)(m Vm:Nat)(x:Int):Value:=.agg #[.bool o,.slice a n cap,.slice b m Vm,.int .i64 x]
def jS(o:Bool)(l:j6)(r:j5)(x:Int)(o':Bool)(l':j6)(r':j5)(x':Int):Bool :=
 decide (o=o')&&(decide (l=l')&&(decide (r=r')&&decide (x=x')))
theorem lM{o o':Bool}{x x':Int}{a' b O:j8}{Z m K cap I R U:Nat}{l u:j6}{r W:j5}(h:r8 w a n cap l)(hr:zk w b m R r)(h':r8 w a' Z I u)(J:zk w O K U W):
 Calls Tryz.prog 9 #[nuc o a n cap b m R x,nuc o' a' Z I O K U x'] w fun e w'=>e=.returned (.bool (jS o l r x o' u W x'))/\Ext w w':=by
 have wI:Ext w ((w.alloc (.cells #[.bool o,.slice a n cap,.slice b m R,.int .i64 x] 33)).alloc (.cells #[.bool o',.slice a' Z I,.slice O K U,.int .i64 x'] 33)):=(Ext.alloc _ _).trans (Ext.alloc _ _);have wM:=ae wI;have HE:=ae (tS (h.ext wI) (h'.ext wI));have HR:=ae (hr.ext wI);have HR':=ae (J.ext wI);clear wI h h' hr J;by_cases ho:o=o'
 ·subst ho;cases hl:decide (l=u)
  ·have zR:=ae hl;rw[hl]at HE;clear hl;go_enter Tryz.func9,Tryz.ntmps9
   go_wp2_with fail;refine HE.o.mono ?_;rintro e w1 ⟨rfl,hx⟩;have X1:=ae (wM.o.trans hx.ext);clear hx
   go_wp2
   go_ret;exact⟨ag (by unfold jS;rw[zR.o];simp),X1.o⟩
  ·have zR:=ae hl;rw[hl]at HE;clear hl;cases hq:decide (r=W)
   all_goals
    have HQ:=ae hq;go_enter Tryz.func9,Tryz.ntmps9
    go_wp2_with fail;refine HE.o.mono ?_;rintro e w1 ⟨rfl,hx⟩;have G:=hx.ext;have c2:w1.cell? ⟨w.heap.size,2,none⟩=some (.slice b m R):=G.k6 e7;have c3:w1.cell? ⟨w.heap.size,3,none⟩=some (.int .i64 x):=G.k6 e7;have d2:w1.cell? ⟨w.heap.size+1,2,none⟩=some (.slice O K U):=G.k6 e7;have d3:w1.cell? ⟨w.heap.size+1,3,none⟩=some (.int .i64 x'):=G.k6 e7;have X1:=ae (wM.o.trans G);have HF:=ae (tR (HR.o.ext G) (HR'.o.ext G));rw[hq]at HF;clear hx G hq;go_wp2_with fail;refine HF.o.mono ?_;rintro e w2 ⟨rfl,hx⟩;have G:=hx.ext;replace c3:=G.k6 c3;replace d3:=G.k6 d3;have X2:=ae (X1.o.trans G);clear hx G
    go_wp2
    go_ret
   ·exact⟨ag (by unfold jS;rw[zR.o,HQ.o];simp),X2.o⟩
   ·exact⟨ag (by unfold jS;rw[zR.o,HQ.o];by_cases h:x=x'<;>simp[h]),X2.o⟩
 ·have HO:=ae ho;have hob:(o == o')=false:=by simpa using ho
  clear ho;go_enter Tryz.func9,Tryz.ntmps9
  go_wp2_with fail;go_ret;exact⟨ag (by unfold jS;simp[HO.o]),wM.o⟩
end Go.Proofs.YtalmoolkhcgmmaaGreat
