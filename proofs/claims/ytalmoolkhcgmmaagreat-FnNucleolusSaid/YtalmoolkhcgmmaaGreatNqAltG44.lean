import Derived.Test.YtalmoolkhcgmmaaGreatNqAltG42
import Derived.Test.YtalmoolkhcgmmaaGreatNqAltG43
import Derived.Test.YtalmoolkhcgmmaaGreatNqAltG4
set_option linter.unusedVariables false
set_option linter.unusedSimpArgs false
namespace Go.Proofs.YtalmoolkhcgmmaaGreat
set_option maxHeartbeats 16000000
set_option maxRecDepth 100000
open Go.RowKit
def eQ(x:Int)(l:j9):Bool:=wJ x 1 5&&(decide (l.length<=40)&&l.all (fun s=>wJ s 1 (zu x-1)))
def JH(l:j9)(k:Nat):j9:=wW l k++[-1,1]
def zC(q:Nat)(l:j9):j7:=(List.range q).map (JH l)
def EX(l:j9)(k:Nat):Int:=-(wW l k).sum
def Cl(q:Nat)(l:j9):j9:=(List.range q).map (EX l)
def Bp(l:j9):j6:=List.replicate (l.length+2) (0,1)
def zv(x:Int)(l:j9):Bool:=eQ x l&&decide ((eB (zC x.toNat l) (Cl x.toNat l) (Bp l)).status=1)
def DJ(x:Int)(l:j9):Bool:=eQ x l&&decide ((bV aV (zC x.toNat l) (Cl x.toNat l) (Bp l)).status=1)
theorem pX(x:Int)(l:j9):DJ x l=zv x l:=by
 unfold DJ zv
 rw[nt (fun _ j hj=>Or.inl ⟨0,by
  unfold Bp at hj⊢;rw[List.length_replicate]at hj
  rw[List.getElem?_replicate,if_pos hj];rfl,by omega,by omega⟩)]
theorem vD{l:j9}{j k:Nat}{b:Bool}(h:j<l.length)(hb:xt (l[j]?.getD 0) (k:Int)=b):(wW l k).take j++[wL b]=(wW l k).take (j+1):=by
 unfold wW;rw[<-List.map_take,<-List.map_take,List.take_succ_eq_append_getElem h,List.map_append,List.map_singleton];rw[List.getElem?_eq_getElem h,Option.getD_some]at hb;rw[hb]
theorem gS(l:j9)(k j:Nat):0<=((wW l k).take j).sum/\((wW l k).take j).sum<=j:=by
 induction j with
 | zero=>simp
 | succ j ih =>
   by_cases h:j<(wW l k).length
   ·rw[List.take_succ_eq_append_getElem h,List.sum_append,List.sum_singleton];have:0<=(wW l k)[j]/\(wW l k)[j]<=1:=by
     simp only[wW,List.getElem_map];cases xt _ _<;>decide
    omega
   ·rw[List.take_of_length_le b9]at ih⊢;omega
section
variable{w:World}{x:Int}{a:j8}{n cap:Nat}{l:j9}
theorem nk(h:Ints w a n cap l)(hl:∀k:Nat,l[k]?.getD 0<=9223372036854775807)(hb:n<=1048576):
 Calls Tryz.prog 70 #[.int .i64 x,.slice a n cap] w fun e w'=>e=.returned (.bool (zv x l))/\Ext w w':=by
 have o3:=h.o3;have l9:=h.l9;have HL:=ae h.hlen;have HI:=ae h;have HB:=ae hl;have Dx:=ae (bG x 1 5 w);cases hx:wJ x 1 5
 ·rw[hx]at Dx;have HF:=ae (show zv x l=false by unfold zv eQ;rw[hx];rfl);clear h hl hx;go_enter Tryz.func70,Tryz.ntmps70
  go_wp2_with fail;refine Dx.o.mono ?_;rintro e w1 ⟨rfl,rfl⟩;go_wp2_with fail;go_ret;exact⟨ag HF.o.symm,Ext.refl _⟩
 ·rw[hx]at Dx;obtain⟨q,rfl⟩:∃q:Nat,x=q:=⟨x.toNat,by simp[wJ]at hx;omega⟩;have Au:1<=q:=by simp[wJ]at hx;omega
  have Dq:q<=5:=by simp[wJ]at hx;omega
  have Kk:=ae hx;by_cases hn:n<=40
  ·have F4:¬(n:Int) > 40:=by omega
   have A7:IntKind.i64.wrap ((n:Int)+2)=(n:Int)+2:=by rw[IntKind.wrap_i64];omega
   have HZ:=ae (jg (w:=w) (n+2) b9);rw[show((n+2:Nat):Int)=(n:Int)+2 by omega]at HZ;have N5:=ae (fJ q Dq);have EH:=cu q Dq;obtain⟨cq,hcq⟩:=b8 (cN q);have HCQ:=ae (show zu (q:Int)=(cq:Int)by rw[N5.o,hcq]);rw[<-hcq]at EH;clear h hl hx hcq N5;go_enter Tryz.func70,Tryz.ntmps70
   go_wp2_with fail;refine Dx.o.mono ?_;rintro e w1 ⟨rfl,rfl⟩;go_wp2_with fail;refine HZ.o.mono ?_;rintro e w1 ⟨⟨v1,rfl,Jx⟩,wO⟩;obtain⟨a1,n1,c1,rfl,He⟩:=Jx.var;obtain⟨E,hE⟩:=b8 (w1.alloc (.cells #[.slice none 0 0,.slice none 0 0,.slice a1 n1 c1] 52));obtain⟨g,hg⟩:=b8 w1.heap.size;have xz:=ae (show Ext w E by rw[hE];exact wO.trans (Ext.alloc _ _))
   have ON:=ae (show xE E w.heap.size g (.slice none 0 0) (.slice none 0 0) (.slice a1 n1 c1) [] ((List.range 0).map (JH l)) ((List.range 0).map (EX l)) (Bp l)from
    ⟨by rw[hE,hg];exact ak _ _ _ rfl,by rw[hg];exact wO.size,xe.nil _ _,bC.nil _ _,o8.nil _ _,Cm.nil _,by rw[hE];unfold Bp;rw[HL.o];exact Jx.ext (Ext.alloc _ _)⟩)
   go_upto_region 4 with fail;rw[<-hE,<-hg];clear hE hg Jx wO A7;go_wp2_with fail
   go_loopg [6] q (fun gk ii wr=>∃(k:Nat) (va vb:Value) (vs:List Value),b7 (gk+k=q)/\ii=.int .i64 (k:Int)/\b7 (0<k->eQ (q:Int) l=true)/\b7 (xE wr w.heap.size g va vb (.slice a1 n1 c1) vs ((List.range k).map (JH l)) ((List.range k).map (EX l)) (Bp l))/\b7 (Ext w wr))
   case atStart=>exact⟨0,_,_,_,ae b9,rfl,ae (fun h=>absurd h b9),ON,xz⟩
   case round =>
    obtain⟨g1,r7⟩:=b8 gk;subst r7;obtain⟨I,o6⟩:=b8 wr;subst o6;obtain⟨k,va,vb,vs,HK,rfl,HV,AQ,HX⟩:=hrel;have hsz:=HX.o.size;by_cases hlt:k<q
    ·have Ft:=ae (o8.yG I I.heap.size _ rfl (Nat.le_refl _));go_wp2_with fail
     go_loopg [7,8,9] n (fun gk oo bb ii wr=>∃(j:Nat) (a2:j8) (n2 p2:Nat),b7 (gk+j=n)/\ii=.int .i64 (j:Int)/\oo=.slice a2 n2 p2/\bb=.int .i64 (-((wW l k).take j).sum)/\b7 ((l.take j).all (fun s=>wJ s 1 ((cq:Int)-1))=true)/\b7 (o8 wr I.heap.size (.slice a2 n2 p2) ((wW l k).take j))/\b7 (Ext I wr))
     case atStart=>exact⟨0,_,_,_,ae b9,rfl,rfl,rfl,ae rfl,Ft,ae (Ext.alloc _ _)⟩
     case round =>
      obtain⟨g2,xK⟩:=b8 gk;subst xK;obtain⟨G,wT⟩:=b8 wr;subst wT;obtain⟨j,a2,n2,p2,HJ,rfl,rfl,rfl,HA,HO,xZ⟩:=hrel;have Dc:=xZ.o.size;by_cases zt:j<n
      ·obtain⟨eb,xi,B2,yT⟩:=(HI.o.ext (HX.o.trans xZ.o)).at zt;subst B2;obtain⟨s,hs⟩:=b8 (l[j]?.getD 0);have hsm:s<=9223372036854775807:=by rw[hs];exact HB.o j
       rw[<-hs]at yT;have HS:=ae hs;have OT:=ae (fun w'=>dA (q:Int) w');rw[HCQ.o]at OT;have ZB:IntKind.i64.wrap ((cq:Int)-1)=(cq:Int)-1:=by rw[IntKind.wrap_i64];omega
       have HII:=ae (fun w'=>bG s 1 ((cq:Int)-1) w');obtain⟨iv,u⟩:=b8 (wJ s 1 ((cq:Int)-1));simp only[<-u]at HII;have Kv:=ae u;have Oj:(0:Int)<=(j:Int):=by omega
       have Ru:(j:Int)<(n:Int):=by omega
       clear hs u;go_upto_region 12 with fail;have k7:Ext G G.drew:=Ext.drew G;refine wp_region_held_drew (S:=(fun w'=>w'.cell? ⟨eb,xi+j,none⟩=some (.int .i64 s)/\Ext G w')) e8 ?_ (fun R=>?_)
       ·exact⟨k7.k6 yT,k7⟩
       refine tk 0 ?_;refine tk 1 ?_;refine tk 2 ?_;refine tk 3 ?_;refine tk 4 ?_;refine rd (i:=5) (h:=fun K hK=>?_);go_simp
       (go_at_call 75;refine(OT.o _).mono ?_;rintro e w3 ⟨rfl,rfl⟩)
       go_wp2_with fail;refine hK.out _ _ ?_ (fun R=>?_)
       ·exact⟨k7.k6 yT,k7⟩
       clear hK K
       try simp only[Act.put,sA,sB,sC]
       refine tk 6 ?_;refine rd (i:=7) (h:=fun K hK=>?_);go_simp
       (go_at_call 74;refine(HII.o _).mono ?_;rintro e w3 ⟨rfl,rfl⟩)
       go_wp2_with fail;refine hK.out _ _ ?_ (fun R=>?_)
       ·exact⟨k7.k6 yT,k7⟩
       clear hK K
       try simp only[Act.put,sA,sB,sC]
       refine tk 8 ?_;refine wpAnyH_done e8 ?_ _;obtain⟨w3,AK⟩:=b8 G.drew;have xj:=ae (show Ext G w3 by rw[AK];exact k7);rw[<-AK];have he3:=xj.o.k6 yT;clear k7 AK R yT ZB;cases iv
       ·have HF:=ae (show zv (q:Int) l=false by
         unfold zv eQ
         rw[fZ (d:=0) (show j<l.length by rw[HL.o];exact zt) (by rw[HCQ.o,<-HS.o];exact Kv.o.symm)];simp)
        go_wp2_with fail;go_ret;exact⟨ag HF.o.symm,(HX.o.trans xZ.o).trans xj.o⟩
       ·have Zs:=ae (show(l.take (j+1)).all (fun s=>wJ s 1 ((cq:Int)-1))=true by
         rw[iL (d:=0) (show j<l.length by rw[HL.o];exact zt),HA.o,<-HS.o,<-Kv.o];rfl)
        obtain⟨hb,hhb⟩:=b8 (xt s (k:Int));have QO:=ae (fun w'=>ee s (k:Int) w' hsm);simp only[<-hhb]at QO;have OU:=ae (fun w'=>fR hb w');have AU:=ae (vD (l:=l) (j:=j) (k:=k) (b:=hb) (by rw[HL.o];exact zt) (by rw[<-HS.o];exact hhb.symm));have xp:=ae (HO.o.ext xj.o);have X3:=ae (xZ.o.trans xj.o);have CY:=X3.o.size;have zT:=ae (show((wW l k).take j).length=j by rw[List.length_take];simp only[wW,List.length_map];rw[HL.o];omega);obtain⟨sm,PK⟩:=b8 (((wW l k).take j).sum);have F3:=gS l k j;rw[<-PK]at F3;have Km:=ae (show((wW l k).take (j+1)).sum=sm+wL hb by rw[<-AU.o,List.sum_append,List.sum_singleton,PK]);have zd:0<=wL hb/\wL hb<=1:=by cases hb<;>decide
        obtain⟨bt,Kd⟩:=b8 (wL hb);rw[<-Kd]at zd Km AU;simp only[<-Kd]at OU;rw[<-PK];obtain⟨ns,hns⟩:=b8 (-sm-bt);have GX:IntKind.i64.wrap (-sm-bt)=ns:=by rw[IntKind.wrap_i64,hns];omega
        have QI:=ae (show ns=-(sm+bt)by omega);clear hhb PK Kd hns
        go_wp2_with (first
         | (go_at_call 78;refine(QO.o _).mono ?_;rintro e w4 ⟨rfl,rfl⟩)
         | (go_at_call 79;refine(OU.o _).mono ?_;rintro e w4 ⟨rfl,rfl⟩)
         | (at_builtin;refine bm rfl _ _ rfl I.heap.size (.slice a2 n2 p2) _ rfl (xp.o.ext (Ext.alloc _ _)) _ 1 _ [bt] rfl (Ints.Ad _ _ _ _ e7) (by rw[zT.o];omega) (by simp;omega) ?_;intro v5 w5 ho hg5 l7;have hX5:=al (X3.o.trans (Ext.alloc _ _)) hg5 (fun i hi=>(xp.o.lt i hi).1);have X5:=ae hX5;obtain⟨a5,n5,c5,rfl,A9⟩:=ho.var;have xL:=ae ho;obtain⟨eb',Yf,MN,he5⟩:=(HI.o.ext (HX.o.trans hX5)).at zt;simp only[Option.some.injEq,Addr.mk.injEq,and_true]at MN;obtain⟨rfl,rfl⟩:=MN;rw[<-HS.o]at he5;clear ho hg5 l7 hX5 he3))
        go_roundg (g2-1)
        case measure=>have:=HJ.o;omega
        case rel=>exact⟨j+1,a5,n5,c5,ae (j4 HJ.o),by go_num,rfl,by rw[Km.o,<-QI.o],Zs,ae (by rw[<-AU.o];exact xL.o),X5⟩
      ·have Ah:n=j:=by have:=HJ.o;omega
       have GU:=ae (show eQ (q:Int) l=true by
        unfold eQ;rw[Kk.o,HL.o,decide_eq_true hn,HCQ.o];have h1:=HA.o;rw[List.take_of_length_le (by rw[HL.o];omega)]at h1
        rw[h1];rfl)
       have HMR:=ae (show(wW l k).take j=wW l k from List.take_of_length_le (by simp only[wW,List.length_map];rw[HL.o];omega));have C5:=ae (show(wW l k).length=n by simp only[wW,List.length_map];rw[HL.o]);rw[HMR.o]at HO;rw[HMR.o];obtain⟨bv,Tv⟩:=b8 (-(wW l k).sum);have HBV:=ae (show EX l k=bv by rw[Tv];rfl);rw[<-Tv];have t0:=AQ.o.c0;have yD:=ae (show vs.length=k by rw[AQ.o.rows.len];simp);have D':=AQ.o.lt;have CT:=ae (HX.o.trans xZ.o);clear Ah Tv;go_upto_region 16 with fail;have k8:=ae (fun(w':World) (h:Ext I w')=>(⟨h.k6 t0,HX.o.trans h⟩:w'.cell? ⟨g,0,none⟩=some va/\Ext w w'));have yJ:Ext I G.drew:=xZ.o.trans (Ext.drew G);refine du (M:=[8]) (S:=fun w'=>w'.cell? ⟨g,0,none⟩=some va/\Ext w w') e8 ?_;have R:=k8.o _ yJ;have R4:=ae (HO.o.ext (Ext.drew G));obtain⟨wd,Z⟩:=b8 G.drew;rw[<-Z]at yJ R4 R;rw[<-Z];clear Z;have PL:=yJ.size;refine lp 0 ?_;refine ll 1 ?_;refine lp 2 ?_;refine bh (i:=3) (oi:=?_) ?_ ?_ ?_ (fun K hK=>?_);rotate_left
       ·simp only[gA,gB,gC];rfl
       ·kernel_rfl
       ·kernel_rfl
       go_simp;refine hK.out _ _ (fun _=>k8.o _ (yJ.trans (Ext.alloc _ _))) ?_;clear hK K
       try simp only[Act.put,sA,sB,sC]
       refine bh (i:=4) (oi:=?_) ?_ ?_ ?_ (fun K hK=>?_);rotate_left
       ·simp only[gA,gB,gC];rfl
       ·kernel_rfl
       ·kernel_rfl
       refine co _ _ j0 I.heap.size (.slice a2 n2 p2) _ j0 (R4.o.ext (Ext.alloc _ _)) _ 2 _ [-1,1] j0 (Ints.SJ [-1,1] _ rfl j0 rfl (by decide)) (by rw[C5.o];omega) (by simp;omega) ?_;intro v6 w6 ho J' l7;obtain⟨a6,n6,q6,rfl,Jg⟩:=ho.var;have BU:=ae ho;have J:Ext I w6:=al (yJ.trans (Ext.alloc _ _)) J' (fun j hj=>(HO.o.lt j hj).1);have WA:=J.size;clear ho J' l7;refine hK.out _ _ (fun _=>k8.o _ J) ?_;have R:=k8.o _ J;clear hK K
       try simp only[Act.put,sA,sB,sC]
       refine bh (i:=5) (oi:=?_) ?_ ?_ ?_ (fun K hK=>?_);rotate_left
       ·simp only[gA,gB,gC];rfl
       ·kernel_rfl
       ·kernel_rfl
       go_simp;refine hK.out _ _ (fun _=>k8.o _ (J.trans (Ext.alloc _ _))) ?_;clear hK K
       try simp only[Act.put,sA,sB,sC]
       refine bh (i:=6) (oi:=?_) ?_ ?_ ?_ (fun K hK=>?_);rotate_left
       ·simp only[gA,gB,gC];rfl
       ·kernel_rfl
       ·kernel_rfl
       refine eD _ _ j0 w.heap.size va vs j0 ((AQ.o.a.ext J).ext (Ext.alloc _ _)) _ _ 1 j0 (by simp;rfl) rfl (by rw[yD.o];omega) (by simp;omega) ?_;intro v7 w7 ho ZP l7;obtain⟨a7,n7,q7,rfl,E'⟩:=ho.var;have FR:=ae ho;have JV:=ae ZP;have Ur:=ae l7;have W:=AQ.o.Ip (J.trans (Ext.alloc _ _)) ZP;have I':=xE.A3 W;have Vo:=xE.B4 W;have Dv:Ext w w7:=al ((HX.o.trans J).trans (Ext.alloc _ _)) ZP (fun j hj=>(AQ.o.a.lt j hj).1);clear ho ZP l7 W;refine hK.out _ _ (fun _=>And.intro I' Dv) ?_;have R:=And.intro I' Dv;clear hK K
       try simp only[Act.put,sA,sB,sC]
       refine lp 7 ?_;refine dH (i:=8) (oi:=?_) (w':=?_) ?_ ?_ ?_ ?_ ?_ ?_ ?_;rotate_left 2
       ·simp only[gA,gB,gC];rfl
       ·kernel_rfl
       ·kernel_rfl
       ·exact of_decide_eq_true e8
       ·rfl
       ·go_simp;(try with_reducible rfl)
       try simp only[Act.put,sA,sB,sC]
       refine dL e8 ?_ _;have U:=ae (AQ.o.DW (J.trans (Ext.alloc _ _)) (BU.o.ext (Ext.alloc _ _)) hsz JV.o FR.o Ur.o);have GM:=ae (Dv.setCell (p:=⟨g,0,none⟩) AQ.o.hg (.slice a7 n7 q7));obtain⟨W8,Il⟩:=b8 (w7.setCell ⟨g,0,none⟩ (.slice a7 n7 q7));rw[<-Il]at U GM;go_upto_region 17 with fail;rw[<-Il];clear Il I' Vo R yJ J;have b1:=U.o.c1;have bf:=U.o.free;have hl8:=U.o.lt;have hs8:w.heap.size<=W8.heap.size:=Below.size GM.o;have Ha:=ae (show((List.range k).map (EX l)).length=k by simp)
       go_wp2_with (first
        | (at_builtin;refine bm rfl _ _ rfl w.heap.size vb _ rfl (U.o.b.ext (Ext.alloc _ _)) _ 1 _ [bv] rfl (Ints.Ad _ _ _ _ e7) (by rw[Ha.o];omega) (by simp;omega) ?_;intro v9 w9 ho P3 l7;have JU:=ae (U.o.pushB (Ext.alloc _ _) P3 ho l7);have W:=U.o.Io (Ext.alloc _ _) P3;have Vp:=xE.A2 W;have Vn:=xE.B4 W;have Kf:Ext w w9:=al (Ext.trans GM.o (Ext.alloc _ _)) P3 (fun j hj=>(U.o.b.lt j hj).1);obtain⟨a9,n9,q9,rfl,Kr⟩:=ho.var;clear ho P3 l7 W))
       have F':=ae (Kf.setCell (p:=⟨g,1,none⟩) AQ.o.hg (.slice a9 n9 q9))
       go_roundg (g1-1)
       case measure=>have:=HK.o;omega
       case rel=>exact⟨k+1,_,_,_,ae (j4 HK.o),by go_num,ae (fun _=>GU.o),ae (by
        have h1:=JU.o;rw[<-HBV.o]at h1;rw[<-cj,<-cj]
        exact h1),F'⟩
    ·have PU:q=k:=by have:=HK.o;omega
     have GU:=ae (HV.o b9);rw[<-PU]at AQ;have O:=ae (show xE I w.heap.size g va vb (.slice a1 n1 c1) vs (zC q l) (Cl q l) (Bp l)from AQ.o);obtain⟨aA,nA,cA,rfl,JP⟩:=O.o.a.var;obtain⟨aB,nB,cB,rfl,Kq⟩:=O.o.b.var
     have z8:=ae (show Cz I aA nA cA aB nB cB a1 n1 c1 (zC q l) (Cl q l) (Bp l)from
      ⟨dI.Fg ⟨vs,O.o.a,O.o.rows⟩,O.o.b.ints,O.o.c.wK⟩)
     have En:=ae (py z8.o);obtain⟨r,hr⟩:=b8 (eB (zC q l) (Cl q l) (Bp l));rw[<-hr]at En
     have HR:=ae (show zv (q:Int) l=(r.status == 1)by
      unfold zv;rw[GU.o,Int.toNat_natCast,<-hr,Bool.true_and];rfl)
     have t0:=O.o.c0;have t1:=O.o.c1;have t2:=O.o.c2;clear PU hr;obtain⟨st,rX,rY,rr,⟨yZ,yY⟩,rp⟩:=r;go_wp2_with fail;refine En.o.mono ?_;rintro e w2 ⟨⟨xa,xn,xc,ya,yn,yc,ra,rn,rc,rfl,_⟩,hx⟩;unfold A6;have hfd:∀w:World,(Instr.field 56 (.agg #[.int .i64 st,.slice xa xn xc,.slice ya yn yc,.slice ra rn rc,.int .i64 yZ,.int .i64 yY,.int .i64 rp]) 0).run Tryz.prog w=.ok (.int .i64 st) w:=fun _=>by kernel_rfl
     go_wp2_with fail;go_ret;exact⟨ag HR.o.symm,HX.o.trans hx⟩
  ·have F4:(n:Int) > 40:=by omega
   have HF:=ae (show zv (q:Int) l=false by unfold zv eQ;rw[HL.o,decide_eq_false hn];simp);clear h hl hx;go_enter Tryz.func70,Tryz.ntmps70
   go_wp2_with fail;refine Dx.o.mono ?_;rintro e w1 ⟨rfl,rfl⟩;go_wp2_with fail;go_ret;exact⟨ag HF.o.symm,Ext.refl _⟩
end
end Go.Proofs.YtalmoolkhcgmmaaGreat
