import Derived.Deep.CutBlock
import Derived.Test.YtooiaklfmodcbaaGreatDoorRtAllG39
set_option linter.all false
set_option maxHeartbeats 6000000
set_option maxRecDepth 100000
namespace Go.Proofs.YtooiaklfmodcbaaGreatDoor
open Ending renaming returned->ar
open List renaming length->JL
open Obj renaming cells->QD
open Value renaming slice->GI,bool->bl,string->aE,pointer->aP
open Go.Proofs.Tryz Go.RowKit
variable{σ:Prop}
section
def Um(h:σ:=by simp[results,results179,go_sem,q0,q1,q2,q3,q4,q5,q6,qf,bh]):σ:=h
def ZN(h:σ:=by simp[results,results179,go_sem,q0,q1,q2,q3,q4,q5,q6,qf]):σ:=h
def fv(h:σ:=by rw[Fq.o];omega):σ:=h
def cm(h:σ:=by have:=A8.size;have:=XW1.size;have:=X7.size;omega):σ:=h
def ZZ(h:σ:=by simp[results,vT,go_sem,l0,l1,l2,l3,l4,l5,l6,lf',bh]):σ:=h
def Kd(h:σ:=by simp[results,vT,go_sem,l0,l1,l2,l3,l4,l5,l6,lf,bh]):σ:=h
def PX(h:σ:=by simp[results,ts,go_sem,l0,l1,l2,l3,l4,l5,l6,lf,bh]):σ:=h
def MJ(h:σ:=by simp[results,aA,go_sem,l0,l1,l2,l3,l4,l5,l6,lf,bh]):σ:=h
def Nl(h:σ:=by simp[results,vT,go_sem,l0,l1,l2,l3,l4,l5,l6,lf']):σ:=h
def Pu(h:σ:=by intro x hx;rw[List.mem_replicate]at hx;omega):σ:=h
def nC(h:σ:=by have:=MB.o;show k≠gB;omega):σ:=h
def xw(h:σ:=by rw[HML.o];omega):σ:=h
def Ef{w:J}{g:Nat}{a b c d e f h:arQ}{t:TypeId}(hb:w.heap[g]?=some (QD #[a,b,c,d,e,f,h] t (0,0))):
 w.cell? (O g 0)=some a/\w.cell? (O g 1)=some b/\w.cell? (O g 2)=some c/\w.cell? (O g 3)=some d/\w.cell? (O g 4)=some e/\w.cell? (O g 5)=some f/\w.cell? (O g 6)=some h/\∀k,w.frozen? (O g k)=false:=by
 refine⟨?_,?_,?_,?_,?_,?_,?_,λk=>mo w g k _ _ hb⟩<;>rw[aR w g _ _ _ _ hb]<;>rfl
def C7.FR{w w':J}(h:C7 w w'){b:Nat}(hb:w.heap.size<=b)(x0 Z Q K H G E:arQ):
 C7 w (((((((w'.setCell (O b 0) x0).setCell (O b 1) Z).setCell (O b 2) Q).setCell (O b 3) K).setCell (O b 4) H).setCell (O b 5) G).setCell (O b 6) E) :=
 ((((((h.setCell (p:=(O b 0)) hb _).setCell (p:=(O b 1)) hb _).setCell (p:=(O b 2)) hb _).setCell (p:=(O b 3)) hb _).setCell (p:=(O b 4)) hb _).setCell (p:=(O b 5)) hb _).setCell (p:=(O b 6)) hb _
def cu(w':J){b k:Nat}(h:k≠b)(x0 Z Q K H G E:arQ):
 (((((((w'.setCell (O b 0) x0).setCell (O b 1) Z).setCell (O b 2) Q).setCell (O b 3) K).setCell (O b 4) H).setCell (O b 5) G).setCell (O b 6) E).heap[k]?=w'.heap[k]?:=by
 rw[GE _ _ _ _ h,GE _ _ _ _ h,GE _ _ _ _ h,GE _ _ _ _ h,GE _ _ _ _ h,GE _ _ _ _ h,GE _ _ _ _ h]
structure Uf(w:J)(base g:Nat)(s:Int)(vx vy vr:arQ)(p q piv:Int)(Y:l7):Prop where
 box:w.heap[g]?=some (QD #[U s,vx,vy,vr,U p,U q,U piv] 109 (0,0))
 hg:base<=g
 y:WV w base vy Y
section
variable{w:J}{base g:Nat}{s:Int}{vx vy vr:arQ}{p q piv:Int}{Y:l7}
theorem Uf.ext{w':J}(h:Uf w base g s vx vy vr p q piv Y)(hx:C7 w w'):Uf w' base g s vx vy vr p q piv Y:=⟨(hx.block _ (In h.box)).trans h.box,h.hg,h.y.ext hx⟩
theorem Uf.aef{G E:J}(h:Uf w base g s vx vy vr p q piv Y)(hx:C7 w G)(hg:G.grownBy E vy.ownBlock):E.heap[g]?=some (QD #[U s,vx,vy,vr,U p,U q,U piv] 109 (0,0)) :=
 (hg.block g (In (h.ext hx).box) (aq (h.ext hx).y (h.ext hx).box Fd)).trans (h.ext hx).box
theorem Uf.abK{H G:J}(h:Uf w base g s vx vy vr p q piv Y)(hx:C7 w H){E:arQ}{Y':l7}(Q:H.grownBy G vy.ownBlock)(ho:WV G base E Y'):
 Uf (G.setCell (O g 2) E) base g s vx E vr p q piv Y':=by
 have K:=h.aef hx Q;refine⟨?_,h.hg,bg ho K Fd⟩;have:=cE G g 2 _ _ E K;exact this
end
def Xr(B:o3)(E:l7){n i z:Nat}{e d:o4}{H:Bool}{G:Int}(hz:z=n+i)(K:E[z]?.getD (0,0)=e)(Q:D9 (1,1) e=(d,H))(hb:B[i]?.getD 0=G):gP B (1,1) E n i=if H=true then some (He G d) else none:=by
 unfold gP;rw[<-hz,K,Q,hb]
def H0(w:J)(base:Nat)(e:Ending)(o:Option G9):Prop:=match o with
 | some r=>∃xa xn xc ya yn yc ra rn rc,e=ar (.tuple #[H8 r xa xn xc ya yn yc ra rn rc,bl true])/\Jl w base xa xn xc ya yn yc ra rn rc r
 | none=>∃r xa xn xc ya yn yc ra rn rc,e=ar (.tuple #[H8 r xa xn xc ya yn yc ra rn rc,bl false])
section
variable{w:J}{a:l9}{na ca:Nat}{b:l9}{nb cb:Nat}{c:l9}{nc cc:Nat}{A:l8}{B:o3}{C:l7}
def M4(h:σ:=by
 rintro e w9 ⟨rfl,hx⟩;have Fy:=I (Ee.grow hx);clear hx g0 g1' gf;have g0:=Fy.c0;have g1':=Fy.c1;have gf:=Fy.free;go_wp2;go_meet;exact⟨rfl,I (Fy.put _ _)⟩
 ):σ:=h
theorem Z8(h:Kh w a na ca b nb cb c nc cc A B C)(ok:Ej A B C=true):
 Calls prog 200 #[Ig a na ca b nb cb c nc cc] w λe w'=>H0 w' w e (Gi A B C)/\C7 w w':=by
 have TI:=I (jD ok);have⟨r1,r2,r3,r4,r5,r6⟩:=dI h ok;subst r3;have B8:=(C7.alloc w (bT a nb ca b nb cb c nc cc)).trans (C7.alloc _ (QD #[.int .i64 0,GI none 0 0,GI none 0 0,GI none 0 0,.int .i64 0,.int .i64 0,.int .i64 0] 109));have⟨W,hW⟩:=e9 ((w.alloc (bT a nb ca b nb cb c nc cc)).alloc (QD #[.int .i64 0,GI none 0 0,GI none 0 0,GI none 0 0,.int .i64 0,.int .i64 0,.int .i64 0] 109));rw[<-hW]at B8;refine z6 B8 (h.ext B8) ok (show W.heap[w.heap.size+1]?=some (QD #[.int .i64 0,GI none 0 0,GI none 0 0,GI none 0 0,.int .i64 0,.int .i64 0,.int .i64 0] 109 (0,0))by rw[hW];exact IO j7) (show W.heap[w.heap.size]?=some (QD #[GI a nb ca,GI b nb cb,GI c nc cc] 105 (0,0))by rw[hW,aZ _ _ _ j7];exact IO rfl) (show W.heap.size=w.heap.size+1+1 by rw[hW];simp) λA8 H Fs EB HTB IH=>?_;have T':=h.a.r8;have ON:=h.a.r9;have E6:=h.b.r8;have Ew:=h.b.r9;have Eu:=h.c.r8;have GU:=h.c.r9;refine t8 h.a.hlen h.b.hlen h.c.hlen λHc FN Hk=>?_;clear h B8 ok r4 r5 r6;have F4:=I (λ(w':J) (hx:C7 W w')=>te (H.ext hx) Fs);go_in
 go_upto_region 1 with fail;rw[<-hW];clear hW;have p1:=aI HTB.o;have p2:=aJ HTB.o;have o7:=C7.drew W;have o7:=C7.drew W;have D0:=o7;have o8:=I (λ(w':J) (h:C7 W w')=>(an (h.o6 p1) (an (h.o6 p2) h)))
 go_region_held3 (λw'=>w'.cell? ⟨w,1,none⟩=some (GI b nb cb)/\w'.cell? ⟨w,2,none⟩=some (GI c nc cc)/\C7 W w')
  (with_reducible exact o8.o _ o7)
  (fail)
 clear D0;have X1:=I o7;clear o7 p1 p2;have p0:=aw (X1.blk HTB);have p1:=aI (X1.blk HTB);have p2:=aJ (X1.blk HTB);go_wp2_with fail;refine(F4 _ X1).mono ?_;rintro e w1 ⟨⟨va,vb,vs,rfl,ho⟩,hx⟩;obtain⟨a7,n7,c7,rfl,My⟩:=ho.a.var;obtain⟨a8,n8,c8,rfl,M7⟩:=ho.b.var;have⟨E,hE⟩:=e9 (w1.alloc (QD #[GI a7 n7 c7,GI a8 n8 c8,.int .i64 (nc:Int),.int .i64 0,bl false] 224));have Gg:C7 w1 E:=by rw[hE];exact WU
 have XW1:=I (X1.trans hx);have XE:=I Gg;have HS:=I (show ew E w1 a7 n7 c7 a8 n8 c8 vs (cz A B nc) 0 false from
  ⟨by rw[hE];exact IO rfl,(ho.ext Gg).mono (gi _)⟩)
 have hmk:=kj nc j0;have HZ:=I (show r' (E.alloc (QD (bH (List.replicate nc 0)) 3)) 0 (GI (some ⟨E,0,none⟩) nc nc) (List.replicate nc 0)from
  (show nM (E.alloc (QD (bH (List.replicate nc 0)) 3)) E 3 (List.replicate nc 0)from vC _ _).own (gi _) j7 j0)
 have⟨F,hF⟩:=e9 (E.alloc (QD (bH (List.replicate nc 0)) 3));have XF:=I (show C7 E F by rw[hF];exact WU);rw[<-hF]at HZ;clear ho hx Gg p0 p1 p2;go_upto_region 3 with fail;rw[<-hE];clear hE;go_upto_region 4 with fail;rw[<-hF];clear hF hmk
 have HZR:=I (show eS (List.replicate nc 0)=List.replicate nc ((0:Int),(1:Int))by
  rw[gG Pu];simp[aG])
 have Kj:=I (jv HZ.ints j0);rw[HZR.o]at Kj;go_wp2_with fail;refine TS Kj λw3 v3 EV hx=>?_;obtain⟨a3,n3,c3,rfl,LK⟩:=EV.var;have LD:n3<=70:=by have:=LK.o;rw[G6]at this;omega
 refine t8 (XF.trans hx) (HZ.ext hx) (uk EV.rats 1 nb j0 j0) λX3 HZ3 KX=>?_;clear EV hx LK;go_wp2_with fail;refine TS KX λw4 v4 Hd hx=>?_;obtain⟨a4,n4,c4,rfl,Ys⟩:=Hd.var;have X4:=I (X3.trans hx);have HZ4:=I (HZ3.ext hx);have Oy:=I (HS.ext X4);have N6:=I (MH Oy.o (show EY nc nb _ (cz A B nc)by have h1:=TI.o;rw[Hk.o,Hc.o]at h1;exact h1) j0 j0 j0 Hd);have Sn:=I (show List.replicate nc ((0:Int),(1:Int))++List.replicate nb (1,1)=eQ (JL C) (JL B) by unfold eQ;rw[Hk.o,FN.o]);clear Hd hx Ys;go_wp2_with fail;refine N6.mono ?_;rintro e w5 ⟨Mr,ra5,rn5,rc5,ba5,bn5,bc5,Zu,Tm⟩;have⟨o1,RP⟩:=e9 (bD (eQ (JL C) (JL B)) 1000 (cz A B (JL C)));have Wr:bD (List.replicate nc ((0:Int),(1:Int))++List.replicate nb (1,1)) (1000-0) (cz A B nc)=o1:=by rw[RP,Sn.o,Hk.o]
 rw[Wr]at Tm;refine t8 RP (HZ4.mod Mr Oy.box) (show C7 w1 w5 from Mr.ext (XE.trans X4) (i8 _)) λHO1 HZ5 X5=>?_;clear Wr RP;cases o1 with
 | none =>
   obtain⟨v5,col5,t5,n5,rfl,KJ⟩:=Tm;have JP:=I KJ;clear KJ Mr;have⟨c0,c1,c2,c3',c4',Z⟩:=JP.cells;have Hp:=I (show Gi A B C=none by unfold Gi;rw[<-HO1.o];rfl);have XW5:=I ((XW1.o).trans X5);have⟨l0,l1,l2,l3,l4,l5,l6,lf⟩:=Ef (XW5.blk EB);go_wp2;refine Fn (v:=.tuple #[H8 (bh 0) none 0 0 none 0 0 none 0 0,bl false]) Kd rfl ⟨?_,(A8.trans XW5).FR (b7 _) _ _ _ _ _ _ _⟩;rw[Hp.o];exact⟨bh 0,none,0,0,none,0,0,none,0,0,rfl⟩
 | some q1 =>
   obtain⟨v5,rfl,Mq,KJ⟩:=Tm;obtain⟨a5,n5,c5,rfl,It⟩:=Mq.var;have JP:=I KJ;have aa:=I Mq;have hinv:=eE TI.o HO1.symm;have HQT:=I (show EY nc nb _ q1.t by have h1:=hinv.1;rw[Hk.o,Hc.o]at h1;exact h1);have HQC:=I (fi HQT.o hinv.2.1).1;have hql:=hinv.2.2;clear KJ Mq Mr hinv;have⟨u,hu⟩:=e9 (nc+nb);have HU:=I hu;obtain rfl:n5=u+1:=by have h1:=It.o;rw[HQC.1]at h1;omega
   have hu78:u<=78:=j0;have Kv:((u+1:Nat):Int)-1=(u:Int):=j0;have⟨zb,ED,lx,ly,JA,P7,F8,Li⟩:=aa.rats.at (show u<u+1 by omega);subst JA;have hr5a:=aa.rats.r8;have hr5b:=aa.rats.r9;have Mz:=I (show q1.costs[JL C+B.length]?.getD (0,0)=(lx,ly)by rw[Hk.o,FN.o,<-HU.o];exact P7);have⟨c0,c1,c2,c3',c4',Z⟩:=JP.cells;have XW5:=I ((XW1.o).trans X5);clear P7 hu;by_cases GP:lx<0
   ·have N7:=I (show Gi A B C=(LE (gP B (1,1) q1.costs (JL C)) (JL B)).map λY=>⟨2,[],Y,[],(0,0),1000-q1.left⟩by
     unfold Gi;rw[<-HO1.o];simp only[mr];rw[Mz.o,f9 GP])
    obtain⟨pv,KK⟩:∃p:Int,p=((1000-q1.left:Nat):Int):=⟨_,rfl⟩;rw[<-KK]at c3';have abi:=I (show(1000:Int)-(q1.left:Int)=pv by rw[KK];omega);clear KK;have⟨E9,hE9⟩:=e9 (w5.alloc (QD #[.int .i64 2,GI none 0 0,GI none 0 0,GI none 0 0,.int .i64 0,.int .i64 0,.int .i64 pv] 109));have X9:=I (show C7 w5 E9 by rw[hE9];exact WU)
    have Nr:=I (show Uf E9 w5 w5 2 (GI none 0 0) (GI none 0 0) (GI none 0 0) 0 0 pv []by
     rw[hE9];exact⟨IO rfl,i8 _,qj⟩)
    go_upto_region 9 with fail;rw[<-hE9];clear hE9 c0 c1 c2 c3' c4' Z F8 Li;go_wp2
    go_loopg [64] nb (λgk ii wr=>∃(k:Nat) (vy:arQ) (Y:l7),b9 (gk+k=nb)/\ii=.int .i64 (k:Int)/\b9 (LE (gP B (1,1) q1.costs (JL C)) k=some Y)/\b9 (Uf wr w5 w5 2 (GI none 0 0) vy (GI none 0 0) 0 0 pv Y)/\b9 (C7 w5 wr))
    ·exact⟨0,_,[],I j0,rfl,I rfl,Nr,X9⟩
    obtain⟨k,vy,Y,HK,rfl,HY,HL,af⟩:=hrel;have hsr:=af.size;have Uc:=I (XW5.trans af);by_cases ao:k<nb
    ·have⟨z,hz⟩:=e9 (nc+k);have hzu:z<u+1:=by have:=HU.o;omega
     have⟨zb',Up,ex,ey,NA,T8,Fg,Kc⟩:=(aa.ext af).rats.at hzu;simp only[bq,H4,E5]at NA;obtain⟨rfl,rfl⟩:=NA;obtain⟨d1,d2,MU,hdd⟩:∃x y ok,D9 (1,1) (ex,ey)=((x,y),ok):=⟨_,_,_,rfl⟩;have Km:=I hdd;have⟨bb,L8,hba,G5⟩:=(H.ext Uc).b.at ao;subst hba;have⟨bi,Hi⟩:=e9 (B[k]?.getD 0);rw[<-Hi]at G5;have O':=I Hi;have TR:b9 (gP B (1,1) q1.costs (JL C) k=if MU=true then some (He bi (d1,d2)) else none):=Xr B q1.costs (by rw[Hk.o];exact hz) T8 hdd Hi.symm;have p1:=aI (Uc.blk HTB);have YL:=wq ((nc:Int)+(k:Int)) (z:Int);have V0:=ST z;have VZ:(z:Int)<((u+1:Nat):Int):=j0;have hz2':(z:Int)<(u:Int)+1:=j0;clear T8 hdd Hi hz;go_upto_region 12 with fail;go_upto_region 12 with fail
     go_cut [12,13] (λsx so wx=>∃g:Nat,sx=aP (some ⟨g,0,none⟩)/\so=bl MU/\b9 (ah wr wx g d1 d2))
     case first =>
      have o7:=C7.drew wr;have D0:C7 wr (wr.alloc (QD #[.int .i64 0,.int .i64 0] 56)).drew:=WU.trans cn;have o8:=I (λ(w':J) (h:C7 wr w')=>(an (h.o6 Fg) (an (h.o6 Kc) h)))
      go_region_held3 (λw'=>w'.cell? ⟨zb,ED+z*2,none⟩=some (.int .i64 ex)/\w'.cell? ⟨zb,ED+z*2+1,none⟩=some (.int .i64 ey)/\C7 wr w')
       (exact Hz)
       (first
         | ((with_reducible refine(cO 1 _).mono ?_)
            rintro e w7 ⟨rfl,ER⟩
            first|(with_reducible have A1:=ah.grow A1 ER)|(with_reducible have A1:=ah.DS ER)|(with_reducible have A1:=ah.DX o7 ER)|skip
            first|(have IX:=A1.c0;have IW:=A1.c1;have Kf:=A1.free)|skip
            have o7:C7 wr w7:=Qt;have FB:=o7.size)
         | ((with_reducible refine(ml 1 1 ex ey _).mono ?_)
            rw[Km.o];rintro e w8 ⟨rfl,FQ⟩
            first|(with_reducible have A1:=ah.grow A1 FQ)|(with_reducible have A1:=ah.DS FQ)|(with_reducible have A1:=ah.DX o7 FQ)|skip
            first|(have IX:=A1.c0;have IW:=A1.c1;have Kf:=A1.free)|skip
            have o7:C7 wr w8:=WN;have FB:=o7.size))
      all_goals(exact Jm)
     obtain⟨g,rfl,rfl,Ee⟩:=hcut;have SQ:=I (Uc.trans Ee.ext);clear YL V0 VZ hz2' Fg Kc p1 G5;cases MU
     ·have Hp:b9 (LE (gP B (1,1) q1.costs (JL C)) (JL B)=none):=fs HY.o (by rw[TR.o];rfl) (by rw[FN.o];exact ao);have⟨l0,l1,l2,l3,l4,l5,l6,lf⟩:=Ef (SQ.blk EB);go_wp2;refine Fn (v:=.tuple #[H8 (bh 0) none 0 0 none 0 0 none 0 0,bl false]) Kd rfl ⟨?_,(A8.trans SQ).FR (b7 _) _ _ _ _ _ _ _⟩;rw[N7.o,Hp.o];exact⟨bh 0,none,0,0,none,0,0,none,0,0,rfl⟩
     have p1:=aI (SQ.blk HTB);have⟨bb',aiq,WT,G5⟩:=(H.ext SQ).b.at ao;simp only[bq,H4,E5]at WT;obtain⟨rfl,rfl⟩:=WT;rw[<-O'.o]at G5;refine t8 (HL.ext Ee.ext) (af.trans Ee.ext) (ea (x:=He bi (d1,d2)) HY.o (by rw[TR.o];rfl)) λHL2 C0 HY2=>?_;obtain⟨e1,J7⟩:∃e1,He bi (d1,d2)=(e1,d2):=by unfold He C5;split<;>exact⟨_,rfl⟩
     have K8:=I J7;have hdb:=aU (p:=(d1,d2)) (by have h1:=(oV (a:=(1,1)) (b:=(ex,ey)) (by rw[Km.o])).2.2.1;rw[Km.o]at h1;exact h1);have Nh:-9223372036854775807<=d1:=by have:=hdb.2.2.1;simp only at this;omega
     have PH:d1<=9223372036854775807:=by have:=hdb.2.2.2;simp only at this;omega
     clear J7 hdb;go_upto_if 86 with fail
     go_cut [6] (λs6 wx=>s6=aP (some ⟨w1,0,none⟩)/\b9 (ah wr wx g e1 d2))
     case first =>
      have g0:=Ee.c0;have g1':=Ee.c1;have gf:=Ee.free;by_cases MP:bi<0
      ·have Kc:e1=-d1:=by have:=K8.o;unfold He C5 at this;rw[f9 MP]at this;exact(If Prod.fst this).symm
       subst Kc;rw[show decide (bi<0)=true from UV MP];go_wp2_with fail;refine(eX d1 d2 _ Nh PH).mono ?_;exact M4
      exact Js
     obtain⟨rfl,En⟩:=hcut;have LA:=I (HL.ext En.ext);have FV:=I (af.trans En.ext);have g0:=En.c0;have g1':=En.c1;have y2:=(Ef LA.box).2.2.1;have JK:=En.lt;have hlb:=In LA.box;have J8:=FV.size;have MZ:=I (cX HY);clear p1 G5
     go_wp2_with (first
      | (at_builtin;refine cG rfl _ _ rfl w5 vy _ rfl (LA.y.ext WU) _ 1 _ [(e1,d2)] rfl (C2 j7) K0 m9 ?_;intro v9 w9 ho hg r7;obtain⟨a9,n9,q9,rfl,N'⟩:=ho.var;have Gl:=I ho;have Rn:=I hg;have EX:=LA.aef WU hg;have Y0:=(Ef EX).2.2.1;have SM:=(Ef EX).2.2.2.2.2.2.2;have Nk:C7 w5 w9:=aj (C7.trans FV.o WU) hg (λj hj=>(LA.y.lt j hj).1);clear ho hg r7 EX))
     have Kx:=I (LA.abK WU Rn.o Gl);have B7:=I (Nk.setCell (p:=⟨w5,2,none⟩) (i8 _) (GI a9 n9 q9));refine er ?_;exact⟨k+1,_,_,I (k8 HK.o),by go_num,HY2,I (by rw[K8.o];exact Kx),B7⟩
    have DV:nb=k:=k8 HK.o;subst DV;obtain⟨ay,ny,cy,rfl,HNY⟩:=HL.y.var;have⟨m0,m1,m2,m3,m4,m5,m6,mf⟩:=Ef HL.box;have⟨l0,l1,l2,l3,l4,l5,l6,lf⟩:=Ef (Uc.blk EB);have OX:=I (show Gi A B C=some ⟨2,[],Y,[],(0,0),pv⟩by rw[N7.o,FN.o,HY.o,yl,abi.o]);have Ol:=In HL.box;go_wp2;refine Fn (v:=.tuple #[H8 ⟨2,[],Y,[],(0,0),pv⟩ none 0 0 ay ny cy none 0 0,bl true]) (by simp[results,vT,go_sem,l0,l1,l2,l3,l4,l5,l6,lf]) rfl ⟨?_,(A8.trans Uc).FR (b7 _) _ _ _ _ _ _ _⟩;rw[OX.o];refine⟨none,0,0,ay,ny,cy,none,0,0,rfl,?_,?_,?_⟩
    ·exact λW _=>i6.Ny W
    ·exact(HL.y.keep λi hi=>cu _ (by have:=(HL.y.lt i hi).1;have:=XW5.size;have:=IH.o;omega) _ _ _ _ _ _ _).Jx (by have:=A8.size;have:=XW1.size;have:=X5.size;omega)
    exact λW _=>i6.Ny W
   have N7:=I (show Gi A B C=(bP (JL C) (q1.t,q1.left) (JL B)).bind λs=>(bD (dw C (JL B)) s.2 s.1).map λp2 =>
    if 0<=p2.DU then⟨3,(Ga p2.t).take (JL C),[],F6 p2.t (JL C) p2.DU.toNat (JL B),(0,0),1000-p2.left⟩
    else⟨1,(Ga p2.t).take (JL C),(List.range (JL B)).map (eM B p2.costs (JL C)),[],C5 (p2.costs[JL C+B.length]?.getD (0,0)),1000-p2.left⟩by
    unfold Gi;rw[<-HO1.o];simp only[mr];rw[Mz.o,f7 j0])
   have Qd:b9 (ew w5 w1 _ _ _ _ _ _ Zu q1.t (1000-q1.left) false):=JP;have HD0:b9 (bP nc (q1.t,q1.left) 0=some (q1.t,q1.left)):=I (rfl);have adx:=In Qd.box;have HQL:=I hql;go_upto_region 20 with fail;clear c0 c1 c2 c3' c4' Z F8 Li hr5a hr5b hql;go_wp2
   go_loopg [98] nb (λgk ii wr=>∃(k:Nat) (tt:Tb) (lf:Nat) (ra:l9) (rn rc:Nat) (ba:l9) (bn bc:Nat) (vs:List arQ),b9 (gk+k=nb)/\ii=.int .i64 (k:Int)/\b9 (bP nc (q1.t,q1.left) k=some (tt,lf))/\b9 (ew wr w1 ra rn rc ba bn bc vs tt (1000-lf) false)/\b9 (WP w1 w5 wr))
   ·exact⟨0,_,_,_,_,_,_,_,_,_,I j0,rfl,HD0,Qd,I (WP.refl _ _)⟩
   rename Nat=>g1;rename J=>y9;obtain⟨k,tt,lf,ra,rn,rc,ba,bn,bc,vs,HK,rfl,HD,Lx,HM⟩:=hrel;have hdi:=gO (s:=(q1.t,q1.left)) HQT.o HD.o;have ad:b9 (EY nc nb _ tt):=hdi.1;have hlf:lf<=1000:=by have h1:=hdi.2;have h2:=HQL.o;simp only at h1;omega
   have hl1:=In Lx.box;have IK:=HM.size;have⟨c0,c1,c2,c3,c4,Z⟩:=Lx.cells;have IT:rn=nb:=by have h1:=Lx.tb.I3.rows.hlen;have h2:=ad.len;omega
   have MP:bn=nb:=by have h1:=Lx.tb.I3.basis.hlen;have h2:=ad.Ji;omega
   subst IT;subst MP;clear hdi;by_cases ao:k<bn
   ·have⟨eb,DI,IU,Fg⟩:=Lx.tb.I3.basis.at ao;subst IU;have⟨b,hb⟩:=e9 (tt.basis[k]?.getD 0);rw[<-hb]at Fg;have HB:=I hb;clear hb;by_cases Ts:b<(nc:Int)
    ·have HD1:=I (qV HD.o (by rw[<-HB.o];exact Ts));go_wp2_with fail;refine kf ?_;exact⟨k+1,tt,lf,_,_,_,_,_,_,_,I (k8 HK.o),by go_num,HD1,Lx,HM⟩
    have TJ:=I (show¬tt.basis[k]?.getD 0<nc by rw[<-HB.o];exact Ts);have Hy:=I (Lx.tb.I3.rows.at ao);have hqj:=ad.row k ao;have Fq:=I hqj.1;have Ze:=I ad.bounds;clear hqj
    go_upto_block 4 with fail
    go_cut [] (λwx=>Rx w1 y9 wx ((bP nc (q1.t,q1.left) (k+1)).map λx=>(x.1,1000-x.2)))
    case first =>
     go_wp2
     go_loopg [112] nc (λgk jj wr=>∃j:Nat,b9 (gk+j=nc)/\jj=.int .i64 (j:Int)/\b9 (((tt.row k).take j).all (λc=>!IS c)=true)/\b9 (C7 y9 wr))
     ·exact N0
     obtain⟨j,HJ,rfl,HA,C0⟩:=hrel;clear c0 c1 c2 c3 c4 Z Fg;have GJ:=I (Lx.ext C0);have⟨c0,c1,c2,c3,c4,Z⟩:=GJ.cells;by_cases F0:j<nc
     ·have⟨Zr,Ld,ya,yn,yc,Rz,F8,z8⟩:=GJ.tb.I3.rows.at ao;subst Rz;have Lj:yn=nc+bn+1:=by rw[<-z8.hlen];exact Fq
      have EN:=z8.r8;have KG:=z8.r9;have⟨yb,Et,p,q,KY,D4,Qq,Qp⟩:=z8.at (show j<yn by omega);subst KY;have hjy:=Rd j yn;have EJ:b9 ((tt.row k)[j]?.getD (0,0)=(p,q)):=D4;have HROW2:=I z8;clear D4 z8 Lj;go_upto_region 27 with fail
      go_cut [127] (λs127 wx=>s127=bl (IS (p,q))/\b9 (C7 wr wx))
      case first =>
       cases h1:(p == 0)
       all_goals
        cases h2:(q == 1)
       all_goals
        have HE8:=I (ZQ p q);rw[h1,h2]at HE8;have o7:=C7.drew wr;have D0:=o7;have o8:=I (λ(w':J) (h:C7 wr w')=>(an (h.o6 c0) (an (h.o6 F8) (an (h.o6 Qq) (an (h.o6 Qp) h)))))
        go_region_held3 (λw'=>w'.cell? ⟨w1,0,none⟩=some (GI (some ⟨Zr,Ld,none⟩) bn rc)/\w'.cell? ⟨Zr,Ld+k,none⟩=some (GI (some ⟨yb,Et,none⟩) yn yc)/\w'.cell? ⟨yb,Et+j*2,none⟩=some (.int .i64 p)/\w'.cell? ⟨yb,Et+j*2+1,none⟩=some (.int .i64 q)/\C7 wr w')
         (with_reducible exact o8.o _ o7)
         (first
           | ((with_reducible refine(cO 0 _).mono ?_)
              rintro e w7 ⟨rfl,ER⟩;have o7:C7 wr w7:=o7.trans ER;have hs_w7:=o7.size))
        clear D0;go_wp2;go_meet;exact⟨by rw[HE8.o];rfl,I o7⟩
      obtain⟨rfl,Qc⟩:=hcut;have FV:=I (C0.trans Qc);have K9:=I (GJ.ext Qc);clear c0 c1 c2 c3 c4 Z F8 Qq Qp;cases YK:IS (p,q)
      ·have DT:=I (ux fv EJ.o HA.o YK);clear YK;exact RJ
      have Mf:=I (qT HD.o (k8 TJ.o) F0 fv HA.o (by rw[EJ.o];exact YK) hlf);have M5:=I (zy K9.o ad.o j0 j0 j0 (k:Int) (j:Int));clear YK;go_wp2_with fail;refine IR M5 λw6 hl6=>?_;have O7:=I (Rx.more FV.o hl6);clear hl6;go_wp2;go_meet;rw[Mf.o];exact O7
     have Ii:nc=j:=k8 HJ.o;have Mf:=I (qU HD.o (k8 TJ.o) (by rw[Ii];exact HA));clear Ii;go_wp2;go_meet;rw[Mf.o];exact⟨WP.of C0.o,_,_,_,_,_,_,_,GJ⟩
    obtain⟨hmc,Ru,Rt,rc',ba',RZ,bc',vs',EA⟩:=hcut;have HMC:=I (HM.trans hmc);clear hmc c0 c1 c2 c3 c4 Z Fg;cases hd:bP nc (q1.t,q1.left) (k+1)with
    | none =>
      rw[hd]at EA;obtain⟨t',n',hs'⟩:=EA;have HSF:=I hs';have Hp:=I (show Gi A B C=none by rw[N7.o,Hk.o,FN.o,nL hd j0];rfl);clear hs' hd;have⟨c0,c1,c2,c3,c4,Z⟩:=HSF.cells;have Uc:=I (HMC.ext XW5.o (k8 XW1.size));have⟨l0,l1,l2,l3,l4,l5,l6,lf'⟩:=Ef (Uc.blk EB);go_wp2;refine Fn (v:=.tuple #[H8 (bh 0) none 0 0 none 0 0 none 0 0,bl false]) ZZ rfl ⟨?_,(A8.trans Uc).FR (b7 _) _ _ _ _ _ _ _⟩;rw[Hp.o];exact⟨bh 0,none,0,0,none,0,0,none,0,0,rfl⟩
    | some st =>
      obtain⟨t',f'⟩:=st;rw[hd]at EA;have HD':=I hd;have HSF:b9 (ew wc w1 Ru Rt rc' ba' RZ bc' vs' t' (1000-f') false):=EA;clear EA hd;have⟨c0,c1,c2,c3,c4,Z⟩:=HSF.cells;go_wp2_with fail;refine kf ?_;exact⟨k+1,t',f',_,_,_,_,_,_,_,I (k8 HK.o),by go_num,HD',HSF,HMC⟩
   have DV:bn=k:=k8 HK.o;subst DV;have Uc:=I (HM.ext XW5.o (k8 XW1.size));have HZR1:=I (HZ5.mod HM.o Qd.box);have p2:=aJ (Uc.blk HTB);have ae7:=I (uk (H.ext Uc).c 0 bn j0 j0);clear c0 c1 c2 c3 c4 Z;go_wp2_with fail;refine TS ae7 λw6 v6 JG hx=>?_;obtain⟨a6,n6,c6,rfl,Ia⟩:=JG.var;refine t8 (Lx.ext hx) (Uc.trans hx) (HZR1.ext hx) λHS6 X6 HZ6=>?_;have Yj:=I (MH HS6.o ad.o j0 j0 j0 JG);have Ju:=I (show C++List.replicate bn ((0:Int),(1:Int))=dw C (JL B) by unfold dw;rw[FN.o]);clear JG hx Ia p2;go_wp2_with fail;refine Yj.mono ?_;rintro e w7 ⟨hm7,ra7,rn7,rc7,ba7,bn7,bc7,vs7,hp7⟩;have⟨o2,Gs⟩:=e9 (bD (dw C (JL B)) lf tt);have Wr:bD (C++List.replicate bn ((0:Int),(1:Int))) (1000-(1000-lf)) tt=o2:=by rw[Gs,Ju.o,show 1000-(1000-lf)=lf by omega]
   rw[Wr]at hp7;refine t8 Gs (HZ6.mod hm7 HS6.box) (show C7 W w7 from hm7.ext X6.o (k8 XW1.size)) λab HZ7 X7=>?_;clear Wr Gs hm7;cases o2 with
   | none =>
     obtain⟨v7,col7,t7,n7',rfl,Q7⟩:=hp7;have Ox:=I Q7;clear Q7;have⟨c0,c1,c2,c3,c4,Z⟩:=Ox.cells;have Hp:=I (show Gi A B C=none by rw[N7.o,Hk.o,FN.o,HD.o,mr];simp only;rw[show dw C bn=dw C B.length by rw[FN.o],<-ab.o];rfl);have⟨l0,l1,l2,l3,l4,l5,l6,lf'⟩:=Ef (X7.blk EB);go_wp2;refine Fn (v:=.tuple #[H8 (bh 0) none 0 0 none 0 0 none 0 0,bl false]) ZZ rfl ⟨?_,(A8.trans X7).FR (b7 _) _ _ _ _ _ _ _⟩;rw[Hp.o];exact⟨bh 0,none,0,0,none,0,0,none,0,0,rfl⟩
   | some q2 =>
     obtain⟨v7,rfl,Qv,Q7⟩:=hp7;obtain⟨a10,n10,c10,rfl,abn⟩:=Qv.var;have Ox:=I Q7;have II:=I Qv;have hinv:=eE ad.o ab.symm;have HT:=I hinv.1;have TB:=I (fi HT.o hinv.2.1).1;have aeG:=I hinv.2.2;have Lp:=uB ad.o ab.symm;have OX:=I (show Gi A B C=some (if 0<=q2.DU then⟨3,(Ga q2.t).take nc,[],F6 q2.t nc q2.DU.toNat bn,(0,0),1000-q2.left⟩
      else⟨1,(Ga q2.t).take nc,(List.range bn).map (eM B q2.costs nc),[],C5 (q2.costs[nc+bn]?.getD (0,0)),1000-q2.left⟩)by
      rw[N7.o,Hk.o,FN.o,HD.o,mr];simp only;rw[show dw C bn=dw C B.length by rw[FN.o],<-ab.o];rfl)
     have hb7:bn=bn7:=by have h1:=Q7.tb.I3.basis.hlen;have h2:=HT.Ji;omega
     have hr7:bn=rn7:=by have h1:=Q7.tb.I3.rows.hlen;have h2:=HT.len;omega
     subst hb7;subst hr7;clear Q7 Qv hinv;have hn10:n10=u+1:=by have h1:=abn.o;rw[TB.1]at h1;have:=HU.o;omega
     have HN1:=I hn10;have hr10a:=II.rats.r8;have hr10b:=II.rats.r9;clear hn10;have⟨c0,c1,c2,c3,c4,Z⟩:=Ox.cells;obtain⟨pv,KK⟩:∃p:Int,p=((1000-q2.left:Nat):Int):=⟨_,rfl⟩;have abi:=I (show(1000:Int)-(q2.left:Int)=pv by have:=aeG.o;rw[KK];omega);have HPVC:=I KK.symm;clear KK;have aez:=I (wF Ox.tb.I3 j0 (HT.ok j0));have Pe:JL (Ga q2.t)=nc+bn:=by
      unfold Ga;rw[f9 (HT.ok j0),kD,HT.A6,HT.len];simp
     have F5:=I Pe;clear Pe;have⟨qc,hqc⟩:=e9 q2.DU;rw[<-hqc]at Lp OX⊢;clear hqc;go_wp2_with fail;refine TS aez λw8 v8 I4 hx=>?_;obtain⟨ax,nx,cx,rfl,Yp⟩:=I4.var;have hnx:nx=nc+bn:=by have h1:=Yp.o;rw[F5.o]at h1;omega
     refine ns hx I4 (Ox.ext hx) (HZ7.ext hx) (X7.trans hx) λMa HOX Sa MY X8=>?_;have MO:=I4.rats.r8;have hcx2:=I4.rats.r9;have hcx3:(nc:Int)<=(cx:Int):=j0;clear I4 hx hnx MO c0 c1 c2 c3 c4 Z;have hs8:=X8.size;rcases Lp with hc|⟨jc,hc,hjc⟩
     ·subst hc;have Kk:=I (show Gi A B C=some ⟨1,(Ga q2.t).take nc,(List.range bn).map (eM B q2.costs nc),[],C5 (q2.costs[nc+bn]?.getD (0,0)),pv⟩by
       rw[OX.o,f7 j0,abi.o])
      have al:IntKind.i64.wrap ((n10:Int)-1)=(u:Int):=by have:=HN1.o;rw[mn];omega
      have Zn:=I (II.ext Ma);have⟨yb,Et,vx,vy,KY,P7,JC,EN⟩:=Zn.rats.at (show u<n10 by have:=HN1.o;omega);subst KY;have FG:=TB.2 u (k8 HU.o);rw[P7]at FG;have FG:=aU FG;have aad:-9223372036854775807<=vx:=by have:=FG.2.2.1;simp only at this;omega
      have aac:vx<=9223372036854775807:=by have:=FG.2.2.2;simp only at this;omega
      have FH:=I (show C5 (q2.costs[nc+bn]?.getD (0,0))=(-vx,vy)by rw[<-HU.o,P7];rfl);have⟨c0,c1,c2,c3,c4,Z⟩:=Sa.cells;rw[HPVC.o]at c3;have Kr:(u:Int)<(n10:Int):=k8 HN1.o;have KZ:=ST u;clear P7 FG;go_upto_region 47 with fail
      go_cut [21] (λsx wx=>∃g:Nat,sx=aP (some ⟨g,0,none⟩)/\b9 (K6 w8 wx g 1 (GI ax nc cx) (GI none 0 0) (GI none 0 0) (-vx) vy pv))
      case first =>
       have o7:=C7.drew w8;have o8:=I λw' (h:C7 w8 w')=>TX (h.o6 JC) (TX (h.o6 EN) (TX (h.o6 c3) h));refine mc o8 o7 λo9=>?_;refine mq ⟨?_⟩;refine PV ⟨?_⟩;refine tk 8 ?_;refine tk 9 ?_;refine tk 10 ?_;refine tk 11 ?_;refine YT (rs:=[7,13]) j8 j7 ?_;refine Rg (λK hK=>?_) ?_
       ·
        go_simp
        (go_at_call 129;refine IR (eX vx vy _ aad aac) λw9 Qr=>?_;have o7:=o7.trans Qr)
        go_wp2_with fail;refine KO (o8 _ o7) λo9=>?_;refine tk 12 ?_;have K4:=K6.new o7;refine rd 13 λK hK=>?_;go_simp;refine KO (o8 _ K4.ext) λo9=>?_;have⟨gz,Pg⟩:=e9 w9.heap.size;rw[<-Pg]at K4;rw[<-Pg];have⟨WZ,hWZ⟩:=e9 (w9.alloc YG);rw[<-hWZ]at K4 o9;rw[<-hWZ];clear hWZ Pg;have IX:=K4.c0;have IW:=K4.c1;have b2_:=K4.c2;have b3_:=K4.c3;have b4_:=K4.c4;have b5_:=K4.c5;have b6_:=K4.c6;have bf_:=K4.free;refine rd 14 λK hK=>?_;go_simp;refine hK.out _ _ ?_ (λo9=>?_)
        ·exact o8.o _ (K4.put _ _ _ _ _ _ _).ext
        clear hK K
        try simp only[Act.put,sA,sB,sC]
        refine Pi j8 ?_ _;go_wp2;go_meet;exact⟨_,rfl,I (K4.put _ _ _ _ _ _ _)⟩
       refine Rg (λK hK=>?_) WW;have K4:=K6.DS (C7.refl (w8.alloc YG).drew);go_simp;refine KO (o8 _ K4.ext) λo9=>?_;have⟨gz,Pg⟩:=e9 w8.heap.size;rw[<-Pg]at K4;rw[<-Pg];have⟨WZ,hWZ⟩:=e9 ((w8.alloc YG).drew);rw[<-hWZ]at K4 o9;rw[<-hWZ];clear hWZ Pg;refine rd 7 λK hK=>?_;go_simp
       (go_at_call 129;refine IR (eX vx vy _ aad aac) λw9 Qr=>?_;have K4:=K4.grow Qr;have o7:=K4.ext)
       go_wp2_with fail;refine KO (o8 _ o7) λo9=>?_;have IX:=K4.c0;have IW:=K4.c1;have b2_:=K4.c2;have b3_:=K4.c3;have b4_:=K4.c4;have b5_:=K4.c5;have b6_:=K4.c6;have bf_:=K4.free;refine tk 12 ?_;refine rd 14 λK hK=>?_;go_simp;refine hK.out _ _ ?_ (λo9=>?_)
       ·exact o8.o _ (K4.put _ _ _ _ _ _ _).ext
       clear hK K
       try simp only[Act.put,sA,sB,sC]
       refine Pi j8 ?_ _;go_wp2;go_meet;exact⟨_,rfl,I (K4.put _ _ _ _ _ _ _)⟩
      obtain⟨g,rfl,FN⟩:=hcut;have Nr:b9 (Uf wc w8 g 1 (GI ax nc cx) (GI none 0 0) (GI none 0 0) (-vx) vy pv ((List.range 0).map (eM B q2.costs nc))):=I ⟨FN.box,FN.hg,qj⟩;have Qc:=I FN.ext;clear FN c0 c1 c2 c3 c4 Z JC EN al;go_wp2
      go_loopg [219] bn (λgk ii wr=>∃(k:Nat) (vY:arQ),b9 (gk+k=bn)/\ii=.int .i64 (k:Int)/\b9 (Uf wr w8 g 1 (GI ax nc cx) vY (GI none 0 0) (-vx) vy pv ((List.range k).map (eM B q2.costs nc)))/\b9 (C7 w8 wr))
      ·exact⟨0,_,I j0,rfl,Nr,Qc⟩
      obtain⟨k,vY,LN,rfl,HL,af⟩:=hrel;have hsr:=af.size;have aa8:=I (X8.trans af);by_cases ao:k<bn
      ·have⟨z,hz⟩:=e9 (nc+k);have hzu:z<n10:=by have:=HU.o;have:=HN1.o;omega
       have⟨zb',Up,ex,ey,NA,T8,Fg,Kc⟩:=(Zn.ext af).rats.at hzu;simp only[bq,H4,E5]at NA;obtain⟨rfl,rfl⟩:=NA;have FG:=TB.2 z (by have:=HU.o;have:=HN1.o;omega);rw[T8]at FG;have FG:=aU FG;have hex0:-9223372036854775807<=ex:=by have:=FG.2.2.1;simp only at this;omega
       have hex1:ex<=9223372036854775807:=by have:=FG.2.2.2;simp only at this;omega
       have hnx0:-9223372036854775807<=-ex:=by have:=FG.2.2.2;simp only at this;omega
       have hnx1:-ex<=9223372036854775807:=by have:=FG.2.2.1;simp only at this;omega
       have⟨yB,yoffB,hbaB,G5⟩:=(H.ext aa8).b.at ao;subst hbaB;have⟨bi,Hi⟩:=e9 (B[k]?.getD 0);rw[<-Hi]at G5;have TR:=I (show eM B q2.costs nc k=He bi (-ex,ey)by unfold eM;rw[<-hz,T8,Hi];rfl);have RF:=wq ((nc:Int)+(k:Int)) (z:Int);have VZ:=Rd z n10;have V0:=ST z;have O':=I Hi;clear T8 Hi hz FG G5;go_wp2_with fail;refine IR (eX ex ey _ hex0 hex1) λw9 hx=>?_;have⟨E2,hE2⟩:=e9 (w9.alloc (QD #[.int .i64 (-ex),.int .i64 ey] 56));have Ee:=I (show ah wr E2 w9 (-ex) ey by rw[hE2];exact ah.new hx _ _);have⟨gb,H9⟩:=e9 w9.heap.size;rw[<-H9]at Ee;have SQ:=I (aa8.trans Ee.ext);go_upto_region 52 with fail;rw[<-hE2,<-H9];clear hE2 H9 hx RF VZ V0 Fg Kc;have p1:=aI (SQ.blk HTB);have⟨bb',aiq,WT,G5⟩:=(H.ext SQ).b.at ao;simp only[bq,H4,E5]at WT;obtain⟨rfl,rfl⟩:=WT;rw[<-O'.o]at G5;have HL2:=I (HL.ext Ee.ext);have C0:=I (af.trans Ee.ext);obtain⟨e1,J7⟩:∃e1,He bi (-ex,ey)=(e1,ey):=by unfold He C5;split<;>exact⟨_,rfl⟩
       have K8:=I J7;clear J7;go_upto_if 234 with fail
       go_cut [6] (λs6 wx=>s6=aP (some ⟨w1,0,none⟩)/\b9 (ah wr wx gb e1 ey))
       case first =>
        have g0:=Ee.c0;have g1':=Ee.c1;have gf:=Ee.free;by_cases MP:bi<0
        ·have Kc:ex=e1:=by have:=K8.o;unfold He C5 at this;rw[f9 MP]at this;exact(Int.neg_neg ex).symm.trans (If Prod.fst this)
         subst Kc;rw[show decide (bi<0)=true from UV MP];go_wp2_with fail;refine(eX (-ex) ey _ hnx0 hnx1).mono ?_;exact M4
        have Kc:e1=-ex:=by have:=K8.o;unfold He at this;rw[f7 j0]at this;exact(If Prod.fst this).symm
        subst Kc;rw[show decide (bi<0)=false from Ok j0];go_wp2;go_meet;exact⟨rfl,Ee⟩
       obtain⟨rfl,En⟩:=hcut;have LA:=I (HL.ext En.ext);have FV:=I (af.trans En.ext);have g0:=En.c0;have g1':=En.c1;have y2:=(Ef LA.box).2.2.1;have JK:=En.lt;have hlb:=In LA.box;have J8:=FV.size;have MZ:=I (show((List.range k).map (eM B q2.costs nc)).length=k by simp);have F9:=I (show(List.range k).map (eM B q2.costs nc)++[(e1,ey)]=(List.range (k+1)).map (eM B q2.costs nc)by rw[<-K8.o,<-TR.o];exact dm _ _);have hgb2:=LA.hg;clear p1 G5
       go_wp2_with (first
        | (at_builtin;refine cG rfl _ _ rfl w8 vY _ rfl (LA.y.ext WU) _ 1 _ [(e1,ey)] rfl (C2 j7) K0 m9 ?_;intro v9 w9 ho hg r7;obtain⟨a9,n9,q9,rfl,N'⟩:=ho.var;have Gl:=I ho;have Rn:=I hg;have EX:=LA.aef WU hg;have Y0:=(Ef EX).2.2.1;have SM:=(Ef EX).2.2.2.2.2.2.2;have Nk:C7 w8 w9:=aj (C7.trans FV.o WU) hg (λj hj=>(LA.y.lt j hj).1);clear ho hg r7 EX))
       have Kx:=I (LA.abK WU Rn.o Gl);have B7:=I (Nk.setCell (p:=⟨g,2,none⟩) hgb2 (GI a9 n9 q9));refine Zl ?_;exact⟨k+1,_,I (k8 LN.o),by go_num,I (by rw[<-F9.o];exact Kx),B7⟩
      have DV:bn=k:=k8 LN.o;subst DV;obtain⟨ay,ny,cy,rfl,HNY⟩:=HL.y.var;have⟨m0,m1,m2,m3,m4,m5,m6,mf⟩:=Ef HL.box;have⟨l0,l1,l2,l3,l4,l5,l6,lf'⟩:=Ef (aa8.blk EB);have Ol:=In HL.box;have hsz7:=X7.size;have adj:=X8.size;have hswz:=IH.o;go_wp2;refine Fn (v:=.tuple #[H8 ⟨1,(Ga q2.t).take nc,(List.range bn).map (eM B q2.costs nc),[],(-vx,vy),pv⟩ ax nc cx ay ny cy none 0 0,bl true]) Nl rfl ⟨?_,(A8.trans aa8).FR (b7 _) _ _ _ _ _ _ _⟩;rw[Kk.o,FH.o];refine⟨ax,nc,cx,ay,ny,cy,none,0,0,rfl,?_,?_,?_⟩
      ·exact((HOX.ext af).keep λi hi=>cu _ (k8 ((HOX.lt i hi).1)) _ _ _ _ _ _ _).Py cm (by have h1:=Yp.o;rw[F5.o]at h1;omega)
      ·exact(HL.y.keep λi hi=>cu _ (k8 ((HL.y.lt i hi).1)) _ _ _ _ _ _ _).Jx (by have:=A8.size;have:=X8.size;omega)
      exact λW _=>i6.Ny W
     subst hc;have Kk:=I (show Gi A B C=some ⟨3,(Ga q2.t).take nc,[],F6 q2.t nc jc bn,(0,0),pv⟩by
      rw[OX.o,f9 j0,abi.o,gg])
     have HRT9:=I (jv MY.ints j0);rw[HZR.o]at HRT9;go_wp2_with fail;refine TS HRT9 λw9 v9 T5 hx=>?_;obtain⟨a9,n9,c9,rfl,N'⟩:=T5.var;obtain rfl:nc=n9:=by have h1:=N'.o;rw[G6]at h1;exact h1
     have⟨G,hG,MQ,P8,Tv⟩:=T5.block (k:=jc) hjc;subst hG;have Gl:=I T5;have IZ:=I hx;have hjc2:=Rd jc nc;clear T5 hx;go_wp2_with fail;refine IR (cO 1 _) λNx hx=>?_;have H5:=I (Gl.ext hx);have PR:=I (IZ.trans hx);have⟨G',SK,g1v,g2v,Ij,Jd,Ms,K2⟩:=H5.rats.at hjc;simp only[bq,H4,E5]at Ij;obtain⟨rfl,rfl⟩:=Ij;rw[hI]at Ms K2;have ad3:=Pw Tv hx.size;have adK:∀j,Nx.frozen? ⟨G,j,none⟩=false:=λj=>(hx.frozen (p:=⟨G,j,none⟩) Tv).trans (P8 j);have Ec:=I (show WV ((Nx.setCell ⟨G,jc*2,none⟩ (.int .i64 1)).setCell ⟨G,jc*2+1,none⟩ (.int .i64 1)) w8 (GI (some ⟨G,0,none⟩) nc c9) (F6 q2.t nc jc 0)by
      rw[Da];exact H5.set (k:=jc) m9 1 1)
     have HX:=I ((PR.setCell (p:=⟨G,jc*2,none⟩) MQ (.int .i64 1)).setCell (p:=⟨G,jc*2+1,none⟩) MQ (.int .i64 1));clear Jd hx P8;go_upto_region 40 with fail;have⟨Pc,RG⟩:=e9 ((Nx.setCell ⟨G,jc*2,none⟩ (.int .i64 1)).setCell ⟨G,jc*2+1,none⟩ (.int .i64 1));rw[<-RG]at Ec HX;rw[<-RG];clear RG Ms K2 adK ad3 Tv;have OW:=I (Sa.ext HX);have⟨c0,c1,c2,c3,c4,Z⟩:=OW.cells;go_wp2
     go_loopg [174] bn (λgk ii wr=>∃i:Nat,b9 (gk+i=bn)/\ii=.int .i64 (i:Int)/\b9 (WV wr w8 (GI (some ⟨G,0,none⟩) nc c9) (F6 q2.t nc jc i))/\b9 (C7 w8 wr))
     ·exact YJ
     obtain⟨i,HI,rfl,HR,GV⟩:=hrel;clear c0 c1 c2 c3 c4 Z;have GJ:=I (Sa.ext GV);have⟨c0,c1,c2,c3,c4,Z⟩:=GJ.cells;rw[HPVC.o]at c3;have Nc:=GV.size;by_cases hlt:i<bn
     ·have⟨eb,DI,IU,Fg⟩:=GJ.tb.I3.basis.at hlt;subst IU;have⟨bb,NK⟩:=e9 (q2.t.basis[i]?.getD 0);rw[<-NK]at Fg;have Gf:=I NK;have Nj:0<=bb/\bb<nc+bn:=by
       exact Wm
      clear NK;by_cases Ts:bb<(nc:Int)
      ·obtain⟨bN,hbN⟩:∃n:Nat,bb=n:=⟨bb.toNat,by omega⟩;subst hbN;have QC:bN<nc:=by omega
       have⟨Zr,Ld,ya,yn,yc,Rz,F8,z8⟩:=GJ.tb.I3.rows.at hlt;subst Rz;have Lj:yn=nc+bn+1:=by rw[<-z8.hlen];exact(HT.row i hlt).1
       have EN:=z8.r8;have KG:=z8.r9;have⟨yb,Et,p,q,KY,D4,Qq,Qp⟩:=z8.at (show jc<yn by omega);subst KY;have hjy:=Rd jc yn;have EJ:b9 (q2.t.at i jc=(p,q)):=D4;have LV:-9223372036854775807<=p:=by have:=(HT.bounds.2 i jc).1;rw[EJ.o]at this;exact this
       have MM:p<=9223372036854775807:=by have:=(HT.bounds.2 i jc).2;rw[EJ.o]at this;exact this
       clear D4 z8 Lj Nj;go_wp2_with fail;refine IR (eX p q _ LV MM) λMh hx=>?_;have PT:=I (HR.ext hx);have abe:=I (GV.trans hx);have⟨G',SK,g1v,g2v,Ij,Jd,Ms,K2⟩:=PT.rats.at QC;simp only[bq,H4,E5]at Ij;obtain⟨rfl,rfl⟩:=Ij;rw[hI]at Ms K2;have⟨G2,hG2,adV,adK,ad3⟩:=PT.block (k:=bN) QC;simp only[bq,H4,E5]at hG2;subst hG2;have Np:=I (show WV ((Mh.setCell ⟨G,bN*2,none⟩ (.int .i64 (-p))).setCell ⟨G,bN*2+1,none⟩ (.int .i64 q)) w8 (GI (some ⟨G,0,none⟩) nc c9) (F6 q2.t nc jc (i+1))by
        rw[qv VD,<-Gf.o,gg,EJ.o];exact PT.set (k:=bN) (by rw[kC];exact QC) (-p) q)
       have B7:=I ((abe.setCell (p:=⟨G,bN*2,none⟩) adV (.int .i64 (-p))).setCell (p:=⟨G,bN*2+1,none⟩) adV (.int .i64 q));clear Jd hx c0 c1 c2 c3 c4 Z;exact ff
      have Np:=I (show WV wr w8 (GI (some ⟨G,0,none⟩) nc c9) (F6 q2.t nc jc (i+1))by rw[tF VD];exact HR);clear Nj;go_wp2_with fail;refine Z5 ?_;exact⟨i+1,I (k8 HI.o),by go_num,Np,GV⟩
     have D7:bn=i:=k8 HI.o;subst D7;have⟨l0,l1,l2,l3,l4,l5,l6,lf'⟩:=Ef ((X8.trans GV).blk EB);have adj:=X8.size;have hswz:=IH.o;go_wp2;refine Fn (v:=.tuple #[H8 ⟨3,(Ga q2.t).take nc,[],F6 q2.t nc jc bn,(0,0),pv⟩ ax nc cx none 0 0 (some ⟨G,0,none⟩) nc c9,bl true]) Nl rfl ⟨?_,(A8.trans (X8.trans GV)).FR (b7 _) _ _ _ _ _ _ _⟩;rw[Kk.o];refine⟨ax,nc,cx,none,0,0,some ⟨G,0,none⟩,nc,c9,rfl,?_,?_,?_⟩
     ·exact((HOX.ext GV).keep λi hi=>cu _ (by have:=(HOX.lt i hi).1;have:=X7.size;omega) _ _ _ _ _ _ _).Py cm (by have h1:=Yp.o;rw[F5.o]at h1;omega)
     ·exact λW _=>i6.Ny W
     exact(HR.keep λi hi=>cu _ (k8 ((HR.lt i hi).1)) _ _ _ _ _ _ _).Jx (by have:=A8.size;have:=X8.size;omega)
end
def Y3(w:J)(base:Nat)(e:Ending)(r:G9):Prop:=∃xa xn xc ya yn yc ra rn rc,e=ar (H8 r xa xn xc ya yn yc ra rn rc)/\Jl w base xa xn xc ya yn yc ra rn rc r
def Y3.zero(w:J)(base:Nat)(s:Int):Y3 w base (ar (H8 (bh s) none 0 0 none 0 0 none 0 0)) (bh s):=⟨none,0,0,none,0,0,none,0,0,rfl,Jl.zero w base s⟩
section
variable{w:J}{a:l9}{na ca:Nat}{b:l9}{nb cb:Nat}{c:l9}{nc cc:Nat}{A:l8}{B:o3}{C:l7}
def Oo(h:σ:=by
 go_in
 go_upto_region 1 with fail;rw[<-hW];clear hW;have p0:=aw HTB.o;have p1:=aI HTB.o;have p2:=aJ HTB.o;go_wp2_with fail;refine HV.mono ?_;rintro e w1 ⟨rfl,hx⟩;have X1:=I hx;have⟨l0,l1,l2,l3,l4,l5,l6,lf⟩:=Ef (X1.blk EB);clear hx p0 p1 p2;go_wp2;refine Fn (v:=H8 (bh 0) none 0 0 none 0 0 none 0 0) (by simp[results,qq0,go_sem,l0,l1,l2,l3,l4,l5,l6,lf,bh]) rfl ⟨?_,(A8.trans X1).FR (b7 _) _ _ _ _ _ _ _⟩;rw[HR.o];exact Y3.zero _ _ _
 ):σ:=h
theorem kY(h:Kh w a na ca b nb cb c nc cc A B C):
 Calls prog 128 #[Ig a na ca b nb cb c nc cc] w λe w'=>Y3 w' w e (bG az A B C)/\C7 w w':=by
 have B8:=(C7.alloc w (bT a na ca b nb cb c nc cc)).trans (C7.alloc _ YG);have⟨W,hW⟩:=e9 ((w.alloc (bT a na ca b nb cb c nc cc)).alloc YG);rw[<-hW]at B8;refine ns B8 (h.ext B8) (show W.heap[w.heap.size+1]?=some (QD #[U 0,d6,d6,d6,U 0,U 0,U 0] 109 (0,0))by rw[hW];exact IO j7) (show W.heap[w.heap.size]?=some (QD #[GI a na ca,GI b nb cb,GI c nc cc] 105 (0,0))by rw[hW,aZ _ _ _ j7];exact IO rfl) (show W.heap.size=w.heap.size+1+1 by rw[hW];simp) λA8 H EB HTB IH=>?_;have HV:=I (fB H);clear B8;cases DL:Ej A B C
 ·rw[DL]at HV;have HR:=I (show bG az A B C=bh 0 by unfold bG;rw[DL];rfl);clear h DL;have qq0:=@ts;exact Oo
 rw[DL]at HV;have Fs:=I DL;have GA:=I (show bG az A B C=match Gi A B C with|none=>bh 4|some r=>if aQ az A B C r=true then r else bh 4 by unfold bG;rw[f9 DL];cases Gi A B C<;>rfl);have Ff:=I (λ(W':J) (hx:C7 W W')=>Z8 (H.ext hx) Fs);have⟨o,ho⟩:=e9 (Gi A B C);rw[<-ho]at GA;simp only[<-ho]at Ff;clear h DL ho;go_in
 go_upto_region 1 with fail;rw[<-hW];clear hW;have⟨p0,p1,p2⟩:=gl HTB.o;go_wp2_with fail;refine i7 HV λw1 X1=>?_;clear p0 p1 p2;have⟨p0,p1,p2⟩:=gl (X1.blk HTB);go_wp2_with fail;refine(Ff _ X1).mono ?_;rintro e w2 ⟨hs,hx⟩;have X2:=I (X1.trans hx);clear hx p0 p1 p2;cases o with
 | none =>
   obtain⟨r,xa,Z,xc,K,E,G,ra,rn,rc,rfl⟩:=hs;have X3:=I (X2.trans (C7.alloc w2 (cZ r xa Z xc K E G ra rn rc)));obtain⟨rs,rX,rY,rr,⟨Ei,D6⟩,rp⟩:=r;have⟨l0,l1,l2,l3,l4,l5,l6,lf⟩:=Ef (X3.blk EB);go_wp2;refine Fn (v:=H8 (bh 4) none 0 0 none 0 0 none 0 0) PX rfl ⟨?_,(A8.trans X3).FR (b7 _) _ _ _ _ _ _ _⟩;rw[GA.o];exact Y3.zero _ _ _
 | some r =>
   obtain⟨xa,Z,xc,K,E,G,ra,rn,rc,rfl,Ka⟩:=hs;refine t8 (X2.trans (C7.alloc w2 (cZ r xa Z xc K E G ra rn rc))) (Ka.ext (C7.alloc w2 (cZ r xa Z xc K E G ra rn rc))) (Ka.here.ext (C7.alloc w2 (cZ r xa Z xc K E G ra rn rc))) λX3 TN Ft=>?_;have YD:=I (λ(W':J) (hx:C7 (w2.alloc (cZ r xa Z xc K E G ra rn rc)) W')=>Cm (H.ext (X3.trans hx)) (Ft.ext hx) Fs);have⟨ck,T9⟩:=e9 (aQ az A B C r);have Yi:=I (show bG az A B C=if ck=true then r else bh 4 by rw[GA.o,T9]);simp only[<-T9]at YD;have Jv:b9 ((w2.alloc (cZ r xa Z xc K E G ra rn rc)).heap[w2.heap.size]?=some (cZ r xa Z xc K E G ra rn rc)):=IO rfl;have⟨WR,hWR⟩:=e9 (w2.alloc (cZ r xa Z xc K E G ra rn rc));have⟨gr,Fo⟩:=e9 w2.heap.size;rw[<-hWR,<-Fo]at Jv;rw[<-hWR]at X3 Ft TN;simp only[<-hWR]at YD;obtain⟨rs,rX,rY,rr,⟨Ei,D6⟩,rp⟩:=r;clear Ka T9;go_upto_region 4 with fail;rw[<-hWR,<-Fo];clear hWR Fo;have⟨p0,p1,p2⟩:=gl (X3.blk HTB);have⟨q0,q1,q2,q3,q4,q5,q6,qf⟩:=Ef Jv.o;go_wp2_with fail;refine i7 (YD _ WF) λw4 hx=>?_;have X4:=I (X3.trans hx);have HLW4:=I (TN.ext hx);have⟨l0,l1,l2,l3,l4,l5,l6,lf⟩:=Ef (X4.blk EB)
   have HBR4:=I (hx.blk Jv);clear p0 p1 p2 q0 q1 q2 q3 q4 q5 q6 qf;cases ck
   ·go_wp2;refine Fn (v:=H8 (bh 4) none 0 0 none 0 0 none 0 0) PX rfl ⟨?_,(A8.trans X4).FR (b7 _) _ _ _ _ _ _ _⟩;rw[Yi.o];exact Y3.zero _ _ _
   have⟨q0,q1,q2,q3,q4,q5,q6,qf⟩:=Ef HBR4.o;have IK:=X1.size;have Mn:=IH.o;go_wp2;refine Fn (v:=H8 ⟨rs,rX,rY,rr,(Ei,D6),rp⟩ xa Z xc K E G ra rn rc) (by simp[results,ts,go_sem,l0,l1,l2,l3,l4,l5,l6,lf]) rfl ⟨?_,(A8.trans X4).FR (b7 _) _ _ _ _ _ _ _⟩;rw[Yi.o];exact⟨xa,Z,xc,K,E,G,ra,rn,rc,rfl,(HLW4.keep j7 λk hk _=>cu _ j0 _ _ _ _ _ _ _).mono j0⟩
end
end
section
variable{tt:Tb}
theorem Vo{p q:Int}(h:z7 (p,q)=true):IS (p,q)=decide (p≠0):=by
 have hb:=aU h;unfold IS;by_cases E:p=0
 ·subst E;have hg:gI 0 q=1:=by
   simp only[z7,eI,ef]at h;exact h.2.2
  have G:q=1:=by
   unfold gI at hg;have:Int.gcd 0 q=q.natAbs:=by simp[Int.gcd]
   rw[this]at hg;simp only at hb;omega
  subst G;simp
 rw[UV E,UV];intro e;exact E (If Prod.fst e)
theorem ic.more{S:Nat}{a:l9}{na ca:Nat}{b:l9}{nb cb:Nat}{c:l9}{nc cc:Nat}{u v w:J}{o:Option (Tb×Nat)}(hx:C7 u v)(h:ic S a na ca b nb cb c nc cc v w o):ic S a na ca b nb cb c nc cc u w o:=⟨(WP.of hx).trans h.1,h.2⟩
theorem As{N:Nat}{G:Tb×Nat}{k:Nat}{t':Tb}{H f':Nat}(E:bP N G (k+1)=some (t',f'))(h:bP N G k=some (tt,H))(K:H<=1000):f'<=1000:=by
 rw[fY,h,mr]at E;unfold ju at E;split at E
 ·cases E;exact K
 split at E
 ·cases E;exact K
 split at E
 ·cases E
 next f e =>
 rw[Sc]at E;obtain⟨x,_,hx⟩:=E;simp only[wb]at hx;simp only at e;omega
theorem At{n m:Nat}{T0:Nat->Nat->Rat}{N:Nat}{H:Tb×Nat}{k:Nat}{t':Tb}{Q f':Nat}(G:EY n m T0 tt)(h:bP N H k=some (tt,Q))(E:bP N H (k+1)=some (t',f')):EY n m T0 t':=by
 rw[fY,h,mr]at E;unfold ju at E;split at E
 ·cases E;exact G
 split at E
 ·cases E;exact G
 split at E
 ·cases E
 rw[Sc]at E;obtain⟨x,hx,K⟩:=E;simp only[wb]at K;obtain⟨rfl,_⟩:=K;exact gS G hx
section
variable{w:J}{S:Nat}{a:l9}{na ca:Nat}{b:l9}{nb cb:Nat}{c:l9}{nc cc:Nat}{ra:l9}{rc:Nat}{ba:l9}{bc:Nat}{vs:List arQ}{t:Tb}{n:Nat}{N m:Nat}{T0:Nat->Nat->Rat}
theorem ic.some{w w':J}{rn bn:Nat}{tt:Tb}{E:Nat}(hm:WP S w w')(h:cg w' S a na ca b nb cb c nc cc ra rn rc ba bn bc vs tt E false)(hn:E<=1000):ic S a na ca b nb cb c nc cc w w' ((some (tt,1000-E)).map λx=>(x.1,1000-x.2)) :=
 ⟨hm,ra,rn,rc,ba,bn,bc,vs,by show cg _ _ _ _ _ _ _ _ _ _ _ _ _ _ _ _ _ _ _ (1000-(1000-E)) _;rw[show 1000-(1000-E)=E by omega];exact h⟩
structure SS(w wr:J)(S:Nat)(a:l9)(na ca:Nat)(b:l9)(nb cb:Nat)(c:l9)(nc cc:Nat)(N m:Nat)(T0:Nat->Nat->Rat)(s0:Tb×Nat)(k:Nat)(nn:Nat)(f:Bool)(tt:Tb)(ra:l9)(rn rc:Nat)(ba:l9)(bn bc:Nat)(vs:List arQ):Prop where
 mod:WP S w wr
 st:cg wr S a na ca b nb cb c nc cc ra rn rc ba bn bc vs tt nn f
 go:f=false->bP N s0 k=some (tt,1000-nn)/\nn<=1000/\EY N m T0 tt/\rn=m/\bn=m
 no:f=true->bP N s0 k=none
def Ea(h:σ:=by
 go_wp2_with fail;refine VP (Wt rfl _ _ _) rfl ⟨rfl,?_⟩;rw[HDE.o];exact⟨HH.mod,_,_,_,_,_,_,_,_,_,HH.st⟩
 ):σ:=h
theorem Dw(h:cg w S a na ca b nb cb c nc cc ra m rc ba m bc vs t n false)(hT:EY N m T0 t)(hN:N<=1000)(hm:m<=1000)(hn:n<=1000):
 Calls Tryz.prog 247 #[aP (some (O S 0))] w λe w'=>e=ar (.tuple #[])/\ic S a na ca b nb cb c nc cc w w' ((bP N (t,1000-n) m).map λx=>(x.1,1000-x.2)):=by
 have H0:b9 (SS w w S a na ca b nb cb c nc cc N m T0 (t,1000-n) 0 n false t ra m rc ba m bc vs):=I ⟨WP.refl _ _,h,λ_=>⟨rfl,hn,hT,rfl,rfl⟩,λe=>by cases e⟩;have hlt:=In h.box;clear h hT;go_in
 go_wp2
 go_loopg [2] m (λgk ii wr=>∃(k nn:Nat) (f:Bool) (tt:Tb) (ra:l9) (rn rc:Nat) (ba:l9) (bn bc:Nat) (vs:List arQ),b9 (gk+k=m)/\ii=U k/\b9 (SS w wr S a na ca b nb cb c nc cc N m T0 (t,1000-n) k nn f tt ra rn rc ba bn bc vs))
 ·exact⟨0,n,false,t,_,_,_,_,_,_,_,I j0,rfl,H0⟩
 rename Nat=>g1;rename J=>y9;obtain⟨k,nn,f,tt,ra,rn,rc,ba,bn,bc,vs,HK,rfl,HH⟩:=hrel;have⟨l0,l1,l2,c0,c1,c2,c3,c4,cf⟩:=HH.st.cells;have hl1:=In HH.st.box;have IK:=HH.mod.size;have Iq:=HK.o;cases f
 ·have⟨E,FT,hTT,IT,MP⟩:=HH.go rfl;subst IT;subst MP;refine t8 E hTT hTT.A6 λHD HT KX=>?_;rw[KX.o]at c2;have⟨Eh,FZ⟩:=HH.st.tb.I3.rows.aq9;have⟨E6,Ew⟩:=HH.st.tb.I3.basis.aq9;clear E hTT;by_cases Ez:k<bn
  ·have⟨eb,DI,IU,Fg⟩:=HH.st.tb.I3.basis.at Ez;subst IU;have⟨bb,Gf⟩:=GT (tt.basis[k]?.getD 0);rw[<-Gf.o]at Fg;have KN:=ST k;have Gj:=Rd k bn
   go_upto_block 1 with fail
   go_cut [2] (λs2 wx=>s2=U k/\ic S a na ca b nb cb c nc cc y9 wx ((bP N (t,1000-n) (k+1)).map λx=>(x.1,1000-x.2)))
   case first =>
    go_upto_region 3 with fail;have o7:=C7.drew y9;have o8:=I λw' (h:C7 y9 w')=>TX (h.o6 c1) (TX (h.o6 c2) (TX (h.o6 Fg) h));refine mc o8 o7 λo9=>?_
    refine vA ⟨?_⟩;refine Pi j8 ?_ _;have⟨w3,E8⟩:=e9 y9.drew;have X3:=I (show C7 y9 w3 by rw[E8];exact o7);rw[<-E8];have K9:=I (HH.st.ext X3);have J0:=I (HH.mod.trans (WP.of X3));clear o7 l0 l1 l2 c0 c1 c2 c3 c4 cf Fg E8 o9;have⟨l0,l1,l2,c0,c1,c2,c3,c4,cf⟩:=K9.cells;rw[KX.o]at c2;by_cases Ts:bb<(N:Int)
    ·have HD1:=I (qV HD.o (by rw[<-Gf.o];exact Ts));go_wp2;go_meet;refine⟨rfl,?_⟩;rw[HD1.o];exact ic.some (WP.of X3) K9.o FT
    have TJ:=I (show(N:Int)<=tt.basis[k]?.getD 0 by rw[<-Gf.o];omega);have K:=HT.row k Ez;have Fq:=I K.1;have HRV:=I K.2;clear K;go_wp2
    go_loopg [3] N (λgk jj wr=>∃j:Nat,b9 (gk+j=N)/\jj=U j/\b9 (((tt.row k).take j).all (λc=>!IS c)=true)/\w3=wr)
    ·exact yo
    obtain⟨j,HJ,rfl,HA,rfl⟩:=hrel;by_cases F0:j<N
    ·have⟨Zr,Ld,ya,yn,yc,Rz,F8,z8⟩:=K9.tb.I3.rows.at Ez;subst Rz;have Lj:yn=N+bn+1:=by rw[<-z8.hlen];exact Fq
     have⟨EN,KG⟩:=z8.aq9;have⟨yb,Et,p,q,KY,D4,Qq,Qp⟩:=z8.at (show j<yn by omega);subst KY;have hjy:=Rd j yn;have LQ:=HRV.o j j0;rw[show(tt.row k)[j]?.getD (0,0)=(p,q)from D4]at LQ;have EJ:b9 ((tt.row k)[j]?.getD (0,0)=(p,q)):=D4;have TF:=I (Vo LQ);clear D4 z8 Lj LQ;by_cases LV:p=0
     ·have HA2:=I (ux fv EJ.o HA.o (by rw[TF.o];simp[LV]));subst LV;go_wp2_with fail;refine vE ?_;exact⟨j+1,I (k8 HJ.o),by go_num,HA2,rfl⟩
     have Nd:(p != 0)=true:=by simpa using LV
     refine t8 (qT HD.o (k8 TJ.o) F0 fv HA.o (by rw[EJ.o,TF.o];simpa using LV) j0) (uR K9.o HT.o hN hm FT Ez F0) (show 1000-(1000-nn)=nn by omega) λMf M5 LJ=>?_;clear LV;go_wp2_with fail;refine IR M5 λw6 hl6=>?_;go_wp2;go_meet;exact⟨rfl,by rw[Mf.o,LJ.o];exact ic.more X3.o hl6⟩
    have Ii:N=j:=k8 HJ.o;have Mf:=I (qU HD.o (k8 TJ.o) (by rw[Ii];exact HA));clear Ii;go_wp2;go_meet;refine⟨rfl,?_⟩;rw[Mf.o];exact ic.some (WP.of X3) K9.o FT
   obtain⟨rfl,hmc,Ru,Rt,H,ba',RZ,bc',G,EA⟩:=hcut;have HMC:=I (HH.mod.trans hmc);clear hmc l0 l1 l2 c0 c1 c2 c3 c4 cf;cases E:bP N (t,1000-n) (k+1)with
   | none =>
     rw[E]at EA;obtain⟨t',n',hs'⟩:=EA;have HHN:b9 (SS w wc S a na ca b nb cb c nc cc N bn T0 (t,1000-n) (k+1) n' true t' Ru Rt H ba' RZ bc' G):=I ⟨HMC,hs',λe=>(by cases e),λ_=>E⟩;clear hs' E;go_wp2
     go_roundg (g1-1)
     case measure=>omega
     exact⟨k+1,n',true,t',_,_,_,_,_,_,_,I j0,by go_num,HHN⟩
   | some st =>
     obtain⟨t',f'⟩:=st;rw[E]at EA;have hf':f'<=1000:=by
      have hs:=As E HD.o j0;exact hs
     have Z:=At HT.o HD.o E;have adh:=cg.same (show cg wc S a na ca b nb cb c nc cc Ru Rt H ba' RZ bc' G t' (1000-f') false from EA) Z;have HHN:b9 (SS w wc S a na ca b nb cb c nc cc N bn T0 (t,1000-n) (k+1) (1000-f') false t' Ru Rt H ba' RZ bc' G):=I ⟨HMC,EA,λ_=>⟨by rw[E];congr 2;omega,by omega,Z,adh.1,adh.2⟩,λe=>by cases e⟩;clear EA E Z adh;go_wp2
     go_roundg (g1-1)
     case measure=>omega
     exact⟨k+1,1000-f',false,t',_,_,_,_,_,_,_,I j0,by go_num,HHN⟩
  have DV:bn=k:=j0;have HDE:=I (show bP N (t,1000-n) bn=some (tt,1000-nn)by rw[DV];exact HD);clear DV;go_wp2_with fail;refine VP (Wt rfl _ _ _) rfl ⟨rfl,?_⟩;rw[HDE.o];exact ic.some HH.mod HH.st FT
 have HDE:b9 (bP N (t,1000-n) m=none):=nL (HH.no rfl) j0;by_cases Ez:k<rn
 ·exact Ea
 exact Ea
end
end
section
variable{w:J}{g:Nat}
theorem BV{v:o4}(E:z7 v=true):DM v (0,1)<0↔v.1<0:=by
 have hb:=aU E;unfold DM;rw[f9 (by rw[E];decide)];simp only;constructor
 ·intro h;split at h
  ·next h1=>omega
  split at h
  ·omega
  omega
 intro h;rw[f9 j0];omega
theorem yA(n m:Nat):FM (eQ n m)=true:=by
 unfold FM eQ;rw[tn,Pm,Pm];have G:z7 ((0:Int),(1:Int))=true:=by decide
 have E:z7 ((1:Int),(1:Int))=true:=by decide
 rw[G,E];simp
theorem yC{C:l7}(h:FM C=true)(m:Nat):FM (dw C m)=true:=by
 unfold FM dw at *;rw[tn,h,Pm];have E:z7 ((0:Int),(1:Int))=true:=by decide
 rw[E];simp
def mm(w:J)(S:Nat)(a:l9)(na ca:Nat)(b:l9)(nb cb:Nat)(c:l9)(nc cc:Nat)(e:Ending)(w':J)(o:Option G9):Prop :=
 WP S w w'/\match o with
  | some r=>∃xa xn xc ya yn yc za zn zc,e=ar (H8 ⟨r.status,r.X,r.Y,r.IJ,r.value,0⟩ xa xn xc ya yn yc za zn zc)/\Jl w' w xa xn xc ya yn yc za zn zc r/\∃ra rn rc ba bn bc vs t n,cg w' S a na ca b nb cb c nc cc ra rn rc ba bn bc vs t n false/\(n:Int)=r.Rw
  | none=>∃r xa xn xc ya yn yc za zn zc,e=ar (H8 r xa xn xc ya yn yc za zn zc)/\∃ra rn rc ba bn bc vs t n,cg w' S a na ca b nb cb c nc cc ra rn rc ba bn bc vs t n true
theorem Fp.FR{base:Nat}{G E:arQ}{vs:List arQ}{t:Tb}{c:Array arQ}{z:Nat×Nat}(h:Fp w base G E vs t)(hb:w.heap[g]?=some (QD c 109 z))(x0 x1 x2 Z Q K H:arQ):
 Fp (((((((w.setCell (O g 0) x0).setCell (O g 1) x1).setCell (O g 2) x2).setCell (O g 3) Z).setCell (O g 4) Q).setCell (O g 5) K).setCell (O g 6) H) base G E vs t:=by
 refine⟨h.a.keep λk hk=>cu _ ?_ _ _ _ _ _ _ _,h.rows.keep λi k hi hk=>cu _ ?_ _ _ _ _ _ _ _,h.b.keep λk hk=>cu _ ?_ _ _ _ _ _ _ _⟩
 ·exact λe=>(aq h.a hb Fd) RA
 ·exact λe=>(aq (h.rows.row i hi) hb Fd) RA
 exact λe=>(aq h.b hb Fd) RA
section
variable{w:J}{S:Nat}{a:l9}{na ca:Nat}{b:l9}{nb cb:Nat}{c:l9}{nc cc:Nat}{ra:l9}{rn rc:Nat}{ba:l9}{bn bc:Nat}{vs:List arQ}{t:Tb}{n:Nat}{f:Bool}
theorem cg.FR{g:Nat}{cs:Array arQ}{z:Nat×Nat}(h:cg w S a na ca b nb cb c nc cc ra rn rc ba bn bc vs t n f)(hb:w.heap[g]?=some (QD cs 109 z))(x0 Z Q K H G E:arQ):
 cg (((((((w.setCell (O g 0) x0).setCell (O g 1) Z).setCell (O g 2) Q).setCell (O g 3) K).setCell (O g 4) H).setCell (O g 5) G).setCell (O g 6) E) S a na ca b nb cb c nc cc ra rn rc ba bn bc vs t n f :=
 ⟨(cu _ (lJ h.box hb Fd) _ _ _ _ _ _ _).trans h.box,h.tb.FR hb _ _ _ _ _ _ _⟩
end
theorem WP.FR{S:Nat}{w0:J}(h:WP S w0 w)(hg:w0.heap.size<=g)(x0 Z Q K H G E:arQ):
 WP S w0 (((((((w.setCell (O g 0) x0).setCell (O g 1) Z).setCell (O g 2) Q).setCell (O g 3) K).setCell (O g 4) H).setCell (O g 5) G).setCell (O g 6) E):=by
 have hx:=C7.FR (C7.refl w) (b:=w.heap.size) (i8 _) x0 Z Q K H G E;refine⟨?_,?_,?_,?_,λk hk hn=>?_⟩
 ·have:=((((((bz g w).setCell (p:=(O g 0)) (i8 g) x0).setCell (p:=(O g 1)) (i8 g) Z).setCell (p:=(O g 2)) (i8 g) Q).setCell (p:=(O g 3)) (i8 g) K).setCell (p:=(O g 4)) (i8 g) H).setCell (p:=(O g 5)) (i8 g) G |>.setCell (p:=(O g 6)) (i8 g) E
  exact this.os.trans h.os
 ·have:=((((((bz g w).setCell (p:=(O g 0)) (i8 g) x0).setCell (p:=(O g 1)) (i8 g) Z).setCell (p:=(O g 2)) (i8 g) Q).setCell (p:=(O g 3)) (i8 g) K).setCell (p:=(O g 4)) (i8 g) H).setCell (p:=(O g 5)) (i8 g) G |>.setCell (p:=(O g 6)) (i8 g) E
  exact this.tape.trans h.tape
 ·have:=((((((bz g w).setCell (p:=(O g 0)) (i8 g) x0).setCell (p:=(O g 1)) (i8 g) Z).setCell (p:=(O g 2)) (i8 g) Q).setCell (p:=(O g 3)) (i8 g) K).setCell (p:=(O g 4)) (i8 g) H).setCell (p:=(O g 5)) (i8 g) G |>.setCell (p:=(O g 6)) (i8 g) E
  exact this.output.trans h.output
 ·have:=h.size;simpa using this
 exact(cu _ j0 _ _ _ _ _ _ _).trans (h.block k hk hn)
theorem WV.aaX{b0:Nat}{yb G n cap u:Nat}{l:l7}{x y:Int}(h:WV w b0 (GI (some (O yb G)) n cap) l)(H:u<n)(K:l[u]?.getD (0,0)=(x,y)):w.cell? (O yb (G+u*2))=some (U x)/\w.cell? (O yb (G+u*2+1))=some (U y):=by
 have⟨yb',agb,x',y',e,E,Z,Q⟩:=h.rats.at H;obtain⟨rfl,rfl⟩:=aM e;rw[K]at E;simp only[wb]at E;obtain⟨rfl,rfl⟩:=E;exact⟨Z,Q⟩
section
variable{w0 w:J}{S:Nat}{a:l9}{na ca:Nat}{b:l9}{cb:Nat}{c:l9}{nc cc:Nat}{A:l8}{B:o3}{C:l7}{ra:l9}{rc:Nat}{ba:l9}{bc:Nat}{vs:List arQ}
theorem Dx(h0:Kh w0 a na ca b na cb c nc cc A B C)(ok:Ej A B C=true)(hx:C7 w0 w)(hS:w0.heap.size<=S)(h:cg w S a na ca b na cb c nc cc ra na rc ba na bc vs (cz A B nc) 0 false):
 Calls Tryz.prog 179 #[aP (some (O S 0))] w λe w'=>mm w S a na ca b na cb c nc cc e w' (Iv A B C):=by
 refine t8 hx h0 h λA8 H0 Qd=>?_;have hlt:=In h.box;have⟨r1,r2,r3,r4,r5,r6⟩:=dI h0 ok;refine t8 (show JL A=na from h0.a.hlen) (show JL B=na from h0.b.hlen) (show JL C=nc from h0.c.hlen) λHc FN Hk=>?_;have TI:=I (show EY nc na (λk j=>B4 (dF A B k) j) (cz A B nc)by have:=jD ok;rw[Hk.o,Hc.o]at this;exact this)
 have HVC:=I (show FM C=true by
  rw[lP]at ok;simp only[eI]at ok;exact ok.2.2.2.1)
 have⟨T',ON⟩:=h0.a.aq9;have⟨E6,Ew⟩:=h0.b.aq9;have⟨Eu,GU⟩:=h0.c.aq9;have⟨W,hW⟩:=e9 (w.alloc YG);have XW:=I (show C7 w W by rw[hW];exact WU);have EB:=I (show W.heap[w.heap.size]?=some (QD #[U 0,d6,d6,d6,U 0,U 0,U 0] 109 (0,0))by rw[hW];exact IO rfl);refine t8 (λ(w':J) (hm:WP S W w')=>(hm.block _ (In EB) j0).trans EB) (λ(w':J) (hm:WP S W w')=>H0.ext (hm.ext (hx.trans XW) hS)) (Qd.ext XW) λDO Fb IH=>?_;clear h0 hx h r3 r4 r5 r6 ok;go_in
 go_upto_region 1 with fail;rw[<-hW];clear hW;have⟨H,G,E,c0,c1,c2,c3,c4,Z⟩:=IH.cells;have KX:=I (uP (Fb W (WP.refl _ _)) true j0 j0);go_wp2_with fail;refine PP KX λw4 v4 Hd hx=>?_;obtain⟨a4,n4,c4',rfl,Ys⟩:=Hd.var;have Oy:=I (IH.ext hx);have Oj:n4=nc+na:=by have h1:=Ys.o;simp only[js,Pl,eQ,SW,G6]at h1;rw[Hk.o]at h1;omega
 have N6:=I (uQ Oy.o TI.o j0 j0 j0 Hd Oj (yA _ _));have Lc:=I (WP.of (S:=S) hx);clear Hd Oj Ys H G E c0 c1 c2 c3 c4 Z;go_wp2_with fail;refine N6.mono ?_;rintro e w5 ⟨Mr,ra5,rn5,rc5,ba5,bn5,bc5,Zu,Tm⟩;have Jo:=I (Lc.trans Mr);have⟨o1,HO1⟩:=GT (bD (eQ (JL C) (JL B)) 1000 (cz A B (JL C)));have Wr:bD (js true C na) (1000-0) (cz A B nc)=o1:=by rw[HO1.o,Hk.o,FN.o];simp only[js,Pl];rw[Hk.o]
 rw[Wr]at Tm;clear Wr Mr;have⟨q0,q1,q2,q3,q4,q5,q6,qf⟩:=Ef (DO _ Jo);have HMW:=I ((WP.of (S:=S) XW).trans Jo);cases o1 with
 | none =>
   obtain⟨v5,col5,t5,n5,rfl,KJ⟩:=Tm;have JP:=I KJ;have Hp:=I (show Iv A B C=none by unfold Iv;rw[<-HO1.o];rfl);clear KJ;have⟨H,G,E,c0,c1,c2,c3,c4,Z⟩:=JP.cells;go_wp2;refine Fn (v:=H8 (bh 0) none 0 0 none 0 0 none 0 0) Um rfl ⟨HMW.FR (i8 _) _ _ _ _ _ _ _,?_⟩;rw[Hp.o];exact⟨bh 0,none,0,0,none,0,0,none,0,0,rfl,_,_,_,_,_,_,_,_,_,JP.FR (DO _ Jo) _ _ _ _ _ _ _⟩
 | some p1 =>
   obtain⟨v5,rfl,Mq,KJ⟩:=Tm;obtain⟨a5,n5,c5,rfl,It⟩:=Mq.var;have hinv:=eE (t:=cz A B nc) TI.o (show bD (eQ (JL C) (JL B)) 1000 (cz A B nc)=some p1 by rw[<-Hk.o];exact HO1.symm);have HQT:=I hinv.1;have HQC:=I (fi HQT.o hinv.2.1).1;have HQL:=I hinv.2.2;have⟨e1,e2⟩:=cg.same KJ HQT.o;have Ua:=e1.symm;have e2':=e2.symm;clear e1 e2;subst Ua;subst e2';have JP:=I KJ;have DT:=I Mq;clear KJ Mq hinv;have⟨u,hu⟩:=e9 (nc+na);have HU:=I hu;have HN:=I (show n5=u+1 by have h1:=It.o;rw[HQC.1]at h1;omega);have⟨yb,Et,lx,ly,KY,P7,JC,EN⟩:=DT.rats.at (show u<n5 by have:=HN.o;omega);subst KY;have LQ:=HQC.2 u j0;rw[P7]at LQ;have⟨hr5a,hr5b⟩:=DT.rats.aq9;have Mz:=I (show p1.costs[JL C+B.length]?.getD (0,0)=(lx,ly)by rw[Hk.o,FN.o,<-HU.o];exact P7);have YK:IntKind.i64.wrap ((n5:Int)-1)=(u:Int):=by have:=HN.o;rw[mn];omega
   have Kr:(u:Int)<(n5:Int):=k8 HN.o;have KZ:=ST u;have F9:=I (qD lx ly w5);have⟨sg,J7⟩:=e9 (DM (lx,ly) (0,1));have K8:=I (show sg<0↔lx<0 by rw[J7];exact BV LQ);rw[<-J7]at F9;have⟨H,G,E,c0,c1,c2,c3,c4,Z⟩:=JP.cells;clear J7 P7 hu LQ;go_wp2_with fail;refine i7 F9 λw6 hx=>?_;refine t8 (JP.ext hx) (DT.ext hx) (Jo.trans (WP.of hx)) λHS6 EP Sd=>?_;clear YK Kr KZ JC EN H G E c0 c1 c2 c3 c4 Z q0 q1 q2 q3 q4 q5 q6 qf;have⟨H,G,E,c0,c1,c2,c3,c4,Z⟩:=HS6.cells;have⟨q0,q1,q2,q3,q4,q5,q6,qf⟩:=Ef (DO _ Sd);by_cases GP:sg<0
   ·have N7:=I (show Iv A B C=some ⟨2,[],(List.range na).map (ek B (1,1) p1.costs nc),[],(0,0),1000-p1.left⟩by
     unfold Iv;rw[<-HO1.o];simp only[mr];rw[Mz.o,f9 (K8.1 GP),FN.o,Hk.o])
    have HDU:=I (xV HS6.o HQT.A6 (Fb _ Sd).b T' ON EP.rats (by have:=HN.o;have:=HU.o;omega) (by have:=HN.o;have:=HU.o;omega) 1);go_wp2_with fail;refine PP HDU λw7 v7 Qv hx=>?_;obtain⟨a7,n7,c7,rfl,My⟩:=Qv.var;refine t8 (HS6.ext hx) (Sd.trans (WP.of hx)) Qv λOx Yu II=>?_;have hs67:=Sd.size;clear Qv H G E c0 c1 c2 c3 c4 Z q0 q1 q2 q3 q4 q5 q6 qf;have⟨q0,q1,q2,q3,q4,q5,q6,qf⟩:=Ef (DO _ Yu);have aeS:=I ((WP.of (S:=S) XW).trans Yu);have JK:=In EB.o;go_wp2;refine Fn (v:=H8 ⟨2,[],(List.range na).map (ek B (1,1) p1.costs nc),[],(0,0),0⟩ none 0 0 a7 n7 c7 none 0 0) ZN rfl ⟨aeS.FR (i8 _) _ _ _ _ _ _ _,?_⟩;rw[N7.o];refine⟨none,0,0,a7,n7,c7,none,0,0,rfl,⟨λW _=>i6.Ny W,?_,λW _=>i6.Ny W⟩,_,_,_,_,_,_,_,_,_,Ox.FR (DO _ Yu) _ _ _ _ _ _ _,?_⟩
    ·exact(II.keep λi hi=>cu _ (k8 ((II.lt i hi).1)) _ _ _ _ _ _ _).Jx j0
    show((1000-p1.left:Nat):Int)=1000-(p1.left:Int);have:=HQL.o;omega
   have N7:=I (show Iv A B C=(bP nc (p1.t,p1.left) na).bind λs=>(bD (dw C na) s.2 s.1).map λp2 =>
    if 0<=p2.DU then⟨3,(Ga p2.t).take nc,[],F6 p2.t nc p2.DU.toNat na,(0,0),1000-p2.left⟩
    else⟨1,(Ga p2.t).take nc,(List.range na).map (ek B (0,1) p2.costs nc),[],C5 (p2.costs[nc+na]?.getD (0,0)),1000-p2.left⟩by
    unfold Iv;rw[<-HO1.o];simp only[mr];rw[Mz.o,f7 (λh=>GP (K8.2 h)),FN.o,Hk.o])
   have HDR:=I (Dw HS6.o HQT.o j0 j0 j0);have HLF:=I (show 1000-(1000-p1.left)=p1.left by have:=HQL.o;omega);rw[HLF.o]at HDR;go_wp2_with fail;refine HDR.mono ?_;rintro e w7 ⟨rfl,hm7,ra7,rn7,rc7,ba7,bn7,bc7,vs7,hl7⟩;have Yu:=I (Sd.trans hm7);clear hm7 H G E c0 c1 c2 c3 c4 Z q0 q1 q2 q3 q4 q5 q6 qf;have⟨q0,q1,q2,q3,q4,q5,q6,qf⟩:=Ef (DO _ Yu);have aeS:=I ((WP.of (S:=S) XW).trans Yu);cases hd:bP nc (p1.t,p1.left) na with
   | none =>
     rw[hd]at hl7;obtain⟨t7,n7,Q7⟩:=hl7;have Ox:=I Q7;have Hp:=I (show Iv A B C=none by rw[N7.o,hd];rfl);clear Q7 hd;have⟨H,G,E,c0,c1,c2,c3,c4,Z⟩:=Ox.cells;go_wp2;refine Fn (v:=H8 (bh 0) none 0 0 none 0 0 none 0 0) Um rfl ⟨aeS.FR (i8 _) _ _ _ _ _ _ _,?_⟩;rw[Hp.o];exact⟨bh 0,none,0,0,none,0,0,none,0,0,rfl,_,_,_,_,_,_,_,_,_,Ox.FR (DO _ Yu) _ _ _ _ _ _ _⟩
   | some st =>
     obtain⟨tt,lf⟩:=st;rw[hd]at hl7;have hdi:=gO (s:=(p1.t,p1.left)) HQT.o hd;have HT:b9 (EY nc na _ tt):=hdi.1;have hlf:lf<=1000:=by have h1:=hdi.2;have h2:=HQL.o;simp only at h1;omega
     have HD:=I hd;have Q7:cg w7 S a na ca b na cb c nc cc ra7 rn7 rc7 ba7 bn7 bc7 vs7 tt (1000-lf) false:=hl7;have⟨e1,e2⟩:=cg.same Q7 HT.o;have Ua:=e1.symm;have e2':=e2.symm;clear e1 e2 hl7;subst Ua;subst e2';have Ox:=I Q7;clear Q7 hd hdi;have⟨H,G,E,c0,c1,c2,c3,c4,Z⟩:=Ox.cells;have ae7:=I (uP (Fb _ Yu) false j0 j0);go_wp2_with fail;refine PP ae7 λw8 v8 I4 hx=>?_;obtain⟨a8,n8,c8,rfl,M7⟩:=I4.var;have Sa:=I (Ox.ext hx);have HM8:=I (Yu.trans (WP.of hx));have hn8:n8=nc+na:=by have h1:=M7.o;simp only[js,QQ,XP,dw,SW,G6]at h1;rw[Hk.o]at h1;omega
     have Yj:=I (uQ Sa.o HT.o j0 j0 j0 I4 hn8 (yC HVC.o _));clear I4 hn8 M7 H G E c0 c1 c2 c3 c4 Z q0 q1 q2 q3 q4 q5 q6 qf;go_wp2_with fail;refine Yj.mono ?_;rintro e w9 ⟨hm9,ra9,rn9,rc9,ba9,bn9,bc9,vs9,hp9⟩;have HM9:=I (HM8.trans hm9);have adj:=HM8.size;have⟨o2,Gs⟩:=e9 (bD (dw C na) lf tt);have Wr:bD (js false C na) (1000-(1000-lf)) tt=o2:=by rw[Gs,show 1000-(1000-lf)=lf by omega];rfl
     rw[Wr]at hp9;have Ec:=I Gs;have OX:=I (show Iv A B C=o2.map λp2=>if 0<=p2.DU then⟨3,(Ga p2.t).take nc,[],F6 p2.t nc p2.DU.toNat na,(0,0),1000-p2.left⟩
      else⟨1,(Ga p2.t).take nc,(List.range na).map (ek B (0,1) p2.costs nc),[],C5 (p2.costs[nc+na]?.getD (0,0)),1000-p2.left⟩by
      rw[N7.o,HD.o,mr,Gs])
     clear Wr Gs hm9;have⟨q0,q1,q2,q3,q4,q5,q6,qf⟩:=Ef (DO _ HM9);have HMW9:=I ((WP.of (S:=S) XW).trans HM9);cases o2 with
     | none =>
       obtain⟨v9,col9,t9,n9,rfl,YP⟩:=hp9;have R':=I YP;clear YP;have⟨H,G,E,c0,c1,c2,c3,c4,Z⟩:=R'.cells;go_wp2;refine Fn (v:=H8 (bh 0) none 0 0 none 0 0 none 0 0) Um rfl ⟨HMW9.FR (i8 _) _ _ _ _ _ _ _,?_⟩;rw[OX.o];exact⟨bh 0,none,0,0,none,0,0,none,0,0,rfl,_,_,_,_,_,_,_,_,_,R'.FR (DO _ HM9) _ _ _ _ _ _ _⟩
     | some p2 =>
       obtain⟨v9,rfl,T5,YP⟩:=hp9;obtain⟨a9,n9,c9,rfl,N'⟩:=T5.var;have hinv:=eE HT.o (show bD (dw C na) lf tt=some p2 from Ec.symm);have Hz:=I hinv.1;have TB:=I (fi Hz.o hinv.2.1).1;have aeG:=I hinv.2.2;have Lp:=uB HT.o (show bD (dw C na) lf tt=some p2 from Ec.symm);have⟨e1,e2⟩:=cg.same YP Hz.o;have Ua:=e1.symm;have e2':=e2.symm;clear e1 e2;subst Ua;subst e2';have R':=I YP;have Gl:=I T5;clear YP T5 hinv;have aez:=I (λ(w':J) (hx:C7 w9 w')=>xN (R'.ext hx).tb.I3 Hz.o j0 j0);have F5:=I (show(Ga p2.t).length=nc+na by
        unfold Ga;rw[f9 (Hz.ok j0),kD,Hz.A6,Hz.len];simp)
       have⟨qc,hqc⟩:=e9 p2.DU;rw[yl,<-hqc]at OX;rw[<-hqc]at Lp⊢;have TK:=I (show n9=u+1 by have h1:=N'.o;rw[TB.1]at h1;have:=HU.o;omega);have M5:=I (show((1000-p2.left:Nat):Int)=1000-(p2.left:Int)by have:=aeG.o;omega);have⟨H,G,E,c0,c1,c2,c3,c4,Z⟩:=R'.cells;rw[Hz.A6]at c2;have YP:=HM9.size;clear hqc;go_upto_region 12 with fail;have o7:=C7.drew w9;have o8:=I λw' (h:C7 w9 w')=>TX (h.o6 c0) (TX (h.o6 c1) (TX (h.o6 c2) h));refine mc o8 o7 λo9=>?_
       refine mq ⟨?_⟩;refine tk 3 ?_;refine V8 ⟨?_⟩;refine rd 4 λK hK=>?_;go_simp
       (go_at_call 248;refine TS (aez _ o7) λNx v10 Wu MI=>?_;have adk:=o7.size;have o7:=o7.trans MI;obtain⟨ax,nx,cx,rfl,Yp⟩:=Wu.var;have⟨hcx1,hcx2⟩:=Wu.rats.aq9;have hcx3:(nc:Int)<=(cx:Int):=(by(have h1:=Yp.o;rw[F5.o]at h1;omega)))
       go_wp2_with fail;refine KO (o8 _ o7) λo9=>?_;refine tk 10 ?_;refine tk 11 ?_;refine Pi j8 ?_ _;refine ns (Wu.mono adk) (show nc<=nx by have h1:=Yp.o;rw[F5.o]at h1;omega) (R'.ext o7) (Gl.ext o7) (HM9.trans (WP.of o7)) λHOX Kw QK H5 QP=>?_;have Yt:=I ((WP.of (S:=S) XW).trans QP);clear o7 Wu H G E c0 c1 c2 c3 c4 Z q0 q1 q2 q3 q4 q5 q6 qf hcx1 o9;have JK:=In EB.o;rcases Lp with hc|⟨jc,hc,hjc⟩
       ·subst hc;have Kk:=I (show Iv A B C=some ⟨1,(Ga p2.t).take nc,(List.range na).map (ek B (0,1) p2.costs nc),[],C5 (p2.costs[nc+na]?.getD (0,0)),1000-p2.left⟩by
         rw[OX.o,f7 j0])
        have HDU:=I (λ(w':J) (hx:C7 Nx w')=>xV (QK.ext hx) Hz.A6 (Fb _ (QP.trans (WP.of hx))).b T' ON (H5.ext hx).rats (by have:=TK.o;have:=HU.o;omega) (by have:=TK.o;have:=HU.o;omega) 0);have⟨yb2,Pb,vx,vy,KY,P7,JC,EN⟩:=H5.rats.at (show u<n9 by have:=TK.o;omega);subst KY;have FG:=TB.2 u (k8 HU.o);rw[P7]at FG;have FG:=aU FG;have aad:-9223372036854775807<=vx:=by have:=FG.2.2.1;simp only at this;omega
        have aac:vx<=9223372036854775807:=by have:=FG.2.2.2;simp only at this;omega
        have HLV2:=I P7;have FH:=I (show C5 (p2.costs[nc+na]?.getD (0,0))=(-vx,vy)by rw[<-HU.o,P7];rfl);have⟨hr9a,hr9b⟩:=H5.rats.aq9;have YK:IntKind.i64.wrap ((n9:Int)-1)=(u:Int):=by have:=TK.o;rw[mn];omega
        have Kr:(u:Int)<(n9:Int):=k8 TK.o;have KZ:=ST u;clear P7 FG;go_upto_region 15 with fail;have o7:=C7.drew Nx;have o8:=I λw' (h:C7 Nx w')=>TX (h.o6 JC) (TX (h.o6 EN) (Yt.trans (WP.of h)));refine mc o8 o7 λo9=>?_
        refine mq ⟨?_⟩;refine tk 4 ?_;refine V8 ⟨?_⟩;refine rd 3 λK hK=>?_;go_simp
        (go_at_call 246;refine TS (HDU _ o7) λMh v12 RO Ht=>?_;have Wm:=o7.size;have o7:=o7.trans Ht;obtain⟨a12,n12,c12,rfl,HN12⟩:=RO.var;have N8:=I (RO.mono Wm);clear RO)
        go_wp2_with fail;refine KO (o8 _ o7) λo9=>?_;refine rd 10 λK hK=>?_;go_simp
        (go_at_call 106;refine IR (eW vx vy _ aad aac) λTV V3=>?_;have o7:=o7.trans V3;have I1:=I (N8.ext V3);have HM13:=I (QP.trans (WP.of o7));have acB:=I (Yt.trans (WP.of o7));have HC13:=I (H5.ext o7);have⟨q0,q1,q2,q3,q4,q5,q6,qf⟩:=Ef (DO _ HM13))
        go_wp2_with fail;refine KO (o8 _ o7) λo9=>?_;refine tk 11 ?_;have ajl:=I (λ(x0 x1 x2 x3 x4 x5 x6:arQ)=>(show(λw'=>w'.cell? (O yb2 (Pb+u*2))=some (U vx)/\w'.cell? (O yb2 (Pb+u*2+1))=some (U vy)/\WP S w w') (((((((TV.setCell (O w 0) x0).setCell (O w 1) x1).setCell (O w 2) x2).setCell (O w 3) x3).setCell (O w 4) x4).setCell (O w 5) x5).setCell (O w 6) x6)from by
         have hc:=(HC13.keep (w':=(((((((TV.setCell (O w 0) x0).setCell (O w 1) x1).setCell (O w 2) x2).setCell (O w 3) x3).setCell (O w 4) x4).setCell (O w 5) x5).setCell (O w 6) x6)) λk hk=>cu _ (k8 ((HC13.lt k hk).1)) _ _ _ _ _ _ _).aaX (show u<n9 by have:=TK.o;omega) HLV2.o
         exact⟨hc.1,hc.2,acB.FR (i8 _) _ _ _ _ _ _ _⟩))
        refine rd 12 λK hK=>?_;go_simp;refine hK.out _ _ ?_ (λo9=>?_)
        ·exact ajl.o _ _ _ _ _ _ _
        clear hK K
        try simp only[Act.put,sA,sB,sC]
        refine Pi j8 ?_ _;go_wp2;refine Fn (v:=H8 ⟨1,(Ga p2.t).take nc,(List.range na).map (ek B (0,1) p2.costs nc),[],(-vx,vy),0⟩ ax nc cx a12 n12 c12 none 0 0) ZN rfl ⟨acB.FR (i8 _) _ _ _ _ _ _ _,?_⟩;rw[Kk.o,FH.o];refine⟨ax,nc,cx,a12,n12,c12,none,0,0,rfl,⟨?_,?_,λW _=>i6.Ny W⟩,_,_,_,_,_,_,_,_,_,(QK.ext o7).FR (DO _ HM13) _ _ _ _ _ _ _,M5⟩
        ·exact((HOX.ext o7).keep λi hi=>cu _ (k8 ((HOX.lt i hi).1)) _ _ _ _ _ _ _).Py j0 Kw.o
        exact(I1.keep λi hi=>cu _ (by have:=(I1.lt i hi).1;have:=QP.size;omega) _ _ _ _ _ _ _).Jx (k8 QP.size)
       subst hc;have Kk:=I (show Iv A B C=some ⟨3,(Ga p2.t).take nc,[],F6 p2.t nc jc na,(0,0),1000-p2.left⟩by
        rw[OX.o,f9 j0,gg])
       have HRY:=I (ZD QK.o Hz.o j0 j0 hjc);go_wp2_with fail;refine PP HRY λMh v12 RO abe=>?_;obtain⟨a12,n12,c12,rfl,HN12⟩:=RO.var;refine t8 RO (QP.trans (WP.of abe)) (Yt.trans (WP.of abe)) λN8 TM ai'=>?_;clear RO;have⟨q0,q1,q2,q3,q4,q5,q6,qf⟩:=Ef (DO _ TM);go_wp2;refine Fn (v:=H8 ⟨3,(Ga p2.t).take nc,[],F6 p2.t nc jc na,(0,0),0⟩ ax nc cx none 0 0 a12 n12 c12) ZN rfl ⟨ai'.FR (i8 _) _ _ _ _ _ _ _,?_⟩;rw[Kk.o];refine⟨ax,nc,cx,none,0,0,a12,n12,c12,rfl,⟨?_,λW _=>i6.Ny W,?_⟩,_,_,_,_,_,_,_,_,_,(QK.ext abe).FR (DO _ TM) _ _ _ _ _ _ _,M5⟩
       ·exact((HOX.ext abe).keep λi hi=>cu _ (k8 ((HOX.lt i hi).1)) _ _ _ _ _ _ _).Py j0 Kw.o
       exact(N8.keep λi hi=>cu _ (by have:=(N8.lt i hi).1;have:=QP.size;omega) _ _ _ _ _ _ _).Jx (k8 QP.size)
end
end
section
def Vb{A:l8}{B:o3}{C:l7}{r:G9}(h:Iv A B C=some r):JL r.X<=JL C:=by
 unfold Iv at h;cases G:bD (eQ (JL C) (JL B)) 1000 (cz A B (JL C))with
 | none=>rw[G]at h;cases h
 | some p1 =>
   rw[G]at h;simp only[mr]at h;split at h
   ·cases h;simp
   cases E:bP (JL C) (p1.t,p1.left) (JL B) with
   | none=>rw[E]at h;cases h
   | some s =>
     rw[E]at h;simp only[mr]at h;rw[Sc]at h;obtain⟨p2,_,h⟩:=h;split at h<;>subst h<;>simp only[k6]<;>omega
section
variable{w:J}{a:l9}{na ca:Nat}{b:l9}{nb cb:Nat}{c:l9}{nc cc:Nat}{A:l8}{B:o3}{C:l7}
def q7(h:σ:=by
 have FD:w7.heap[S]?=E.heap[S]?:=by rw[Gh];exact GE _ _ _ _ (λe=>hne e.symm)
 rw[aR w7 S _ _ _ _ (FD.trans Yf.box)];rfl
 ):σ:=h
theorem ls(h:Kh w a na ca b nb cb c nc cc A B C):
 Calls Tryz.prog 105 #[Ig a na ca b nb cb c nc cc] w λe w'=>Y3 w' w e (fc A B C)/\C7 w w':=by
 have B8:=(C7.alloc w (bT a na ca b nb cb c nc cc)).trans (C7.alloc _ YG);have⟨W,hW⟩:=e9 ((w.alloc (bT a na ca b nb cb c nc cc)).alloc YG);rw[<-hW]at B8;refine ns B8 (h.ext B8) (show W.heap[w.heap.size+1]?=some (QD #[U 0,d6,d6,d6,U 0,U 0,U 0] 109 (0,0))by rw[hW];exact IO j7) (show W.heap[w.heap.size]?=some (QD #[GI a na ca,GI b nb cb,GI c nc cc] 105 (0,0))by rw[hW,aZ _ _ _ j7];exact IO rfl) (show W.heap.size=w.heap.size+1+1 by rw[hW];simp) λA8 H EB HTB IH=>?_;have HV:=I (eV H);cases DL:Ej A B C
 ·rw[DL]at HV;have HR:=I (show fc A B C=bh 0 by unfold fc;rw[DL];rfl);clear h DL B8;have qq0:=@aA;exact Oo
 rw[DL]at HV;have⟨r1,r2,r3,r4,r5,r6⟩:=dI h DL;subst r3;have Fs:=I DL;have GA:=I (show fc A B C=match Iv A B C with|none=>bh 4|some r=>if aQ bL A B C r=true then r else bh 4 by unfold fc;rw[f9 DL];cases Iv A B C<;>rfl);have F4:=I (λ(w':J) (hx:C7 W w')=>tK (H.ext hx) Fs);have⟨o,ho⟩:=e9 (Iv A B C);rw[<-ho]at GA;have HXL:=I (λ(r:G9) (e:o=some r)=>show JL r.X<=nc by have:=Vb (ho.symm.trans e);rw[show C.length=nc from h.c.hlen]at this;exact this);have Ff:=I (λ(w':J) (S:Nat) (vs:List arQ) (ra:l9) (rc:Nat) (ba:l9) (bc:Nat) (hx:C7 W w') (hS:W.heap.size<=S) (hw:cg w' S a nb ca b nb cb c nc cc ra nb rc ba nb bc vs (cz A B nc) 0 false)=>Dx H.o Fs.o hx hS hw);simp only[<-ho]at Ff;have Ow:=I (show(cz A B nc).rows.length=nb/\(cz A B nc).basis.length=nb by unfold cz;simp[show A.length=nb from h.a.hlen]);clear h DL ho r4 r5 r6 B8;go_in
 go_upto_region 1 with fail;rw[<-hW];clear hW;have⟨p0,p1,p2⟩:=gl HTB.o;go_wp2_with fail;refine i7 HV λw1 X1=>?_;clear p0 p1 p2;have⟨p0,p1,p2⟩:=gl (X1.blk HTB);go_upto_region 3 with fail
 go_cut [3] (λs3 wx=>∃(S:Nat) (vs:List arQ) (ra:l9) (rc:Nat) (ba:l9) (bc:Nat),s3=aP (some (O S 0))/\b9 (C7 W wx)/\b9 (W.heap.size<=S)/\b9 (cg wx S a nb ca b nb cb c nc cc ra nb rc ba nb bc vs (cz A B nc) 0 false))
 case first =>
  have o7:=C7.drew w1;have o8:=I λw' (h:C7 w1 w')=>TX (h.o6 p0) (TX (h.o6 p1) (TX (h.o6 p2) h));refine mc o8 o7 λo9=>?_;refine tk 0 ?_;refine tk 1 ?_;refine rd 2 λK hK=>?_;go_simp
  (go_at_call 178;refine(F4 _ (X1.trans o7)).mono ?_;rintro e w3 ⟨⟨va,vb,vs,rfl,EV⟩,B5⟩;have o7:=o7.trans B5;obtain⟨a7,n7,c7,rfl,My⟩:=EV.a.var;obtain⟨a8,n8,c8,rfl,M7⟩:=EV.b.var)
  go_wp2_with fail;refine KO (o8 _ o7) λo9=>?_;refine tk 3 ?_;have JH:=o7.trans (C7.alloc w3 (QD #[GI a nb ca,GI b nb cb,GI c nc cc,GI a7 n7 c7,GI a8 n8 c8,U nc,U 0,bl false] 154));refine rd 4 λK hK=>?_;go_simp;refine KO (o8 _ JH) λo9=>?_;refine tk 5 ?_;refine Pi j8 ?_ _;have hn7:nb=n7:=by have h1:=EV.I3.rows.hlen;rw[Ow.1]at h1;exact h1
  have hn8:nb=n8:=by have h1:=EV.I3.basis.hlen;rw[Ow.2]at h1;exact h1
  subst hn7;subst hn8;go_wp2;go_meet;exact⟨_,vs,a7,c7,a8,c8,rfl,I (X1.trans JH),I (X1.trans o7).size,I ⟨IO rfl,(EV.ext WU).mono (gi _)⟩⟩
 obtain⟨S,vs,ra,rc,ba,bc,rfl,B7,Rj,HW3⟩:=hcut;clear p0 p1 p2;have HSO:=I (Ff _ S vs ra rc ba bc B7.o Rj.o HW3);go_wp2_with fail;refine HSO.mono ?_;rintro e w5 ⟨Mr,hs⟩;have X5:b9 (C7 W w5):=Mr.ext B7.o Rj;have Jo:=I Mr;clear Mr;cases o with
 | none =>
   obtain⟨r,xa,xn,xc,ya,yn,yc,za,zn,zc,rfl,ra5,rn5,rc5,ba5,bn5,bc5,Zu,t5,n5,Fc⟩:=hs;obtain⟨rs,rX,rY,rr,⟨G,Z⟩,rp⟩:=r;refine t8 (X5.trans (C7.alloc w5 (cZ ⟨rs,rX,rY,rr,(G,Z),rp⟩ xa xn xc ya yn yc za zn zc))) (Fc.ext (C7.alloc w5 (cZ ⟨rs,rX,rY,rr,(G,Z),rp⟩ xa xn xc ya yn yc za zn zc))) (show(w5.alloc (cZ ⟨rs,rX,rY,rr,(G,Z),rp⟩ xa xn xc ya yn yc za zn zc)).heap[w5.heap.size]?=some (cZ ⟨rs,rX,rY,rr,(G,Z),rp⟩ xa xn xc ya yn yc za zn zc)from IO rfl) λXE Yf EC=>?_;have⟨E,hE⟩:=e9 (w5.alloc (cZ ⟨rs,rX,rY,rr,(G,Z),rp⟩ xa xn xc ya yn yc za zn zc));have⟨gB,YT⟩:=e9 w5.heap.size;rw[<-hE]at XE Yf;rw[<-hE,<-YT]at EC;have hgW:W.heap.size<=gB:=by rw[YT];exact X5.size
   go_upto_region 5 with fail;rw[<-hE,<-YT];clear hE YT Fc;have⟨l0,l1,l2,c0,c1,c2,c3,c4,cf⟩:=Yf.cells;have⟨q0,q1,q2,q3,q4,q5,q6,qf⟩:=Ef EC.o;have hne:gB≠S:=λe=>lJ EC.o Yf.box Fd e
   have adw:=In EC.o;have Ez:=In Yf.box;go_upto_region 6 with fail;have⟨w7,Gh⟩:=e9 (E.setCell (O gB 6) (U n5));have X7:=I (show C7 W w7 by rw[Gh];exact XE.setCell (p:=(O gB 6)) hgW _);have c7:w7.cell? (O S 7)=some (bl true):=by
    exact q7
   rw[<-Gh];clear Gh l0 l1 l2 c0 c1 c2 c3 c4 cf q0 q1 q2 q3 q4 q5 q6 qf;have⟨l0,l1,l2,l3,l4,l5,l6,lf⟩:=Ef (X7.blk EB);go_wp2;refine Fn (v:=H8 (bh 4) none 0 0 none 0 0 none 0 0) MJ rfl ⟨?_,(A8.trans X7).FR (b7 _) _ _ _ _ _ _ _⟩;rw[GA.o];exact Y3.zero _ _ _
 | some r =>
   obtain⟨xa,xn,xc,ya,yn,yc,za,zn,zc,rfl,Ka,ra5,rn5,rc5,ba5,bn5,bc5,Zu,t5,n5,Fc,hnp⟩:=hs;obtain⟨rs,rX,rY,rr,⟨G,Z⟩,rp⟩:=r;simp only at hnp;refine z6 (X5.trans (C7.alloc w5 (cZ ⟨rs,rX,rY,rr,(G,Z),0⟩ xa xn xc ya yn yc za zn zc))) (Fc.ext (C7.alloc w5 (cZ ⟨rs,rX,rY,rr,(G,Z),0⟩ xa xn xc ya yn yc za zn zc))) (Ka.ext (C7.alloc w5 (cZ ⟨rs,rX,rY,rr,(G,Z),0⟩ xa xn xc ya yn yc za zn zc))) (show(w5.alloc (cZ ⟨rs,rX,rY,rr,(G,Z),0⟩ xa xn xc ya yn yc za zn zc)).heap[w5.heap.size]?=some (cZ ⟨rs,rX,rY,rr,(G,Z),0⟩ xa xn xc ya yn yc za zn zc)from IO rfl) (show w5.heap.size<(w5.alloc (cZ ⟨rs,rX,rY,rr,(G,Z),0⟩ xa xn xc ya yn yc za zn zc)).heap.size by simp) Ka λXE Yf HLE EC JP Zf=>?_;have⟨E,hE⟩:=e9 (w5.alloc (cZ ⟨rs,rX,rY,rr,(G,Z),0⟩ xa xn xc ya yn yc za zn zc));have⟨gB,YT⟩:=e9 w5.heap.size;have OB:=I (show C7 w5 E by rw[hE];exact WU);rw[<-hE]at XE Yf HLE JP;rw[<-hE,<-YT]at EC;have hgW:W.heap.size<=gB:=by rw[YT];exact X5.size
   have MB:=I YT;go_upto_region 5 with fail;rw[<-hE,<-YT];clear hE YT Fc Ka;have⟨l0,l1,l2,c0,c1,c2,c3,c4,cf⟩:=Yf.cells;have⟨q0,q1,q2,q3,q4,q5,q6,qf⟩:=Ef EC.o;have hne:gB≠S:=λe=>lJ EC.o Yf.box Fd e
   have adw:=In EC.o;have Ez:=In Yf.box;rw[hnp]at c3;clear hnp;go_upto_region 6 with fail;have⟨w7,Gh⟩:=e9 (E.setCell (O gB 6) (U rp));have X7:=I (show C7 W w7 by rw[Gh];exact XE.setCell (p:=(O gB 6)) hgW _);have c7:w7.cell? (O S 7)=some (bl false):=by
    exact q7
   have Kn:=I (show w7.heap[gB]?=some (QD #[U rs,GI xa xn xc,GI ya yn yc,GI za zn zc,U G,U Z,U rp] 109 (0,0))by
    rw[Gh,cE E gB 6 _ _ (U rp) EC.o];rfl)
   have Sf:=I (show∀k,k<w5.heap.size->w7.heap[k]?=w5.heap[k]? from λk hk=>by
    rw[Gh];exact(GE _ _ _ _ nC).trans (OB.block k hk))
   have HL7:=I (show Jl w7 W xa xn xc ya yn yc za zn zc ⟨rs,rX,rY,rr,(G,Z),rp⟩from(by
    have h1:=Zf.keep (w':=w7) (by rw[Gh];have:=OB.size;simpa using this) (λk hk o7=>by rw[Gh];exact(GE _ _ _ _ nC).trans (OB.block k o7));have h2:=h1.mono (base':=W.heap.size) B7.size;exact⟨h2.x,h2.y,h2.IJ⟩))
   rw[<-Gh];clear Gh l0 l1 l2 c0 c1 c2 c3 c4 cf q0 q1 q2 q3 q4 q5 q6 qf;have⟨p0,p1,p2⟩:=gl (X7.blk HTB);have⟨q0,q1,q2,q3,q4,q5,q6,qf⟩:=Ef Kn.o;have YD:=I (Di (H.ext X7) HL7.here Fs);have⟨ck,T9⟩:=e9 (aQ bL A B C ⟨rs,rX,rY,rr,(G,Z),rp⟩);have Yi:=I (show fc A B C=if ck=true then⟨rs,rX,rY,rr,(G,Z),rp⟩ else bh 4 by rw[GA.o,T9]);rw[<-T9]at YD;clear T9;go_wp2_with fail;refine i7 YD λw8 hx=>?_;refine t8 (X7.trans hx) (HL7.ext hx) (hx.blk Kn) λX8 JS OC=>?_;have hs57:w5.heap.size<=w7.heap.size:=by have h1:=In Kn.o;have h2:=MB.o;omega
   have HK8:=I (show∀k,k<w5.heap.size->w8.heap[k]?=w5.heap[k]? from λk hk=>(hx.block k j0).trans (Sf k hk));have hs58:w5.heap.size<=w8.heap.size:=k8 hx.size;clear p0 p1 p2 q0 q1 q2 q3 q4 q5 q6 qf c7;cases ck
   ·have⟨l0,l1,l2,l3,l4,l5,l6,lf⟩:=Ef (X8.blk EB);go_wp2;refine Fn (v:=H8 (bh 4) none 0 0 none 0 0 none 0 0) MJ rfl ⟨?_,(A8.trans X8).FR (b7 _) _ _ _ _ _ _ _⟩;rw[Yi.o];exact Y3.zero _ _ _
   have⟨q0,q1,q2,q3,q4,q5,q6,qf⟩:=Ef OC.o;have hxn:xn<=1099511627776:=by
    have h1:=JS.here.x.hlen;have h2:=HXL.o _ rfl;simp only at h1 h2;omega
   have O8:=I (ja JS.here.x hxn);go_wp2_with fail;refine PP O8 λw9 v9 T5 hx=>?_;obtain⟨a9,n9,c9,rfl,N'⟩:=T5.var;refine Op (X8.trans hx) (JS.ext hx) (hx.blk OC) (show∀k,k<w5.heap.size->w9.heap[k]?=w5.heap[k]? from λk hk=>(hx.block k j0).trans (HK8 k hk)) λX9 Kx Mg HK9=>?_;have hs59:w5.heap.size<=w9.heap.size:=k8 hx.size;have Gl:=I T5;have hlt9:=In Mg.o;have adj:=X8.size;clear T5 q0 q1 q2 q3 q4 q5 q6 qf;have⟨q0,q1,q2,q3,q4,q5,q6,qf⟩:=Ef Mg.o;have hg8:=In OC.o;go_upto_region 9 with fail;have⟨wA,hwA⟩:=e9 (w9.setCell (O gB 1) (GI a9 n9 c9));have XA:=I (show C7 W wA by rw[hwA];exact X9.setCell (p:=(O gB 1)) hgW _)
   have HBA:=I (show wA.heap[gB]?=some (QD #[U rs,GI a9 n9 c9,GI ya yn yc,GI za zn zc,U G,U Z,U rp] 109 (0,0))by
    rw[hwA,cE w9 gB 1 _ _ (GI a9 n9 c9) Mg.o];rfl)
   have Yo:=I (show WV wA w8 (GI a9 n9 c9) rX by
    rw[hwA];exact Gl.keep λk hk=>GE _ _ _ _ (by have:=(Gl.lt k hk).1;show k≠gB;omega))
   have Zg:=I (show∀k,k<w5.heap.size->wA.heap[k]?=w5.heap[k]? from λk hk=>by
    rw[hwA];exact(GE _ _ _ _ nC).trans (HK9 k hk))
   have hs5A:w5.heap.size<=wA.heap.size:=by rw[hwA];simpa using hs59
   rw[<-hwA];clear hwA q0 q1 q2 q3 q4 q5 q6 qf;have⟨q0,q1,q2,q3,q4,q5,q6,qf⟩:=Ef HBA.o;have⟨l0,l1,l2,l3,l4,l5,l6,lf⟩:=Ef (XA.blk EB);have Mn:=IH.o;have J8:=B7.size;go_wp2;refine Fn (v:=H8 ⟨rs,rX,rY,rr,(G,Z),rp⟩ a9 n9 c9 ya yn yc za zn zc) (by simp[results,aA,go_sem,l0,l1,l2,l3,l4,l5,l6,lf]) rfl ⟨?_,(A8.trans XA).FR (b7 _) _ _ _ _ _ _ _⟩;rw[Yi.o];refine⟨a9,n9,c9,ya,yn,yc,za,zn,zc,rfl,?_,?_,?_⟩
   ·exact(Yo.keep λi hi=>cu _ (k8 ((Yo.lt i hi).1)) _ _ _ _ _ _ _).Jx j0
   ·exact(Zf.y.keep (by simpa using hs5A) λk hk o7=>(cu _ j0 _ _ _ _ _ _ _).trans (Zg k o7)).mono j0
   exact(Zf.IJ.keep (by simpa using hs5A) λk hk o7=>(cu _ j0 _ _ _ _ _ _ _).trans (Zg k o7)).mono j0
end
end
section
def gL(x:Int)(l:o3):Bool:=A4 x 1 5&&(decide (JL l<=40)&&l.all (λs=>A4 s 1 (EH x-1)))
def XQ(l:o3)(k:Nat):o3:=DK l k++[-1,1]
def OS(q:Nat)(l:o3):l8:=(List.range q).map (XQ l)
def PQ(l:o3)(k:Nat):Int:=-(DK l k).sum
def QI(q:Nat)(l:o3):o3:=(List.range q).map (PQ l)
def KT(l:o3):l7:=List.replicate (JL l+2) (0,1)
def IF(x:Int)(l:o3):Bool:=gL x l&&decide ((fc (OS x.toNat l) (QI x.toNat l) (KT l)).status=1)
def NW(x:Int)(l:o3):Bool:=gL x l&&decide ((bG az (OS x.toNat l) (QI x.toNat l) (KT l)).status=1)
def XO(x:Int)(l:o3):NW x l=IF x l:=by
 unfold NW IF;rw[jW (λ_ j E=>xt ⟨0,by
  unfold KT at E⊢;rw[G6]at E;rw[Tl,f9 E];rfl,by omega,by omega⟩)]
def CG{l:o3}{j k:Nat}{b:Bool}(h:j<JL l)(hb:Gd (l[j]?.getD 0) (k:Int)=b):(DK l k).take j++[D3 b]=(DK l k).take (j+1):=by
 unfold DK;rw[<-Oz,<-Oz,xl h,sr,TQ];rw[Id h,Nm]at hb;rw[hb]
def lC(l:o3)(k j:Nat):0<=((DK l k).take j).sum/\((DK l k).take j).sum<=j:=by
 induction j with
 | zero=>simp
 | succ j ih =>
   by_cases h:j<JL (DK l k)
   ·rw[xl h,gx,IC];have:0<=(DK l k)[j]/\(DK l k)[j]<=1:=by
     simp only[DK,lx];cases Gd _ _<;>decide
    omega
   rw[bR j0]at ih⊢;omega
section
variable{w:J}{x:Int}{a:l9}{n cap:Nat}{l:o3}
theorem sf(h:d9 w a n cap l)(hl:∀k:Nat,l[k]?.getD 0<=9223372036854775807)(hb:n<=1048576):
 f8 262 #[U x,GI a n cap] w (bl (IF x l)):=by
 have⟨r8,r9⟩:=h.aq9;refine Op h.hlen h hl (bj x 1 5 w) λHL HI HB HW=>?_;cases C4:A4 x 1 5
 ·rw[C4]at HW;have HN:=I (show IF x l=false by unfold IF gL;rw[C4];rfl);clear h hl C4;have qq0:=@ag;exact my
 rw[C4]at HW;obtain⟨q,rfl⟩:∃q:Nat,x=q:=⟨x.toNat,by simp[A4]at C4;omega⟩;have Hh:1<=q:=by simp[A4]at C4;omega
 have JF:q<=5:=by simp[A4]at C4;omega
 have Ov:=I C4;by_cases hn:n<=40
 ·have PB:¬(n:Int) > 40:=by omega
  have hw2:=dk ((n:Int)+2);have HZ:=I (lv (w:=w) (n+2) j0);rw[show((n+2:Nat):Int)=(n:Int)+2 by omega]at HZ;have Sm:=I (dP q JF);have Mu:=bp q JF;have⟨cq,hcq⟩:=e9 (cN q);have HCQ:=I (show EH (q:Int)=(cq:Int)by rw[Sm.o,hcq]);rw[<-hcq]at Mu;clear h hl C4 hcq;unfold f8;go_in
  go_wp2_with fail;refine HW.mono ?_;rintro e w1 ⟨rfl,rfl⟩;go_wp2_with fail;refine PP HZ λw1 v1 RP A'=>?_;obtain⟨a1,n1,c1,rfl,HN1⟩:=RP.var;have⟨E,hE⟩:=e9 (w1.alloc (QD #[d6,d6,GI a1 n1 c1] 105));have⟨g,hg⟩:=e9 w1.heap.size;have A0:=I (show C7 w E by rw[hE];exact A'.trans WU)
  have Nr:=I (show C9 E w g d6 (d6) (GI a1 n1 c1) [] ((List.range 0).map (XQ l)) ((List.range 0).map (PQ l)) (KT l)from
   ⟨by rw[hE,hg];exact IO rfl,by rw[hg];exact A'.size,DQ.nil _ _,bF.nil _ _,C1,Hw.nil _,by rw[hE];unfold KT;rw[HL.o];exact RP.ext WU⟩)
  go_upto_region 4 with fail;rw[<-hE,<-hg];clear hE hg RP hw2;go_wp2
  go_loopg [6] q (λgk ii wr=>∃(k:Nat) (va vb:arQ) (vs:List arQ),b9 (gk+k=q)/\ii=U k/\b9 (0<k->gL (q:Int) l=true)/\b9 (C9 wr w g va vb (GI a1 n1 c1) vs ((List.range k).map (XQ l)) ((List.range k).map (PQ l)) (KT l))/\b9 (C7 w wr))
  ·exact⟨0,_,_,_,I j0,rfl,I (λh=>absurd h j0),Nr,A0⟩
  rename Nat=>g1;rename J=>y9;obtain⟨k,va,vb,vs,HK,rfl,HV,G,HX⟩:=hrel;have hsz:=HX.size;by_cases hlt:k<q
  ·have QN:=I (r'.D2 y9 y9 _ rfl (i8 _));go_wp2
   go_loopg [7,8,9] n (λgk oo bb ii wr=>∃(j:Nat) (a2:l9) (n2 p2:Nat),b9 (gk+j=n)/\ii=U j/\oo=GI a2 n2 p2/\bb=U (-((DK l k).take j).sum)/\b9 ((l.take j).all (λs=>A4 s 1 ((cq:Int)-1))=true)/\b9 (r' wr y9 (GI a2 n2 p2) ((DK l k).take j))/\b9 (C7 y9 wr))
   ·exact⟨0,_,_,_,I j0,rfl,rfl,rfl,I rfl,QN,I WU⟩
   obtain⟨j,a2,n2,p2,HJ,rfl,rfl,rfl,HA,HO,C0⟩:=hrel;have Iz:=C0.size;by_cases F0:j<n
   ·have⟨eb,DI,IU,Fg⟩:=(HI.ext (HX.trans C0)).at F0;subst IU;have⟨s,HS⟩:=GT (l[j]?.getD 0);have hsm:s<=9223372036854775807:=by rw[HS.o];exact HB.o j
    rw[<-HS.o]at Fg;have Oc:=I (λw'=>dj (q:Int) w');rw[HCQ.o]at Oc;have hwc:=dk ((cq:Int)-1);have HII:=I (λw'=>bj s 1 ((cq:Int)-1) w');have⟨iv,Qf⟩:=GT (A4 s 1 ((cq:Int)-1));simp only[<-Qf.o]at HII;have hj0:=ST j;have hj1:=Rd j n;go_upto_region 12 with fail;have o7:=C7.drew wr;refine nE (S:=(λw'=>w'.cell? (O eb (DI+j))=some (U s)/\C7 wr w')) j8 ?_ (λo9=>?_)
    ·exact⟨o7.o6 Fg,o7⟩
    refine mq ⟨?_⟩;refine tk 3 ?_;refine tk 4 ?_;refine rd 5 λK hK=>?_;go_simp
    (go_at_call 33;refine(Oc _).mono ?_;rintro e w3 ⟨rfl,rfl⟩)
    go_wp2_with fail;refine KO (an (o7.o6 Fg) o7) λo9=>?_;refine tk 6 ?_;refine rd 7 λK hK=>?_;go_simp
    (go_at_call 32;refine(HII _).mono ?_;rintro e w3 ⟨rfl,rfl⟩)
    go_wp2_with fail;refine KO (an (o7.o6 Fg) o7) λo9=>?_;refine tk 8 ?_;refine Pi j8 ?_ _;have⟨w3,E8⟩:=e9 wr.drew;have B7:=I (show C7 wr w3 by rw[E8];exact o7);rw[<-E8];have he3:=B7.o6 Fg;clear o7 E8 o9 Fg hwc;cases iv
    ·have HN:=I (show IF (q:Int) l=false by
      unfold IF gL;rw[iy (d:=0) (show j<l.length by rw[HL.o];exact F0) (by rw[HCQ.o,<-HS.o];exact Qf.symm)];simp)
     go_wp2;go_ret;exact⟨ag HN.symm,(HX.trans C0).trans B7.o⟩
    have HA2:=I (show(l.take (j+1)).all (λs=>A4 s 1 ((cq:Int)-1))=true by
     rw[kN (d:=0) (show j<l.length by rw[HL.o];exact F0),HA.o,<-HS.o,<-Qf.o];rfl)
    have⟨hb,WC⟩:=e9 (Gd s (k:Int));have Sh:=I (λw'=>bE s (k:Int) w' hsm);simp only[<-WC]at Sh;refine Op (λw'=>fH hb w') (CG (l:=l) (j:=j) (k:=k) (b:=hb) (by rw[HL.o];exact F0) (by rw[<-HS.o];exact WC.symm)) (HO.ext B7) (C0.trans B7) λOd F9 B9 X3=>?_;have J8:=X3.size;have Fq:=I (show((DK l k).take j).length=j by rw[k6];simp only[DK,dc];rw[HL.o];omega);have⟨sm,Z⟩:=e9 (((DK l k).take j).sum);have Jc:=lC l k j;rw[<-Z]at Jc;have Rk:=I (show((DK l k).take (j+1)).sum=sm+D3 hb by rw[<-F9.o,gx,IC,Z]);have FD:0<=D3 hb/\D3 hb<=1:=by cases hb<;>decide
    have⟨bt,Ni⟩:=e9 (D3 hb);rw[<-Ni]at FD Rk F9;simp only[<-Ni]at Od;rw[<-Z];have⟨ns,hns⟩:=e9 (-sm-bt);have Pd:IntKind.i64.wrap (-sm-bt)=ns:=by rw[mn,hns];omega
    have Yq:=I (show ns=-(sm+bt)by omega);clear WC Z Ni hns
    go_wp2_with (first
     | (go_at_call 99;refine(Sh _).mono ?_;rintro e w4 ⟨rfl,rfl⟩)
     | (go_at_call 170;refine(Od _).mono ?_;rintro e w4 ⟨rfl,rfl⟩)
     | (at_builtin;refine bK rfl _ _ rfl y9 (GI a2 n2 p2) _ rfl (B9.ext WU) _ 1 _ [bt] rfl (K4 j7) fv m9 ?_;intro v5 w5 ho hg5 H;have hX5:=aj (X3.trans WU) hg5 (λi hi=>(B9.lt i hi).1);have X5:=I hX5;obtain⟨a5,n5,c5,rfl,It⟩:=ho.var;have DT:=I ho;have⟨eb',Xp,NJ,he5⟩:=(HI.ext (HX.trans hX5)).at F0;obtain⟨rfl,rfl⟩:=aM NJ;clear NJ;rw[<-HS.o]at he5;clear ho hg5 H hX5 he3))
    refine vE ?_;exact⟨j+1,a5,n5,c5,I (k8 HJ.o),by go_num,rfl,by rw[Rk.o,<-Yq.o],HA2,I cd,X5⟩
   have Ii:n=j:=k8 HJ.o;have O':=I (show gL (q:Int) l=true by
    unfold gL;rw[Ov.o,HL.o,UV hn,HCQ.o];have h1:=HA.o;rw[bR Ym]at h1;rw[h1];rfl)
   have HMR:b9 ((DK l k).take j=DK l k):=bR (by simp only[DK,dc];rw[HL.o];omega);have HML:=I (show(DK l k).length=n by simp only[DK,dc];rw[HL.o]);rw[HMR.o]at HO;rw[HMR.o];have⟨bv,hbv⟩:=e9 (-(DK l k).sum);have Un:=I (show PQ l k=bv by rw[hbv];rfl);rw[<-hbv];have t0:=G.c0;have HVL:=I (show JL vs=k by rw[G.rows.len];simp);have JK:=G.lt;have GV:=I (HX.trans C0);clear Ii hbv;go_upto_region 16 with fail;have o8:=I λw' (h:C7 y9 w')=>TX (h.o6 t0) (HX.trans h);have B6:C7 y9 wr.drew:=C0.trans (C7.drew wr);refine cD (M:=[8]) (S:=λw'=>w'.cell? (O g 0)=some va/\C7 w w') j8 ?_;have o9:=o8.o _ B6;have QM:=I (HO.ext (C7.drew wr));have⟨wd,hwd⟩:=e9 wr.drew;rw[<-hwd]at B6 QM o9;rw[<-hwd];clear hwd;have Q5:=B6.size;refine lp 0 ?_;refine ll 1 ?_;refine lp 2 ?_;refine Gp 3 λK hK=>?_
   go_simp;refine hK.out _ _ (λ_=>o8.o _ (B6.trans WU)) ?_;clear hK K
   try simp only[Act.put,sA,sB,sC]
   refine Gp 4 λK hK=>?_;refine aO _ _ j9 y9 (GI a2 n2 p2) _ j9 (QM.ext WU) _ 2 _ [-1,1] j9 (d9.ac2 [-1,1] _ rfl j9 rfl Fd) xw m9 ?_;intro v6 w6 ho Js H;obtain⟨a6,n6,q6,rfl,Ia⟩:=ho.var;have EP:=I ho;have JV:C7 y9 w6:=aj (B6.trans WU) Js (λj hj=>(HO.lt j hj).1);have hs6:=JV.size;clear ho Js H;refine KL (o8 _ JV) λo9=>?_;refine Gp 5 λK hK=>?_;go_simp;refine hK.out _ _ (λ_=>o8.o _ (JV.trans WU)) ?_;clear hK K
   try simp only[Act.put,sA,sB,sC]
   refine Gp 6 λK hK=>?_;refine du _ _ j9 w va vs j9 ((G.a.ext JV).ext WU) _ _ 1 j9 N3 rfl ds m9 ?_;intro v7 w7 ho LX H;obtain⟨a7,n7,q7,rfl,My⟩:=ho.var;refine t8 ho LX H λII Si HR7=>?_;have EX:=G.OR (JV.trans WU) LX;have Re:=C9.FF EX;have YX:=C9.F2 EX;have Nl:C7 w w7:=aj ((HX.trans JV).trans WU) LX (λj hj=>(G.a.lt j hj).1);clear ho LX H EX;refine KL (hJ Re Nl) λo9=>?_;refine lp 7 ?_;refine OJ 8 ?_;refine cQ j8 ?_ _;have JS:=I (G.Lf (JV.trans WU) (EP.ext WU) hsz Si.o II.o HR7);have Ma:=I (Nl.setCell (p:=(O g 0)) G.hg (GI a7 n7 q7));have⟨W8,NO⟩:=e9 (w7.setCell (O g 0) (GI a7 n7 q7));rw[<-NO]at JS Ma;go_upto_region 17 with fail;rw[<-NO];clear NO Re YX o9 B6 JV;have b1:=JS.c1;have bf:=JS.free;have hl8:=JS.lt;have hs8:w.heap.size<=W8.heap.size:=W0 Ma.o;have IG:=I (show((List.range k).map (PQ l)).length=k by simp)
   go_wp2_with (first
    | (at_builtin;refine bK rfl _ _ rfl w vb _ rfl (JS.b.ext WU) _ 1 _ [bv] rfl (K4 j7) (by rw[IG.o];omega) m9 ?_;intro v9 w9 ho Gt H;have Kx:=I (JS.pushB WU Gt ho H);have EX:=JS.OQ WU Gt;have Y0:=C9.FE EX;have SM:=C9.F2 EX;have Nk:C7 w w9:=aj (C7.trans Ma.o WU) Gt (λj hj=>(JS.b.lt j hj).1);obtain⟨a9,n9,q9,rfl,N'⟩:=ho.var;clear ho Gt H EX))
   have Lw:=I (Nk.setCell (p:=(O g 1)) G.hg (GI a9 n9 q9));refine kf ?_;exact⟨k+1,_,_,_,I (k8 HK.o),by go_num,I (λ_=>O'.o),I (by
    have h1:=Kx.o;rw[<-Un.o]at h1;rw[<-dm,<-dm];exact h1),Lw⟩
  have To:q=k:=k8 HK.o;have O':=I (HV j0);rw[<-To]at G;have Ea:b9 (C9 y9 w g va vb (GI a1 n1 c1) vs (OS q l) (QI q l) (KT l)):=G;obtain⟨aA,nA,cA,rfl,SY⟩:=Ea.a.var;obtain⟨aB,nB,cB,rfl,TJ⟩:=Ea.b.var;have Hk:=I (show Kh y9 aA nA cA aB nB cB a1 n1 c1 (OS q l) (QI q l) (KT l)from
   ⟨bZ.Kq ⟨vs,Ea.a,Ea.rows⟩,Ea.b.ints,Ea.c.rats⟩)
  have Ff:=I (ls Hk);have⟨r,hr⟩:=e9 (fc (OS q l) (QI q l) (KT l));rw[<-hr]at Ff;have HF:=I (show IF (q:Int) l=(r.status == 1)by
   unfold IF;rw[O'.o,gg,<-hr,y6];rfl)
  have t0:=Ea.c0;have t1:=Ea.c1;have t2:=Ea.c2;clear To hr;obtain⟨st,rX,rY,rr,⟨Ei,D6⟩,rp⟩:=r;go_wp2_with fail;refine Ff.mono ?_;rintro e w2 ⟨⟨xa,xn,xc,ya,yn,yc,ra,rn,rc,rfl,_⟩,C4⟩;unfold H8;have hfd:∀w:J,(Instr.field 109 (.agg #[U st,GI xa xn xc,GI ya yn yc,GI ra rn rc,U Ei,U D6,U rp]) 0).run Tryz.prog w=.ok (U st) w:=λ_=>by kernel_rfl
  exact pq
 have PB:(n:Int) > 40:=j0;have HN:=I (show IF (q:Int) l=false by unfold IF gL;rw[HL.o,Ok hn];simp);clear h hl C4;have qq0:=@ag;exact my
end
