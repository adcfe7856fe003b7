import Derived.Test.YtooiaklfmodcbaaGreatDoorRtAllG5
import Derived.Laws.EntriesVeiled
set_option linter.all false
set_option maxHeartbeats 6000000
set_option maxRecDepth 100000
namespace Go.Proofs.YtooiaklfmodcbaaGreatDoor
open Ending renaming returned->ar
open List renaming length->JL
open Obj renaming cells->QD
open Value renaming slice->GI,bool->bl,string->aE,pointer->aP
open Go.Proofs.Tryz Go.RowKit
variable{σ:Prop}
section
def oj{P Q:Prop}(k:p9 Q)(h:p9 Q->P:=by intro k;refine lp 0 ?_;refine ll 1 ?_;refine lp 2 ?_;refine lp 3 ?_;exact k.1):P:=h k
def PV{P Q:Prop}(k:p9 Q)(h:p9 Q->P:=by intro k;refine tk 3 ?_;refine tk 4 ?_;refine tk 5 ?_;refine tk 6 ?_;exact k.1):P:=h k
def aM{b c o p:Nat}(h:some (⟨b,o,none⟩:Addr)=some ⟨c,p,none⟩):b=c/\o=p:=by simpa using h
def z6{H E A2 A3 A4 A5 P:Prop}(a0:H)(a1:E)(a2:A2)(Z:A3)(Q:A4)(K:A5)(h:b9 H->b9 E->b9 A2->b9 A3->b9 A4->b9 A5->P):P:=h a0 a1 a2 Z Q K
def K5(h:σ:=by show w.heap.size≠w.heap.size+1;omega):σ:=h
def SV(h:σ:=by rw[dG,HF.o,f7 j7,<-HQ1.o];exact B9):σ:=h
def Ro(h:σ:=by simp[results,results231,go_sem]<;>rfl):σ:=h
def PU(h:σ:=by have:=(HO.lt j hj).1;show j≠w.heap.size;omega):σ:=h
def Sm(h:σ:=by simp[results,results167,go_sem]<;>rfl):σ:=h
variable{x:Int}{G:l8}{S B s:Nat}
def r'.ZZ(w:J)(base:Nat)(x:Int)(hb:base<=w.heap.size):r' (w.alloc (QD #[U x] 3)) base (EQ w 1 1) [x] :=
 wA w #[U x] 1 hb (by simp[maxLen]) rfl
def d9.one'(w:J)(x:Int)(t:TypeId)(n:Nat)(E:n=w.heap.size):d9 (w.alloc (QD #[U x] t)) (some (O n 0)) 1 1 [x]:=by
 subst E;exact d9.one w x t
def r'.made'(w:J)(base n:Nat)(E:n=w.heap.size)(hb:base<=w.heap.size):r' (w.alloc (QD #[] 3)) base (EQ n 0 0) []:=by
 subst E;exact r'.made w base hb
structure S8(S B:Nat)(G:l8):Prop where
 s1:1<=S
 b1:1<=B
 sb:S+B<=5
 rows:G.length=S
 row:∀i,i<S->(G[i]?.getD []).length=B
 bd:∀i j,0<=iv G i j/\iv G i j<=100
def lF{y:Int}(h:dA x y G=true):∃S B:Nat,x=S/\y=B/\S8 S B G:=by
 simp only[dA,eI,ef,gy]at h;obtain⟨⟨⟨⟨⟨h1,h2⟩,h3⟩,h4⟩,h5⟩,K⟩:=h;refine⟨x.toNat,y.toNat,by omega,by omega,by omega,by omega,by omega,by omega,λi hi=>?_,λi j=>?_⟩
 ·have E:i<JL G:=by omega
  have:=(K _ (eN E)).2;simp[E];omega
 unfold iv;by_cases E:i<JL G
 ·have:=(K _ (eN E)).1;simp only[Id E,Nm];by_cases H:j<G[i].length
  ·have:=this _ (eN H);simp only[A4,eI,ef]at this
   simpa[H]using this
  simp[q8 (by omega:G[i].length<=j)]
 simp[q8 (by omega:G.length<=i)]
def d9.Xb{w w':J}{row:Option Nat}{b:Nat}(h:d9 w (some (O b 0)) 1 1 [x])(hg:w.grownBy w' row)(E:row≠some b):d9 w' (some (O b 0)) 1 1 [x]:=by
 have⟨b',off,e,hc⟩:=h.at (k:=0) j0;obtain⟨rfl,rfl⟩:=aM e;have hb:=hg.block b (O4 w _ hc) (λe=>E e.symm);refine⟨rfl,i8 _,by omega,λk H=>⟨b,0,rfl,λk H=>?_⟩⟩;obtain rfl:k=0:=j0;rw[<-hc];simp[World.cell?,hb]
def Ds(hM:S8 S B G)(hs:s<32):∀(r i:Nat) (ii:Int),ii=(i:Int)->i+r=S->∀(w:J) (a:l9) (n cap:Nat) (ta:l9) (tn tc:Nat) (taken:o3),
 dB w a n cap G->d9 w ta tn tc taken->JL taken<=i ->
 Calls prog 167 #[kJ S B a n cap,.int .i64 (s:Int),.int .i64 ii,GI ta tn tc] w λe w' =>
  (∃v,e=ar (.tuple #[v,.int .i64 (ce S B G s r taken).2])/\r' w' w v (ce S B G s r taken).1)/\C7 w w':=by
 have Jc:=hM.sb;intro r
 induction r with
 | zero =>
   intro i ii hii hi w a n cap ta tn tc taken hG hT hl;subst hii;have heq:((i:Int) == (S:Int))=true:=m9;have HX:=I (C7.alloc w (QD #[.int .i64 (S:Int),.int .i64 (B:Int),GI a n cap] 91));have HZ:b9 (ce S B G s 0 taken=([],0)):=I (rfl);clear hG hT hl hi;go_in
   go_wp2;rw[HZ.o];refine Fn Sm rfl ⟨⟨_,rfl,r'.made' _ _ _ j7 j7⟩,HX.trans WU⟩
 | succ r ih =>
   intro i ii hii hi w a n cap ta tn tc taken hG hT hl;subst hii;have heq:((i:Int) == (S:Int))=false:=m9;have hiS:i<S:=j0;have Ho:S-(r+1)=i:=j0;have HX:=I (C7.alloc w (QD #[.int .i64 (S:Int),.int .i64 (B:Int),GI a n cap] 91));refine t8 (hG.ext HX) (hT.ext HX) hT.hlen λHG HT Ow=>?_;have htl:tn<=5:=k8 hT.hlen;refine z6 (show n=S by have:=hG.hlen;have:=hM.rows;omega) Ho hi hl ih hM λYq HI QJ HL HIH HM=>?_;have hn:=hG.r8;have hm:=hG.r9;clear hG hT hl hi ih Ho hM;go_in
   go_wp2_with fail;refine TS (HIH (i+1) ((i:Int)+1) j7 (k8 QJ.o) _ a n cap ta tn tc taken HG.o HT.o (k8 HL.o)) λw1 v0 ho hx=>?_;obtain⟨a0,n0,p0,rfl,N0⟩:=ho.var;have hbd0:=gF S B G s HM.bd r taken;have PB:n0=r:=k8 N0.o;have X1:=I hx;have O0:=I ho;have LS:=hx.size;simp at LS;clear hx ho;have⟨b0,G5⟩:=e9 ((ce S B G s r taken).2);have⟨l0,hl0⟩:=e9 ((ce S B G s r taken).1);rw[<-G5,<-hl0]at hbd0;rw[<-hl0]at O0;have Ko:=I G5;have Nr:=I hl0;obtain⟨PD,E6,Ew⟩:=hbd0;have HN0:=I PB;have EW:=I PD;rw[<-G5];clear G5 hl0 PB PD
   go_wp2_with (first
    | (at_builtin;refine bK rfl _ _ rfl (w+1) _ [(-1:Int)] rfl (r'.ZZ _ _ _ j0) _ n0 _ l0 rfl (O0.ext WU).ints (by have:=HN0.o;have:=QJ.o;simp;omega) m9 ?_;intro v2 w2 ho hg r7;obtain⟨a2,n2,c2,rfl,Hb⟩:=ho.var;have Ec:=I ho;have X2:=I (aj (X1.trans WU) hg (λj hj=>by have:=tu (show some w1.heap.size=some j from hj);simp;omega));clear ho hg r7))
   have Gf:=I (λk=>BQ S B G s HM.bd r taken k)
   go_loopw [11,12,13] (λt o j wr=>∃(k:Nat) (a1:l9) (n1 p1:Nat),k<=B/\j=.int .i64 (k:Int)/\t=.int .i64 (dK S B G s r taken k).2/\o=GI a1 n1 p1/\b9 (r' wr (w+1) (GI a1 n1 p1) (dK S B G s r taken k).1)/\b9 (C7 (w.alloc (QD #[.int .i64 (S:Int),.int .i64 (B:Int),GI a n cap] 91)) wr)) (λ_ _ j _=>B-(intOf j).toNat)
   ·exact⟨0,a2,n2,c2,gi _,rfl,by rw[gY,<-Ko.o],rfl,I (by rw[gY,<-Nr.o];exact Ec),I X2.o⟩
   obtain⟨k,a1,n1,p1,hk,rfl,rfl,rfl,B9,B7⟩:=hrel;have FD:=Gf.o k;have⟨T,hT⟩:=e9 ((dK S B G s r taken k).2);have⟨Q,hQ⟩:=e9 ((dK S B G s r taken k).1);rw[<-hT];rw[<-hT,<-hQ]at FD;rw[<-hQ]at B9;obtain⟨hql,Og,ht2⟩:=FD;refine t8 hT hQ hql λHT1 HQ1 HQL=>?_;clear hT hQ hql;have c0:wr.cell? ⟨w,0,none⟩=some (.int .i64 (S:Int)):=B7.o6 j7;have c1:wr.cell? ⟨w,1,none⟩=some (.int .i64 (B:Int)):=B7.o6 j7;have c2':wr.cell? ⟨w,2,none⟩=some (GI a n cap):=B7.o6 j7;have hr5:r<5:=k8 QJ.o;by_cases hlt:k<B
   ·refine Op (dE (s:Int) i j0 j0) (show Gd (s:Int) ((S:Int)+(k:Int))=M2 (s:Int) (S+k)by have:=dE (s:Int) (S+k) j0 j0;simpa using this) (HT.ext B7) (HG.ext B7) λJt HP2 HTw HGw=>?_;cases Hi:M2 (s:Int) i
    ·have HF:=I (show fN S s taken (S-(r+1)) k=false by unfold fN;rw[HI.o,Hi];rfl);rw[Hi]at Jt;clear Hi;go_wp2_with (go_at_call 99;refine(bE _ _ _ j0).mono ?_;rw[Jt.o];rintro e w' ⟨rfl,rfl⟩)
     go_roundw
     case rel=>exact⟨k+1,a1,n1,p1,by omega,by go_num,by rw[dG,HF.o,f7 j7,<-HT1.o],rfl,I SV,B7⟩
     simp[intOf];omega
    cases K:M2 (s:Int) (S+k)
    ·have HF:=I (show fN S s taken (S-(r+1)) k=false by unfold fN;rw[HI.o,Hi,K];rfl);rw[Hi]at Jt;rw[K]at HP2;clear Hi K;go_wp2_with (go_at_call 99;refine(bE _ _ _ j0).mono ?_;(first|rw[Jt.o]|rw[HP2.o]);rintro e w' ⟨rfl,rfl⟩)
     go_roundw
     case rel=>exact⟨k+1,a1,n1,p1,by omega,by go_num,by rw[dG,HF.o,f7 j7,<-HT1.o],rfl,I SV,B7⟩
     simp[intOf];omega
    have HH:=I (Bw (k:Int) HTw);cases H:PK taken (k:Int)
    ·have HF:=I (show fN S s taken (S-(r+1)) k=true by unfold fN;rw[HI.o,Hi,K,H];rfl);rw[Hi]at Jt;rw[K]at HP2;rw[H]at HH;have hiG:i<n:=by have:=Yq.o;omega
     have⟨gb,Ke,ga,gn,gc,SF,NI,Fo⟩:=HGw.at hiG;have hgn:k<gn:=by have h1:=Fo.hlen;have h2:=HM.row i hiS;omega
     have⟨rb,roff,hra,LU⟩:=Fo.at hgn;have Q':=HM.bd i k;have⟨y,hy⟩:=e9 (iv G i k);have LU:wr.cell? ⟨rb,roff+k,none⟩=some (.int .i64 y):=by rw[hy];exact LU
     rw[<-hy]at Q';have HY:=I hy;have ahH:=Fo.r8;have ahG:=Fo.r9;clear Hi K H Fo hy;subst SF hra;have hbm:=gF S B G s HM.bd r (taken++[(k:Int)]);have⟨sm,hsm⟩:=e9 ((ce S B G s r (taken++[(k:Int)])).2);have⟨lm,Oo⟩:=e9 ((ce S B G s r (taken++[(k:Int)])).1);rw[<-hsm,<-Oo]at hbm;obtain⟨hlml,hsm1,hsm2⟩:=hbm;refine t8 hsm Oo hlml λRk Oa HLML=>?_;clear hsm Oo hlml
     go_wp2_with (first
      | (go_at_call 99;refine(bE _ _ _ j0).mono ?_;(first|rw[Jt.o]|rw[HP2.o]);rintro e w' ⟨rfl,rfl⟩)
      | (go_at_call 240;refine cP HH ?_))
     have o8:=I λw' (h:C7 wr w')=>TX (h.o6 c0) (TX (h.o6 c1) (TX (h.o6 c2') h));have HW1:=I (show IntKind.i64.wrap ((i:Int)+1)=(i:Int)+1 by rw[mn];omega);have E:=C7.drew wr;have D0:C7 wr (wr.alloc (QD #[] 3)).drew:=WU.trans cn;have hkb:C7 wr (wr.alloc (QD #[.int .i64 (k:Int)] 3)).drew:=WU.trans cn;have aat:C7 wr ((wr.alloc (QD #[] 3)).alloc (QD #[.int .i64 (k:Int)] 3)).drew:=(WU.trans WU).trans cn;have aas:C7 wr ((wr.alloc (QD #[.int .i64 (k:Int)] 3)).alloc (QD #[] 3)).drew:=(WU.trans WU).trans cn;have Yo:b9 (r' (wr.alloc (QD #[] 3)).drew wr (GI (some ⟨wr,0,none⟩) 0 0) []):=(r'.made' wr _ _ rfl (i8 _)).ext cn;have HOAB:b9 (r' ((wr.alloc (QD #[] 3)).alloc (QD #[.int .i64 (k:Int)] 3)).drew wr (GI (some ⟨wr,0,none⟩) 0 0) []):=((r'.made' wr _ _ rfl (i8 _)).ext WU).ext cn
     refine t8 (show r' ((wr.alloc (QD #[.int .i64 (k:Int)] 3)).alloc (QD #[] 3)).drew wr (GI (some ⟨wr.heap.size+1,0,none⟩) 0 0) []from(r'.made' (wr.alloc (QD #[.int .i64 (k:Int)] 3)) wr _ j7 j7).ext cn) (show d9 ((wr.alloc (QD #[] 3)).alloc (QD #[.int .i64 (k:Int)] 3)).drew (some ⟨wr.heap.size+1,0,none⟩) 1 1 [(k:Int)]from(d9.one' (wr.alloc (QD #[] 3)) (k:Int) 3 (wr+1) j7).ext cn) (show d9 ((wr.alloc (QD #[.int .i64 (k:Int)] 3)).alloc (QD #[] 3)).drew (some ⟨wr,0,none⟩) 1 1 [(k:Int)]from((d9.one' wr (k:Int) 3 wr rfl).ext WU).ext cn) λHOBA HJAB HJBA=>?_
     go_region_held3 (λw'=>w'.cell? ⟨w,0,none⟩=some (.int .i64 (S:Int))/\w'.cell? ⟨w,1,none⟩=some (.int .i64 (B:Int))/\w'.cell? ⟨w,2,none⟩=some (GI (some ⟨gb,Ke,none⟩) n cap)/\C7 wr w')
      (first
        | with_reducible exact o8.o _ E
        | with_reducible exact o8.o _ D0
        | with_reducible exact o8.o _ hkb
        | with_reducible exact o8.o _ aat
        | with_reducible exact o8.o _ aas
        | with_reducible exact o8.o _ (E.trans WU))
      (first
        | (refine bU _ j9 ?_
           refine aO _ _ j9 wr (GI (some ⟨wr,0,none⟩) 0 0) [] j9 (by with_reducible exact Yo.o) ta tn tc taken j9 (HTw.ext D0) m9 j7 ?_;intro v2 w3 ho hg r7;have E:C7 wr w3:=aj D0 hg (λj hj=>by have:=tu (show some wr.heap.size=some j from hj);omega);rw[Qu]at ho;obtain⟨A2,N2,C2,rfl,HN2'⟩:=ho.var;have EI:=I (ho.ext (C7.alloc _ (QD #[.int .i64 (k:Int)] 3)));have HJ:=I (d9.one' w3 (k:Int) 3 w3 rfl);have FI:=I (E.trans (C7.alloc _ (QD #[.int .i64 (k:Int)] 3)));clear ho hg r7)
        | (refine bU _ j9 ?_
           refine aO _ _ j9 wr (GI (some ⟨wr,0,none⟩) 0 0) [] j9 (by with_reducible exact HOAB.o) ta tn tc taken j9 (HTw.ext aat) m9 m9 ?_;intro v2 w3 ho hg r7;have E:C7 wr w3:=aj aat hg (λj hj=>by have:=tu (show some wr.heap.size=some j from hj);omega);rw[Qu]at ho;obtain⟨A2,N2,C2,rfl,HN2'⟩:=ho.var;have EI:=I ho;have HJ:=I (HJAB.Xb hg (by simp[Value.ownBlock]));have FI:=I E;clear ho hg r7)
        | (refine bU _ j9 ?_
           refine aO _ _ j9 wr (GI (some ⟨wr.heap.size+1,0,none⟩) 0 0) [] j9 (by with_reducible exact HOBA.o) ta tn tc taken j9 (HTw.ext aas) m9 m9 ?_;intro v2 w3 ho hg r7;have E:C7 wr w3:=aj aas hg (λj hj=>by have:=tu (show some (wr.heap.size+1)=some j from hj);omega);rw[Qu]at ho;obtain⟨A2,N2,C2,rfl,HN2'⟩:=ho.var;have EI:=I ho;have HJ:=I (HJBA.Xb hg (by simp[Value.ownBlock]));have FI:=I E;clear ho hg r7)
        | (refine bU _ j9 ?_
           refine aO _ _ j9 wr (GI A2 N2 C2) taken j9 (by with_reducible exact EI.o) _ 1 1 [(k:Int)] j9 HJ.o (k8 Ow.o) (by have:=FI.size;simp at this⊢;omega) ?_;intro v3 w4 ho hg r7;have E:C7 wr w4:=aj FI.o hg (λj hj=>(EI.lt j hj).1);obtain⟨A3,N3,C3,rfl,HN3'⟩:=ho.var;have DT:=I ho;clear ho hg r7)
        | (go_at_call 167;rw[HW1.o];refine(HIH (i+1) ((i:Int)+1) j7 (k8 QJ.o) _ (some ⟨gb,Ke,none⟩) n cap A3 N3 C3 (taken++[(k:Int)]) (HGw.ext E) DT.ints (by have:=HL.o;simp;omega)).mono ?_;rw[<-Rk.o,<-Oa.o];rintro e w5 ⟨⟨v5,rfl,ho⟩,hx⟩;obtain⟨a5,n5,c5,rfl,N5⟩:=ho.var;have EP:=I ho;have E:=E.trans hx;have hsz6:=hx.size;clear ho hx))
     all_goals
      have X5:=I (B7.trans E);have O3:=I (B9.ext E);replace c0:=E.o6 c0;replace c1:=E.o6 c1;replace c2':=E.o6 c2';replace NI:=E.o6 NI;replace LU:=E.o6 LU;have adg:w.heap.size+1<=w5.heap.size:=by have:=X5.size;simpa using this
      clear E D0 hkb aat aas;by_cases LW:T<sm+y
      ·have HGT:=I LW
       go_wp2_with (first
        | (at_builtin;refine bK rfl _ _ rfl (w+1) _ [(k:Int)] rfl (r'.ZZ _ _ _ j0) _ n5 _ lm rfl (EP.ext WU).ints (by have:=N5.o;have:=HLML.o;simp;omega) m9 ?_;intro v6 w6 ho hg r7;obtain⟨a6,n6,c6,rfl,Ia⟩:=ho.var;have II:=I ho;have X6:=I (aj (X5.trans WU) hg (λj hj=>by have:=tu (show some w5.heap.size=some j from hj);simp;omega));clear ho hg r7))
       go_roundw
       case rel =>
        have hb:dK S B G s r taken (k+1)=((k:Int)::lm,sm+y):=by rw[dG,HF.o,f9 rfl,<-Rk.o,<-Oa.o,HI.o,<-HY.o,<-HT1.o,f9 (k8 HGT.o)]
        exact⟨k+1,a6,n6,c6,by omega,by go_num,by rw[hb],rfl,I (by rw[hb];simpa using II.o),X6⟩
       simp[intOf];omega
      have HGT:=I LW;go_wp2
      go_roundw
      case rel =>
       have hb:dK S B G s r taken (k+1)=dK S B G s r taken k:=by rw[dG,HF.o,f9 rfl,<-Rk.o,<-Oa.o,HI.o,<-HY.o,<-HT1.o,f7 (k8 HGT.o)]
       exact⟨k+1,a1,n1,p1,by omega,by go_num,by rw[hb,<-HT1.o],rfl,I (by rw[hb,<-HQ1.o];exact O3),X5⟩
      simp[intOf];omega
    have HF:=I (show fN S s taken (S-(r+1)) k=false by unfold fN;rw[HI.o,Hi,K,H];rfl);rw[Hi]at Jt;rw[K]at HP2;rw[H]at HH;clear Hi K H
    go_wp2_with (first
     | (go_at_call 99;refine(bE _ _ _ j0).mono ?_;(first|rw[Jt.o]|rw[HP2.o]);rintro e w' ⟨rfl,rfl⟩)
     | (go_at_call 240;refine cP HH ?_))
    go_roundw
    case rel=>exact⟨k+1,a1,n1,p1,by omega,by go_num,by rw[dG,HF.o,f7 j7,<-HT1.o],rfl,I SV,B7⟩
    simp[intOf];omega
   go_wp2;have hkB:k=B:=j0;subst hkB;refine Fn Sm rfl ⟨⟨_,by rw[gM,HT1.o],?_⟩,HX.trans B7.o⟩;rw[gM,<-HQ1.o];exact B9.mono j0
def fh(x y:Int)(G:l8)(s:Int):Bool:=dA x y G&&A4 s 0 (EH (x+y)-1)
def kI(x y:Int)(G:l8)(s:Int):o3×Int:=if fh x y G s=true then ce x.toNat y.toNat G s.toNat x.toNat [] else([],0)
def sG{y:Int}{s:Int}(h:fh x y G s=false):kI x y G s=([],0):=by simp[kI,h]
def uX(h:fh (S:Int) (B:Int) G (s:Int)=true):kI (S:Int) (B:Int) G (s:Int)=ce S B G s S []:=by simp[kI,h]
def ku{w:J}{b:Nat}{v u:arQ}{t:TypeId}(h:w.heap[b]?=some (QD #[v] t (0,0))):(w.setCell (O b 0) u).heap[b]?=some (QD #[u] t (0,0)):=one_setCell h
section
variable{w w':J}{base bn bN bo bw n m c m' c':Nat}{p:o3}{L:l8}{a a':l9}{vs:List arQ}
end
def Kt(h:σ:=by
 have h1:=oJ s k h;rw[sL _ h1.1 j0];unfold M2;have:s/2^k % 2=0∨s/2^k % 2=1:=by omega
 rcases this with h|h<;>simp[h]
 ):σ:=h
def Aj(s:Int)(k:Nat)(h:0<=s)(h':s<=9223372036854775807):(bits BinOp.and IntKind.i64 (s/2^k) 1 == 0)=!M2 s k:=by
 exact Kt
def AX(k:Nat)(h:k<=5):IntKind.i64.wrap ((2:Int)^k)=2^k:=by
 have:=fg k;have:=gj k h;rw[mn];omega
abbrev SN(bm bs bb bo bx bw:Nat):Array arQ:=#[aP (some ⟨bm,0,none⟩),aP (some ⟨bo,0,none⟩),aP (some ⟨bx,0,none⟩),aP (some ⟨bb,0,none⟩),aP (some ⟨bw,0,none⟩),aP (some ⟨bs,0,none⟩)]
structure Ue(w0 w:J)(S B s:Nat)(a:l9)(n cap bm bs bb bo br bx bw base:Nat)(a1:l9)(n1 c1:Nat)(st:KU):Prop where
 ord:w0.heap.size<=bm/\bm<bs/\bs<bb/\bb<bo/\bo<br/\br<bx/\bx<bw/\bw<base/\base<=w.heap.size
 hm:w.heap[bm]?=some (QD #[U S,U B,GI a n cap] 91 (0,0))
 hs:w.heap[bs]?=some (QD #[U s] 3 (0,0))
 hb:w.heap[bb]?=some (QD #[GI a1 n1 c1] 29 (0,0))
 ho:w.heap[bo]?=some (QD #[U st.most] 3 (0,0))
 hr:nM w br 3 st.now
 hx:w.heap[bx]?=some (QD #[EQ br S S] 29 (0,0))
 hw:w.heap[bw]?=some (QD #[.func (.func 294) #[] (SN bm bs bb bo bx bw)] 237 (0,0))
 own:r' w base (GI a1 n1 c1) st.Jj
 len:st.now.length=S
 XN:C7 w0 w
section
variable{w0 w w1:J}{S B s:Nat}{a:l9}{n cap bm bs bb bo br bx bw base:Nat}{a1:l9}{n1 c1:Nat}{st:KU}
def Ue.ext(h:Ue w0 w S B s a n cap bm bs bb bo br bx bw base a1 n1 c1 st)(hx:C7 w w1):Ue w0 w1 S B s a n cap bm bs bb bo br bx bw base a1 n1 c1 st :=
 ⟨by have:=h.ord;have:=hx.size;omega,(hx.block _ (In h.hm)).trans h.hm,(hx.block _ (In h.hs)).trans h.hs,(hx.block _ (In h.hb)).trans h.hb,(hx.block _ (In h.ho)).trans h.ho,h.hr.ext hx,(hx.block _ (In h.hx)).trans h.hx,(hx.block _ (In h.hw)).trans h.hw,h.own.ext hx,h.len,h.XN.trans hx⟩
def Ue.UQ(h:Ue w0 w S B s a n cap bm bs bb bo br bx bw base a1 n1 c1 st)(i:Nat)(x:Int):Ue w0 (w.setCell (O br i) (U x)) S B s a n cap bm bs bb bo br bx bw base a1 n1 c1 ⟨st.now.set i x,st.Jj,st.most⟩:=by
 have ho:=h.ord;have E:∀k,k≠br->(w.setCell (O br i) (U x)).heap[k]?=w.heap[k]?:=λk H=>GE w _ k _ H
 refine⟨by simp;omega,?_,?_,?_,?_,h.hr.set i x,?_,?_,h.own.keep λk H=>E k (k8 ((h.own.lt k H).1)),by simpa using h.len,h.XN.setCell m9 _⟩
 ·rw[E _ j0];exact h.hm
 ·rw[E _ j0];exact h.hs
 ·rw[E _ j0];exact h.hb
 ·rw[E _ j0];exact h.ho
 ·rw[E _ j0];exact h.hx
 rw[E _ j0];exact h.hw
def Ue.ZC(h0:Ue w0 w S B s a n cap bm bs bb bo br bx bw base a1 n1 c1 st)(hx:C7 w w1){Q:l9}{H c2:Nat}{l:o3}(Z:r' w1 w (GI Q H c2) l)(x:Int):
 Ue w0 ((w1.setCell (O bb 0) (GI Q H c2)).setCell (O bo 0) (U x)) S B s a n cap bm bs bb bo br bx bw base Q H c2 ⟨st.now,l,x⟩:=by
 have h:=h0.ext hx;have ho:=h.ord;have ho0:=h0.ord;have E:∀k,k≠bb->k≠bo->((w1.setCell (O bb 0) (GI Q H c2)).setCell (O bo 0) (U x)).heap[k]?=w1.heap[k]?:=λk K o7=>(GE _ _ k _ o7).trans (GE _ _ k _ K)
 refine⟨by simp;omega,?_,?_,?_,?_,?_,?_,?_,(Z.mono j0).keep λk K=>E k ?_ ?_,h.len,(h.XN.setCell m9 _).setCell m9 _⟩
 ·rw[E _ j0 j0];exact h.hm
 ·rw[E _ j0 j0];exact h.hs
 ·rw[GE _ _ _ _ m9];exact ku h.hb
 ·exact ku ((GE _ _ _ _ m9).trans h.ho)
 ·exact(h.hr.other m9 _).other m9 _
 ·rw[E _ j0 j0];exact h.hx
 ·rw[E _ j0 j0];exact h.hw
 ·have:=(Z.lt k K).1;omega
 have:=(Z.lt k K).1;omega
end
def YW(w0:J)(S B s:Nat)(a:l9)(n cap bm bs bb bo br bx bw base:Nat)(st:KU)(w:J):Prop:=∃a1 n1 c1,Ue w0 w S B s a n cap bm bs bb bo br bx bw base a1 n1 c1 st
def lK:NE prog 294:=cR func294 j8 j8
def Ta{w0:J}{a:l9}{n cap:Nat}(hM:S8 S B G)(hs:s<32)(hG:dB w0 a n cap G)(bm bs bb bo br bx bw base:Nat):
 ∀(r i:Nat) (ii li sum:Int) (left:Nat) (w:J) (a1:l9) (n1 c1:Nat) (st:KU),ii=(i:Int)->li=(left:Int)->i+r=S->left<32->0<=sum->sum<=100*i ->
 Ue w0 w S B s a n cap bm bs bb bo br bx bw base a1 n1 c1 st ->
 Calls prog 294 #[U ii,U li,U sum,aP (some (O bm 0)),aP (some (O bo 0)),aP (some (O bx 0)),aP (some (O bb 0)),aP (some (O bw 0)),aP (some (O bs 0))] w λe w' =>
  e=ar (.tuple #[])/\YW w0 S B s a n cap bm bs bb bo br bx bw base (eg S B G s r left sum st) w':=by
 have Jc:=hM.sb;have Tr:∀(args:Array arQ) (w:J),(callFunc 294 args).run prog w=.ok (.enter 294 args) w:=lK;intro r
 induction r with
 | zero =>
   intro i ii li sum left w a1 n1 c1 st hii hli hi EA Ks IK E;subst hii hli;have heq:((i:Int) == (S:Int))=true:=m9;have cm:w.cell? (O bm 0)=some (U S):=by rw[aR _ _ _ _ _ _ E.hm];rfl
   have co:=Lo E.ho;have fo:=L0 E.ho;have cb:=Lo E.hb;have fb:=L0 E.hb;have cx:=Lo E.hx;have hne1:bb≠bo:=k8 E.ord;have hne2:bo≠bb:=k8 E.ord;have HS:=I E;have HI:=I hi;by_cases LW:st.most<sum
   ·have HZ:=I (show eg S B G s 0 left sum st=⟨st.now,st.now,sum⟩by simp[eg,LW]);have HN:=I (E.hr.ints (n:=S) (cap:=S) E.len (i8 _) j0);clear E hi;go_in
    go_wp2_with fail;refine E9 (jI HN.o j0) λw1 v ho hx=>?_;obtain⟨a2,n2,c2,rfl,Hb⟩:=ho.var;have Z:=HS.ext hx;have co:=Lo Z.ho;have fo:=L0 Z.ho;have cb:=Lo Z.hb;have fb:=L0 Z.hb;have HX:=I hx;have HO:=I ho;clear hx ho Z;go_wp2;refine Fn (Wt rfl _ _ _) rfl ?_;rw[HZ.o];exact⟨rfl,a2,n2,c2,HS.ZC HX.o HO.o sum⟩
   have HZ:=I (show eg S B G s 0 left sum st=st by simp[eg,LW]);clear E hi;go_in
   go_wp2;refine Fn (Wt rfl _ _ _) rfl ?_;rw[HZ.o];exact⟨rfl,a1,n1,c1,HS⟩
 | succ r ih =>
   intro i ii li sum left w a1 n1 c1 st hii hli hi EA Ks IK E;subst hii hli;have heq:((i:Int) == (S:Int))=false:=m9;have hiS:i<S:=j0;have Ho:S-(r+1)=i:=j0;have hord:=E.ord;have cm0:w.cell? (O bm 0)=some (U S):=by rw[aR _ _ _ _ _ _ E.hm];rfl
   have cx:=Lo E.hx;have hn:=E.hr.cell (k:=i) (by rw[E.len];exact hiS);have⟨y0,JC⟩:=e9 (st.now[i]?.getD 0);rw[<-JC]at hn;have fn:=E.hr.free i;have Is:=I (E.UQ i (-1));have cw1:=Lo Is.hw;refine Op Ho hi ih hM λHI QJ HIH KW=>?_;have G5:=Aj (s:Int) i j0 j0;have Ku:S<=5:=j0;clear E hi Ho ih JC;go_in
   go_wp2_with fail;refine(HIH (i+1) ((i:Int)+1) (left:Int) sum left _ a1 n1 c1 _ j7 rfl (k8 QJ.o) EA Ks m9 Is).mono ?_;rintro e w2 ⟨rfl,a2,n2,c2,hS2⟩;have GJ:=I hS2;have cs2:=Lo hS2.hs;clear hS2 hn fn cx cm0 cw1;cases Hi:M2 (s:Int) i
   ·rw[Hi]at G5;have O':=I Hi;clear Hi;go_wp2;refine Fn (Wt rfl _ _ _) rfl ?_;rw[uZ _ _ _ _ (by rw[HI.o];exact O'),HI.o];exact⟨rfl,a2,n2,c2,GJ⟩
   rw[Hi]at G5;have O':=I Hi;have cm1:w2.cell? (O bm 1)=some (U B):=by rw[aR _ _ _ _ _ _ GJ.hm];rfl
   have HZ:=I (yz S B G s (r:=r) (left:=left) (sum:=sum) (st:=st) (by rw[HI.o];exact O'));clear Hi;go_wp2
   go_loopw [39] (λj wr=>∃(k:Nat),k<=B/\j=U k/\YW w0 S B s a n cap bm bs bb bo br bx bw base (fX S B G s r left sum st k) wr) (λj _=>B-(intOf j).toNat)
   ·exact⟨0,gi _,rfl,a2,n2,c2,by rw[pM,HI.o];exact GJ⟩
   obtain⟨k,hk,rfl,a3,n3,c3,WW⟩:=hrel;have K9:=I WW;have cm0:wr.cell? (O bm 0)=some (U S):=by rw[aR _ _ _ _ _ _ WW.hm];rfl
   have cx:=Lo WW.hx;by_cases hlt:k<B
   ·have Ni:=lW (left:Int) (S+k) j0 j0;cases PJ:M2 (left:Int) (S+k)
    ·rw[PJ]at Ni;have J1:=I PJ;clear PJ WW;go_wp2
     go_roundw
     case rel=>exact⟨k+1,by omega,by go_num,a3,n3,c3,by rw[lH,J1.o,f7 j7];exact K9⟩
     simp[intOf];omega
    rw[PJ]at Ni;have J1:=I PJ;have ahd:=WW.ord;have LD:=WW.hr.cell (k:=i) (by rw[WW.len];exact hiS);have⟨y3,hy3⟩:=e9 ((fX S B G s r left sum st k).now[i]?.getD 0);rw[<-hy3]at LD;have fn3:=WW.hr.free i;have H:=WW.UQ i (k:Int);have Oy:=I H;have hiG:i<n:=by have:=hG.hlen;have:=KW.rows;omega
    have⟨hncap,hnmax⟩:=hG.aq9;have⟨gb,Ke,ga,gn,gc,SF,adG,Fo⟩:=hG.at hiG;have hgn:k<gn:=by have h1:=Fo.hlen;have h2:=KW.row i hiS;omega
    have⟨rb,K,hra,Wo⟩:=Fo.at hgn;have Q':=KW.bd i k;have⟨y,HY⟩:=GT (iv G i k);have Wo:w0.cell? (O rb (K+k))=some (U y):=by rw[HY.o];exact Wo
    have NI:=H.XN.o6 adG;have LU:=H.XN.o6 Wo;have HGC:=I adG;have QL:=I Wo;rw[<-HY.o]at Q';have⟨ahH,ahG⟩:=Fo.aq9;have cw4:=Lo H.hw;have cm40:(wr.setCell (O br i) (U k)).cell? (O bm 0)=some (U S):=by rw[aR _ _ _ _ _ _ H.hm];rfl
    have cm42:(wr.setCell (O br i) (U k)).cell? (O bm 2)=some (GI a n cap):=by rw[aR _ _ _ _ _ _ H.hm];rfl
    subst SF hra;have⟨w4,HW4⟩:=GT (wr.setCell (O br i) (U k));rw[<-HW4.o]at NI LU cw4 cm40 cm42 Oy;clear PJ WW H Fo hy3 ahd adG Wo;have o7:=C7.drew w4;have ad8:=WH EA (show S+k<5 by omega) J1.o;obtain⟨u,hu⟩:∃u:Nat,u=left-2^(S+k):=⟨_,rfl⟩;have V9:u<32:=by rw[hu];exact Ru (Nat.sub_le _ _) EA
    rw[<-hu]at ad8;have HU:=I hu;have eSk:=dk ((S:Int)+(k:Int));have eI:=dk ((i:Int)+1);have eSum:=dk (sum+y);refine t8 (AX (S+k) j0) (show((S:Int)+(k:Int)).toNat=S+k by omega) ad8 λHPow Ri HCut=>?_;clear hu ad8;go_wp2;rw[<-HW4.o]
    go_region_held3 (λw'=>w'.cell? (O bw 0)=some (.func (.func 294) #[] (SN bm bs bb bo bx bw))/\w'.cell? (O bm 0)=some (U S)/\w'.cell? (O bm 2)=some (GI (some (O gb Ke)) n cap)/\w'.cell? (O gb (Ke+i))=some (GI (some (O rb K)) gn gc)/\w'.cell? (O rb (K+k))=some (U y))
     (first
       | exact⟨o7.o6 cw4,o7.o6 cm40,o7.o6 cm42,o7.o6 NI,o7.o6 LU⟩
       | exact⟨Lo JP.hw,by rw[aR _ _ _ _ _ _ JP.hm];rfl,by rw[aR _ _ _ _ _ _ JP.hm];rfl,JP.XN.o6 HGC.o,JP.XN.o6 QL.o⟩)
     (first
       | (rw[Ri.o,HPow.o,HCut.o]
          have T1:=HIH.o (i+1) ((i:Int)+1) (u:Int) (sum+y) u _ a3 n3 c3 _ j7 rfl (k8 QJ.o) V9 j0 m9 (Oy.ext o7)
          with_reducible refine T1.mono ?_
          rintro e w5 ⟨rfl,a5,n5,c5,hS5⟩;have JP:=I hS5;clear hS5 T1))
    go_wp2
    go_roundw
    case rel=>exact⟨k+1,by omega,by go_num,a5,n5,c5,by rw[lH,J1.o,f9 rfl,HI.o,<-HY.o,<-HU.o];exact JP⟩
    simp[intOf];omega
   have hkB:k=B:=j0;subst hkB;clear WW;go_wp2
   go_end0
   rw[HZ.o];exact⟨rfl,a3,n3,c3,K9⟩
end
section
variable{w:J}{x y:Int}{a:l9}{n S B:Nat}{G:l8}
def V0(h:σ:=by
 repeat(first|exact IO j7|rw[aZ _ _ _ m9]|rw[aZ _ _ _ j7])
 ):σ:=h
def wm{s:Int}{cap:Nat}(h:dB w a n cap G):
 Calls prog 231 #[kJ x y a n cap,U s] w λe w'=>(∃v,e=ar (.tuple #[v,U (kI x y G s).2,bl (fh x y G s)])/\r' w' w v (kI x y G s).1)/\C7 w w':=by
 have⟨W,HW⟩:=GT ((w.alloc (QD #[U x,U y,GI a n cap] 91)).alloc (QD #[U s] 3));have hX:C7 w W:=by rw[HW.o];exact WU.trans WU
 refine t8 hX h (kX (x:=x) (y:=y) ((h.ext hX).ext (C7.drew W))) λHX HG HV=>?_;have hsz:W.heap.size=w.heap.size+1+1:=by rw[HW.o];simp
 have H:W.heap[w.heap.size]?=some (QD #[U x,U y,GI a n cap] 91 (0,0)):=by rw[HW.o,aZ _ _ _ j7];exact IO rfl
 have WS:W.heap[w.heap.size+1]?=some (QD #[U s] 3 (0,0)):=by rw[HW.o];exact IO j7
 have c0:W.cell? (O w 0)=some (U x):=by rw[aR _ _ _ _ _ _ H];rfl
 have c1:W.cell? (O w 1)=some (U y):=by rw[aR _ _ _ _ _ _ H];rfl
 have c2:W.cell? (O w 2)=some (GI a n cap):=by rw[aR _ _ _ _ _ _ H];rfl
 have cs:=Lo WS;refine t8 H WS hsz λHBM I2 HSZ=>?_;have E:=C7.drew W;clear h hX H WS hsz;cases hv:dA x y G
 ·have HN:=I (show fh x y G s=false by simp[fh,hv]);rw[hv]at HV;clear hv;go_in
  go_wp2;rw[<-HW.o];refine nE (S:=(λw'=>w'.cell? (O w 0)=some (U x)/\w'.cell? (O w 1)=some (U y)/\w'.cell? (O w 2)=some (GI a n cap)/\C7 W w')) j8 ?_ (λo9=>?_)
  ·exact⟨E.o6 c0,E.o6 c1,E.o6 c2,E⟩
  refine tk 0 ?_;refine rd 1 λK hK=>?_;go_simp
  (go_at_call 229;refine IR HV λw3 B5=>?_;have E:=E.trans B5)
  go_wp2_with fail;refine KO (an (E.o6 c0) (an (E.o6 c1) (an (E.o6 c2) E))) λo9=>?_;refine tk 2 ?_;refine PV ⟨?_⟩;refine tk 7 ?_;refine tk 8 ?_;refine tk 9 ?_;refine tk 10 ?_;refine TK ⟨?_⟩;refine tk 14 ?_;refine Pi j8 ?_ _;go_wp2;rw[sG HN.o,HN.o];refine Fn Ro rfl ⟨⟨_,rfl,C1⟩,HX.trans E⟩
 rw[hv]at HV;obtain⟨S,B,rfl,rfl,hM⟩:=lF hv;have Jc:=hM.sb;have Mu:=dP (S+B) Jc;have hN:=bp (S+B) Jc;have PI:EH ((S:Int)+(B:Int))=(cN (S+B):Int):=by rw[<-Mu];simp
 have HC:=I PI;have HM:=I hM;have eSB:=dk ((S:Int)+(B:Int));have eN:=dk ((cN (S+B):Int)-1)
 cases Z:A4 s 0 ((cN (S+B):Int)-1)
 ·have Hl:=I Z;have HN:=I (show fh (S:Int) (B:Int) G s=false by simp[fh,hv,PI,Z]);clear hv Z PI Mu hM;go_in
  go_wp2;rw[<-HW.o]
  go_region_held3 (λw'=>w'.cell? (O w 0)=some (U S)/\w'.cell? (O w 1)=some (U B)/\w'.cell? (O w 2)=some (GI a n cap)/\w'.cell? (O (w+1) 0)=some (U s)/\C7 W w')
   (exact⟨E.o6 c0,E.o6 c1,E.o6 c2,E.o6 cs,E⟩)
   (first
     | (go_at_call 229;refine IR HV λw3 B5=>?_;have E:=E.trans B5)
     | (go_at_call 83;refine cP (et _ _) ?_;rw[HC.o])
     | (go_at_call 82;refine cP pk ?_;rw[Hl.o]))
  go_wp2;rw[sG HN.o,HN.o];refine Fn Ro rfl ⟨⟨_,rfl,C1⟩,HX.trans E⟩
 have Hl:=I Z;have Fs:=I (show fh (S:Int) (B:Int) G s=true by simp[fh,hv,PI,Z]);obtain⟨t,rfl⟩:∃t:Nat,s=t:=⟨s.toNat,by unfold A4 at Z;simp at Z;omega⟩;have ht:t<32:=by unfold A4 at Z;simp at Z;omega
 have hmk:=kj S j0;clear hv Z PI Mu hM hN;go_in
 go_wp2;rw[<-HW.o]
 go_region_held3 (λw'=>w'.cell? (O w 0)=some (U S)/\w'.cell? (O w 1)=some (U B)/\w'.cell? (O w 2)=some (GI a n cap)/\w'.cell? (O (w+1) 0)=some (U t)/\C7 W w')
  (exact⟨E.o6 c0,E.o6 c1,E.o6 c2,E.o6 cs,E⟩)
  (first
    | (go_at_call 229;refine IR HV λw3 B5=>?_;have E:=E.trans B5)
    | (go_at_call 83;refine cP (et _ _) ?_;rw[HC.o])
    | (go_at_call 82;refine cP pk ?_;rw[Hl.o]))
 have d0:=E.o6 c0;have ds:=E.o6 cs;have hlt3:w.heap.size+1<w3.heap.size:=O4 _ _ ds;have hltm:w.heap.size<w3.heap.size:=j0;have X3:=I (HX.trans E);have J0:=I ((E.block _ (k8 HSZ.o)).trans HBM);have K9:=I ((E.block _ (k8 HSZ.o)).trans I2);clear E c0 c1 c2 cs;have hS:Ue w (((((w3.alloc (QD #[d6] 29)).alloc (QD #[U (-1)] 3)).alloc (QD (bH (List.replicate S 0)) 3)).alloc (QD #[EQ (w3.heap.size+1+1) S S] 29)).alloc
  (QD #[.func (.func 294) #[] (SN w (w+1) w3 (w3+1) (w3.heap.size+1+1+1) (w3.heap.size+1+1+1+1))] 237))
  S B t a n cap w (w+1) w3 (w3+1) (w3.heap.size+1+1) (w3.heap.size+1+1+1) (w3.heap.size+1+1+1+1) (w3.heap.size+1+1+1+1+1) none 0 0 ⟨List.replicate S 0,[],-1⟩:=by
  have hx:C7 w3 (((((w3.alloc (QD #[d6] 29)).alloc (QD #[U (-1)] 3)).alloc (QD (bH (List.replicate S 0)) 3)).alloc (QD #[EQ (w3.heap.size+1+1) S S] 29)).alloc
   (QD #[.func (.func 294) #[] (SN w (w+1) w3 (w3+1) (w3.heap.size+1+1+1) (w3.heap.size+1+1+1+1))] 237)) :=
   ((((WU.trans WU).trans WU).trans WU).trans WU)
  refine⟨by simp;omega,?_,?_,?_,?_,?_,?_,?_,C1,by simp,X3.trans hx⟩
  ·exact(hx.block _ j0).trans J0.o
  ·exact(hx.block _ j0).trans K9.o
  ·exact V0
  ·exact V0
  ·unfold nM;exact V0
  ·exact V0
  exact V0
 have T1:=I (Ta HM.o ht HG.o _ _ _ _ _ _ _ _ S 0 0 (t:Int) 0 t _ _ _ _ _ rfl rfl j0 ht j0 j7 hS);have Tr:∀(args:Array arQ) (w:J),(callFunc 294 args).run prog w=.ok (.enter 294 args) w:=lK;have csW:=Lo hS.hs;have Hh:w.heap.size≠w3.heap.size:=j0;have IB:w.heap.size≠w3.heap.size+1:=j0;have hq3:w.heap.size≠w3.heap.size+1+1:=j0;have hq4:w.heap.size≠w3.heap.size+1+1+1:=j0;have JF:w.heap.size+1≠w3.heap.size:=j0;have hq6:w.heap.size<w3.heap.size+1+1+1:=j0;have hq7:w.heap.size<w3.heap.size+1+1:=j0;have hq8:w.heap.size<w3.heap.size+1:=j0;clear hS;go_wp2_with fail;refine T1.mono ?_;rintro e w7 ⟨rfl,a5,n5,c5,hS7⟩;have Ox:=I hS7;have cb:=Lo hS7.hb;have co:=Lo hS7.ho;have hF:=mV S B G t Jc S t [] 0 ⟨List.replicate S 0,[],-1⟩ (i8 _) j7 ht (λj _=>by simp[PK]);have I5:=gF S B G t HM.bd S [];unfold kM at hF;obtain⟨f1,f2,f3⟩:=hF;simp only[Y',List.take_zero,Qu,Int.zero_add]at f3;have f4:(eg S B G t S t 0 ⟨List.replicate S 0,[],-1⟩).Jj=(ce S B G t S []).1/\(eg S B G t S t 0 ⟨List.replicate S 0,[],-1⟩).most=(ce S B G t S []).2:=by
  rcases f3 with⟨_,g2,g3⟩|⟨g1,_⟩
  ·exact⟨g2,g3⟩
  omega
 have HF:=I f4;have⟨mo,HMO⟩:=GT ((eg S B G t S t 0 ⟨List.replicate S 0,[],-1⟩).most);rw[<-HMO.o]at co;clear hS7 f1 f2 f3 f4 I5 hmk Tr;go_wp2
 go_quiet (fail)
 go_wp2;rw[Fs.o,uX Fs.o];refine Fn Ro rfl ⟨⟨_,by rw[<-HF.2,<-HMO.o],?_⟩,Ox.XN.trans (E7.ext ⟨_,rfl⟩)⟩;rw[<-HF.1];exact(Ox.own.ext (E7.ext ⟨_,rfl⟩)).mono j0
def MW(S B:Nat)(G:l8)(s:Nat):Int:=(ce S B G s S []).2
def NX(x y:Int)(G:l8):Nat:=if dA x y G=true then(x+y).toNat else 0
def MV(x y:Int)(G:l8):o3:=if dA x y G=true then Er (MW x.toNat y.toNat G) (cN (x+y).toNat) else []
def qN(S B:Nat)(G:l8):∀(r:Nat) (taken:o3),(ce S B G 0 r taken).2=0
 | 0,_=>rfl
 | r+1,taken=>by
   rw[gM];have E:∀k,dK S B G 0 r taken k=(-1::(ce S B G 0 r taken).1,(ce S B G 0 r taken).2):=by
    intro k
    induction k with
    | zero=>rfl
    | succ k ih=>rw[dG,f7 (by simp[fN,M2]),ih]
   rw[E];exact qN S B G r taken
def q'(E:S8 S B G)(s:Nat):-500<=MW S B G s/\MW S B G s<=500:=by
 have:=gF S B G s E.bd S [];have:=E.sb;unfold MW;omega
def UB{s:Nat}(E:dA (S:Int) (B:Int) G=true)(K:S+B<=5)(hs:s<cN (S+B)):fh (S:Int) (B:Int) G (s:Int)=true:=by
 have H:=dP (S+B) K;have PI:EH ((S:Int)+(B:Int))=(cN (S+B):Int):=by rw[<-H];simp
 unfold fh A4;rw[E,PI];simp;omega
def nU:NE prog 230:=cR func230 j8 j8
def ph{s bm:Nat}{cap:Nat}(h:dB w a n cap G)(hm:w.heap[bm]?=some (QD #[U S,U B,GI a n cap] 91 (0,0)))
 (E:dA (S:Int) (B:Int) G=true) (H:S+B<=5) (hs:s<cN (S+B)) :
 f8 230 #[U s,aP (some (O bm 0))] w (U (MW S B G s)):=by
 have Q:=I (wm (x:=(S:Int)) (y:=(B:Int)) (s:=(s:Int)) h);have K:=I (show(kI (S:Int) (B:Int) G (s:Int)).2=MW S B G s by rw[uX (UB E H hs)];rfl);have c0:w.cell? (O bm 0)=some (U S):=by rw[aR _ _ _ _ _ _ hm];rfl
 have c1:w.cell? (O bm 1)=some (U B):=by rw[aR _ _ _ _ _ _ hm];rfl
 have c2:w.cell? (O bm 2)=some (GI a n cap):=by rw[aR _ _ _ _ _ _ hm];rfl
 clear h hm E hs;unfold f8;go_in
 go_wp2_with fail;refine TS Q λw1 v ho hx=>?_;rw[K.o];go_wp2;go_ret;exact⟨rfl,hx⟩
def FQ(h:σ:=by
 rw[hv]at HV;have FH:=I hv;clear hv;go_in
 go_wp2_with fail;refine HV.mono ?_;rintro e w1 ⟨rfl,hx⟩;have r0:w1.cell? (O (w.heap.size+1) 0)=some (U 0):=hx.o6 j7;have r1:w1.cell? (O (w.heap.size+1) 1)=some d6:=hx.o6 j7;have f0:w1.frozen? (O (w.heap.size+1) 0)=false:=(hx.DY _ _ j7).trans j7;have f1:w1.frozen? (O (w.heap.size+1) 1)=false:=(hx.DY _ _ j7).trans j7;have A0:=I (HX.trans hx);clear hx;go_wp2;refine Fn TH rfl ⟨⟨d6,?_,?_⟩,?_⟩
 ·unfold NX;rw[FH.o];rfl
 ·unfold MV;rw[FH.o];exact⟨rfl,.inl ⟨rfl,rfl⟩⟩
 ·exact(A0.setCell j7 _).setCell j7 _
 ):σ:=h
def Mo(h:σ:=by
 unfold MV;rw[FH.o,f9 rfl];have e:((S:Int)+(B:Int)).toNat=S+B:=by omega
 rw[e];rfl
 ):σ:=h
def qa{cap:Nat}(h:dB w a n cap G):
 Calls prog 160 #[kJ x y a n cap] w λe w'=>jd w' w e (NX x y G) (MV x y G) (dA x y G)/\C7 w w':=by
 have HX:=I ((C7.alloc w (QD #[U x,U y,GI a n cap] 91)).trans (C7.alloc _ (QD #[U 0,d6] 31)));have HV:=I (kX (x:=x) (y:=y) (h.ext HX));have HI:=I (h.ext HX);clear h;cases hv:dA x y G
 ·have qq0:=@results160;exact FQ
 rw[hv]at HV;obtain⟨S,B,rfl,rfl,Z⟩:=lF hv;have Jc:=Z.sb;have hN:=bp (S+B) Jc;have h1:1<=S+B:=k8 Z.s1;have FH:=I hv;have HM:=I Z;have H:(S:Int)+(B:Int)=((S+B:Nat):Int):=j7;have Yh:=I H;clear hv Z H;go_in
 go_wp2_with fail;refine i7 HV λw1 A0=>?_;have c0:w1.cell? (O w 0)=some (U S):=A0.o6 j7;have c1:w1.cell? (O w 1)=some (U B):=A0.o6 j7;have HB:b9 (w1.heap[w.heap.size]?=some (QD #[U S,U B,GI a n cap] 91 (0,0))):=(A0.block _ m9).trans wz;have MA:=I (HI.ext A0);have IK:w.heap.size<w1.heap.size:=O4 _ _ c0;have HT:b9 (ix prog w1 230 #[aP (some (O w 0))] (cN (S+B)) (MW S B G)):=I λs E hs k =>
  ph (MA.ext k) ((k.block _ (In HB)).trans HB) FH.o Jc hs
 have S0:=I (nY h1 Jc nU HT.o (qN S B G S []) (λs _=>q' HM.o s));rw[<-Yh.o]at S0;go_wp2_with fail;refine PP S0 λE v ho hx=>?_;obtain⟨a2,n2,c2,rfl,Hb⟩:=ho.var;have K:=I (A0.trans hx);have r0:E.cell? (O (w+1) 0)=some (U 0):=K.o6 j7;have r1:E.cell? (O (w+1) 1)=some d6:=K.o6 j7;have f0:E.frozen? (O (w+1) 0)=false:=(K.DY _ _ j7).trans j7;have f1:E.frozen? (O (w+1) 1)=false:=(K.DY _ _ j7).trans j7;have HO1:=I ho;have LS:=A0.size;simp at LS;clear ho;go_wp2;have hp:NX (S:Int) (B:Int) G=S+B:=by unfold NX;rw[FH.o,f9 rfl];omega
 have hl:MV (S:Int) (B:Int) G=Er (MW S B G) (cN (S+B)):=by
  exact Mo
 rw[hp,hl];refine Fn (by simp[results,results160,go_sem,r0,r1]<;>rfl) rfl ⟨⟨GI a2 n2 c2,rfl,?_⟩,?_⟩
 ·exact N7
 exact((HX.trans K).setCell j7 _).setCell j7 _
def qw{cap:Nat}(h:dB w a n cap G):
 Calls prog 90 #[kJ x y a n cap] w λe w'=>jd w' w e (NX x y G) (MV x y G) (dA x y G)/\C7 w w':=by
 have HX:=I ((C7.alloc w (QD #[U x,U y,GI a n cap] 91)).trans (C7.alloc _ (QD #[U 0,d6] 31)));have HV:=I (si (x:=x) (y:=y) (h.ext HX));have HI:=I (h.ext HX);clear h;cases hv:dA x y G
 ·have qq0:=@results90;exact FQ
 rw[hv]at HV;obtain⟨S,B,rfl,rfl,K⟩:=lF hv;have Jc:=K.sb;have hN:=bp (S+B) Jc;have FH:=I hv;have HM:=I K;have Mu:=dP (S+B) Jc;have HC:=I (show EH ((S:Int)+(B:Int))=(cN (S+B):Int)by rw[<-Mu];simp);clear hv K Mu;go_in
 go_wp2_with fail;refine i7 HV λw1 hx=>?_;have c0:w1.cell? (O w 0)=some (U S):=hx.o6 j7;have c1:w1.cell? (O w 1)=some (U B):=hx.o6 j7;have IK:w.heap.size<w1.heap.size:=O4 _ _ c0;have Nc:w.heap.size+1<w1.heap.size:=by have:=hx.size;simp at this;omega
 have A0:=I hx;have MA:=I (HI.ext hx);go_wp2_with (go_at_call 33;refine cP (dj _ _) ?_;rw[HC.o])
 go_loopw [6] (λi wr=>∃(k:Nat) (a1:l9) (n1 c1:Nat),k<=cN (S+B)/\i=U k/\b9 (r' wr (w1+1) (GI a1 n1 c1) (Er (MW S B G) k))/\b9 (wr.heap[w1.heap.size]?=some (QD #[U ((S:Int)+(B:Int)),GI a1 n1 c1] 31 (0,0)))/\b9 (C7 w1 wr)) (λi _=>cN (S+B)-(intOf i).toNat)
 case atStart =>
  exact SQ
 obtain⟨k,a1,n1,p1,hk,rfl,HO1,E,C0⟩:=hrel;have H:=In E.o;have c0:wr.cell? (O w 0)=some (U S):=(A0.trans C0).o6 j7;have c1':wr.cell? (O w 1)=some (U B):=(A0.trans C0).o6 j7;have c2':wr.cell? (O w 2)=some (GI a n cap):=(A0.trans C0).o6 j7;have YL:w.heap.size<wr.heap.size:=j0;by_cases hlt:k<cN (S+B)
 ·have HIr:=I ((MA.ext C0).ext (C7.alloc _ (QD #[] 3)));have HF:b9 ((ce S B G k S []).2=MW S B G k):=I (rfl)
  go_wp2_with (first
   | (go_at_call 167;refine PP (Ds HM.o (show k<32 by omega) S 0 0 rfl j0 _ a n cap _ 0 0 [] HIr.o (r'.made' wr 0 _ rfl j0).ints j7) λw4 v4 Hd DN=>?_;rw[HF.o];have Q:=I ((C7.alloc wr (QD #[] 3)).trans DN);have EI:=I (HO1.ext Q);have FI:=I ((Q.block _ H).trans E);have K2:=aH FI.o;have Th:=In FI.o;clear Hd)
   | (at_builtin;refine bK rfl _ _ rfl (w1+1) (GI a1 n1 p1) _ rfl (EI.ext WU) _ 1 _ [MW S B G k] rfl (d9.one' _ _ _ _ rfl) (by rw[iY];omega) m9 ?_;intro v3 w5 EV Z LD;obtain⟨a3,n3,c3,rfl,LK⟩:=EV.var;have B9:=I EV;have B7:=I (aj ((C0.trans Q).trans WU) Z (λj hj=>by have:=(EI.lt j hj).1;omega));have En:=I ((Z.block _ m9 (λe=>by have:=(EI.lt _ e.symm).1;omega)).trans (((C7.alloc w4 _).block _ Th).trans FI));have cg3:=aH En.o;have fg3:=mo w5 w1 1 _ _ En.o;clear EV Z LD))
  go_roundw
  case rel =>
   exact SH
  exact sw
 have DV:k=cN (S+B):=j0;subst DV;have Ms:=bI E.o;have K2:=aH E.o;have r0:wr.cell? (O (w+1) 0)=some (U 0):=(A0.trans C0).o6 j7;have r1:wr.cell? (O (w+1) 1)=some d6:=(A0.trans C0).o6 j7;have f0:wr.frozen? (O (w+1) 0)=false:=((A0.trans C0).DY _ _ j7).trans j7;have f1:wr.frozen? (O (w+1) 1)=false:=((A0.trans C0).DY _ _ j7).trans j7;go_wp2;have hp:NX (S:Int) (B:Int) G=S+B:=by unfold NX;rw[FH.o,f9 rfl];omega
 have hl:MV (S:Int) (B:Int) G=Er (MW S B G) (cN (S+B)):=by
  exact Mo
 rw[hp,hl];refine Fn (by simp[results,results90,go_sem,r0,r1]<;>rfl) rfl ⟨⟨GI a1 n1 p1,by simp,?_⟩,?_⟩
 ·exact N7
 exact S7
def IQ(s:Nat)(k:Nat):Nat:=(List.range k).countP λj=>M2 (s:Int) j
def uH(s k:Nat):IQ s (k+1)=IQ s k+if M2 (s:Int) k then 1 else 0:=by
 unfold IQ;rw[rN,List.countP_append];simp[List.countP_cons]
def tC(s k:Nat):IQ s k<=k:=by unfold IQ;exact fy B' j7
def M'(h:σ:=by
 obtain⟨k,hk,rfl,rfl⟩:=hrel;have hple:=qq0 s k;by_cases hlt:k<5
 ·have HP:=I (qq1 (s:Int) (k:Int) w j0);have HB:=I (dE (s:Int) k j0 j0);have HS:=I (qq2 s k);cases hb:M2 (s:Int) k
  all_goals
   rw[HB.o,hb]at HP;rw[hb]at HS;clear hb;go_wp2_with fail;refine HP.mono ?_;rintro e w' ⟨rfl,rfl⟩;go_wp2
   go_round
   case rel=>exact⟨k+1,by omega,by go_num,by rw[HS.o];go_num⟩
   simp[intOf];omega
 ·have MN:k=5:=by omega
  subst MN;go_wp2;go_ret;exact⟨rfl,rfl⟩
 ):σ:=h
def RZ(h:σ:=by
 exact⟨0,by omega,rfl,rfl⟩
 ):σ:=h
def Dn(s:Nat)(hs:s<4294967296)(w:J):Calls prog 100 #[.int .i64 (s:Int)] w λe w'=>e=ar (.int .i64 (IQ s 5:Int))/\w=w':=by
 go_in
 go_wp2
 go_loop [3,4] (λQ E=>∃k:Nat,k<=5/\E=.int .i64 (k:Int)/\Q=.int .i64 (IQ s k:Int)) (λ_ E=>5-(intOf E).toNat)
 ·exact⟨0,by omega,rfl,rfl⟩
 obtain⟨k,hk,rfl,rfl⟩:=hrel;have hple:=tC s k;by_cases hlt:k<5
 ·refine t8 (bE (s:Int) (k:Int) w j0) (dE (s:Int) k j0 j0) (uH s k) λK HB H=>?_;cases hb:M2 (s:Int) k
  all_goals
   rw[HB.o,hb]at K;rw[hb]at H;clear hb;go_wp2_with fail;refine cP K ?_;go_wp2
   go_round
   case rel=>exact⟨k+1,by omega,by go_num,by rw[H.o];go_num⟩
   simp[intOf];omega
 have Z:k=5:=j0;subst Z;go_wp2;go_ret;exact⟨rfl,rfl⟩
def uj(s:Nat)(hs:s<4294967296)(w:J):Calls prog 159 #[.int .i64 (s:Int)] w λe w'=>e=ar (.int .i64 (IQ s 5:Int))/\w=w':=by
 go_in
 go_wp2
 go_loop [3,5] (λQ E=>∃k:Nat,k<=5/\E=.int .i64 (k:Int)/\Q=.int .i64 (IQ s k:Int)) (λ_ E=>5-(intOf E).toNat)
 ·exact⟨0,by omega,rfl,rfl⟩
 obtain⟨k,hk,rfl,rfl⟩:=hrel;have hple:=tC s k;by_cases hlt:k<5
 ·refine t8 (gZ (s:Int) (k:Int) w j0) (dE (s:Int) k j0 j0) (uH s k) λK HB H=>?_;cases hb:M2 (s:Int) k
  all_goals
   rw[HB.o,hb]at K;rw[hb]at H;clear hb;go_wp2_with fail;refine cP K ?_;go_wp2
   go_round
   case rel=>exact⟨k+1,by omega,by go_num,by rw[H.o];go_num⟩
   simp[intOf];omega
 have Z:k=5:=j0;subst Z;go_wp2;go_ret;exact⟨rfl,rfl⟩
def d9.oneE(w:J)(x:Int)(t:TypeId)(n:Nat)(E:n=w.heap.size):d9 (w.alloc (QD #[U x] t)) (some (O n 0)) 1 1 [x]:=by subst E;exact d9.one _ _ _
def Hv{w':J}{g:Nat}{o:Obj}(hx:C7 w w')(h:w.heap[g]?=some o):w'.heap[g]?=some o:=(hx.block _ (In h)).trans h
def jV(l:o3)(s:Nat):Int:=l[IQ s 5]?.getD 0
def sp{m cap:Nat}{l:o3}(h:d9 w a m cap l)(hn:n<=5)(hm:∀s,s<cN n->IQ s 5<m):
 Calls prog 89 #[U n,GI a m cap] w λe w'=>(∃v,e=ar (.agg #[U n,v])/\r' w' w v (Er (jV l) (cN n)))/\C7 w w':=by
 have⟨W,hW⟩:=e9 ((w.alloc (QD #[U 0,d6] 31)).alloc (QD #[U n,d6] 31));have Ml:W.heap.size=w.heap.size+2:=by rw[hW];simp
 refine Op (show C7 w W by rw[hW];exact WU.trans WU) (show W.heap[w.heap.size+1]?=some (QD #[U n,d6] 31 (0,0))by rw[hW];exact IO j7) (show W.heap[w.heap.size]?=some (QD #[U 0,d6] 31 (0,0))by rw[hW,aZ _ _ _ j7];exact IO rfl) h λA8 EB DO HI=>?_;have⟨r8,r9⟩:=h.aq9;have HM:=I hm;have Oc:=I (λw'=>dj (n:Int) w');rw[dP n hn]at Oc;have hcN:=bp n hn;have⟨N,hN⟩:=e9 (cN n);rw[<-hN]at Oc hcN HM;rw[<-hN];clear h hm hN;go_in
 go_upto_region 2 with fail;rw[<-hW];clear hW;go_wp2
 go_loopg [6] N (λgk ss wr=>∃(k:Nat) (a1:l9) (n1 c1:Nat),b9 (gk+k=N)/\ss=U k/\b9 (wr.heap[w.heap.size+1]?=some (QD #[U n,GI a1 n1 c1] 31 (0,0)))/\b9 (wr.heap[w.heap.size]?=some (QD #[U 0,d6] 31 (0,0)))/\b9 (r' wr (w+2) (GI a1 n1 c1) (Er (jV l) k))/\b9 (C7 w wr)/\b9 (w.heap.size+2<=wr.heap.size))
 ·exact⟨0,_,_,_,I j0,rfl,EB,DO,I C1,A8,I j0⟩
 rename Nat=>g1;rename J=>wr;obtain⟨k,a1,n1,c1,HK,rfl,HG,HR,HO,HX,HZ⟩:=hrel;have hz:=HZ.o;have c0:=bI HG.o;have c1':=aH HG.o;go_wp2_with fail;refine(Oc _).mono ?_;rintro e w1 ⟨rfl,rfl⟩;by_cases hlt:k<N
 ·have hpm:=HM.o k hlt;obtain⟨b,off,rfl,hc⟩:=(HI.ext HX).at hpm;have⟨pk,Z⟩:=e9 (IQ k 5);have HS:=I (λw'=>Dn k j0 w');have HF:=I (show Er (jV l) (k+1)=Er (jV l) k++[l[pk]?.getD 0]by rw[jz,Z];rfl);simp only[<-Z]at HS;rw[<-Z]at hc hpm;have⟨y,hy⟩:=e9 (l[pk]?.getD 0);rw[<-hy]at hc HF;have Lz:=I (iY (jV l) k);have hpi:=Rd pk m;have LV:=ST pk;have HD:b9 (l[pk]?.getD 0=y):=hy.symm;have S7:=I (λ(w':J) (hx:C7 w w')=>(show w'.cell? (O b (off+pk))=some (U y)by
   have⟨b',off',he,hc'⟩:=(HI.ext hx).at hpm;obtain⟨rfl,rfl⟩:=aM he;clear he;rw[hc',HD.o]))
  have o7:=C7.drew wr;refine Op (HO.ext o7) (Hv o7 HG) (Hv o7 HR) (HX.trans o7) λQM E HRd Ug=>?_;clear Z hy hc c0;go_wp2_with fail;refine cD (M:=[10]) (S:=λw'=>w'.cell? (O (w+1) 1)=some (GI a1 n1 c1)/\w'.cell? (O b (off+pk))=some (U y)) j8 ?_;have o9:=hJ (aH E) (S7 _ Ug);have⟨wd,H⟩:=e9 wr.drew;have hzd:w.heap.size+2<=wd.heap.size:=by rw[H];exact hz
  rw[<-H]at o9 QM E HRd Ug;rw[<-H];clear H o7;refine oj ⟨?_⟩;refine Gp 4 λK hK=>?_;go_simp;go_at_call 100;refine(HS _).mono ?_;rintro e w8 ⟨rfl,rfl⟩;go_wp2_with fail;refine KL (hJ (aH E) (S7 _ Ug)) λo9=>?_
  refine lp 5 ?_;refine ll 6 ?_;refine Gp 7 λK hK=>?_;go_simp;refine hK.out _ _ (λ_=>hJ (aH (Hv WU E)) (S7 _ (Ug.trans WU))) ?_;clear hK K
  try simp only[Act.put,sA,sB,sC]
  refine Gp 8 λK hK=>?_;refine aO _ _ j9 (w+2) (GI a1 n1 c1) _ j9 (QM.ext WU) _ 1 _ [y] j9 (d9.oneE _ _ _ _ j7) (by rw[Lz.o];omega) m9 ?_;intro v9 w9 ho Gt r7;obtain⟨a9,n9,c9,rfl,N'⟩:=ho.var;refine Op ho ((Gt.block (w+1) (In (Hv WU E)) (λe=>by have:=(QM.lt _ e.symm).1;omega)).trans (Hv WU E)) ((Gt.block w (In (Hv WU HRd)) (λe=>by have:=(QM.lt _ e.symm).1;omega)).trans (Hv WU HRd)) (aj (Ug.trans WU) Gt (λj hj=>by have:=(QM.lt j hj).1;omega)) λGl Rn Zb IZ=>?_;have hz9:=Gt.size;rw[O6]at hz9;have SM:=mo w9 (w+1) 1 _ _ Rn.o;have c19:=aH Rn.o;clear ho Gt r7;refine KL (hJ c19 (S7 _ IZ)) λo9=>?_;refine lp 9 ?_;refine OJ 10 ?_;refine cQ j8 ?_ _;have⟨wz,RF⟩:=e9 (w9.setCell (O (w+1) 1) (GI a9 n9 c9));have HG10:=I (show wz.heap[w.heap.size+1]?=some (QD #[U n,GI a9 n9 c9] 31 (0,0))by rw[RF];exact cE w9 _ 1 _ _ _ Rn);have abh:=I (show wz.heap[w.heap.size]?=some (QD #[U 0,d6] 31 (0,0))by rw[RF];exact(GE _ _ _ _ K5).trans Zb)
  have H5:=I (show r' wz (w+2) (GI a9 n9 c9) (Er (jV l) (k+1))by
   rw[RF,HF.o];exact Gl.keep λj hj=>GE _ _ _ _ (by have:=(Gl.lt j hj).1;show j≠w.heap.size+1;omega))
  have PR:=I (show C7 w wz by rw[RF];exact IZ.setCell (p:=(O (w+1) 1)) (b7 _) _);have hz10:w.heap.size+2<=wz.heap.size:=by rw[RF];simp;omega
  rw[<-RF];clear RF SM c19 o9;go_wp2_with fail;refine kf ?_;exact⟨k+1,_,_,_,I (k8 HK.o),by go_num,HG10,abh,H5,PR,I hz10⟩
 have SD:N=k:=k8 HK.o;subst SD;have r0:=bI HR.o;have r1:=aH HR.o;have rf:=λj=>mo wr w j _ _ HR.o
 have⟨wz,RF⟩:=e9 ((wr.setCell (O w 0) (U n)).setCell (O w 1) (GI a1 n1 c1));have H5:=I (show r' wz (w+2) (GI a1 n1 c1) (Er (jV l) N)by
  rw[RF];exact HO.keep λj hj=>(GE _ _ _ _ PU).trans (GE _ _ _ _ PU))
 have PR:=I (show C7 w wz by rw[RF];exact(HX.setCell (p:=(O w 0)) (i8 _) _).setCell (p:=(O w 1)) (i8 _) _);have abh:=I (show wz.heap[w.heap.size]?=some (QD #[U n,GI a1 n1 c1] 31 (0,0))by rw[RF];exact cE _ _ 1 _ _ _ (cE wr _ 0 _ _ _ HR));have z0:=bI abh.o;have z1:=aH abh.o;rw[RF]at z0 z1;go_wp2_with fail;rw[RF]at H5 PR;refine Fn (v:=.agg #[U n,GI a1 n1 c1]) (by simp[results,results89,go_sem,z0,z1]) rfl ⟨⟨_,rfl,H5.mono j0⟩,PR⟩
def MS(s:Nat):Int:=if 2<=IQ s 5 then 6 else 0
def PM(s:Nat):Int:=10*(IQ s 5:Int)*(IQ s 5:Int)
def yL:NE prog 158:=cR func158 j8 j8
def yM:NE prog 163:=cR func163 j8 j8
def Nv(h:σ:=by
 rintro e w' ⟨rfl,rfl⟩;go_wp2;go_ret;exact⟨au HF.symm,WF⟩
 ):σ:=h
def AS(s:Nat)(hs:s<32)(w:J):f8 158 #[U s] w (U (MS s)):=by
 have K:=I (uj s j0 w);have⟨p,E⟩:=e9 (IQ s 5);rw[<-E]at K;by_cases H:2<=p
 ·have HF:=I (show MS s=6 by unfold MS;rw[<-E,f9 H]);have hi:(2:Int)<=(p:Int):=by omega
  clear E H;unfold f8;go_in
  go_wp2_with fail;refine K.mono ?_;exact Nv
 have HF:=I (show MS s=0 by unfold MS;rw[<-E,f7 H]);have hi:¬(2:Int)<=(p:Int):=j0;clear E H;unfold f8;go_in
 go_wp2_with fail;refine K.mono ?_;exact Nv
def AT(s:Nat)(hs:s<32)(w:J):f8 163 #[U s] w (U (PM s)):=by
 have H:=I (λw=>uj s j0 w);have E:=tC s 5;have HF:b9 (PM s=10*(IQ s 5:Int)*(IQ s 5:Int)):=I (rfl);generalize IQ s 5=p at H HF E;have hb:10*(p:Int)*(p:Int)<=250:=by
  have:p*p<=5*5:=EE E E;have h2:((p*p:Nat):Int)<=25:=j0;rw[Int.mul_assoc,<-UP];omega
 have G5:0<=10*(p:Int)*(p:Int):=by
  rw[Int.mul_assoc,<-UP];omega
 have Hn:=dk (10*(p:Int));have hw2:=dk (10*(p:Int)*(p:Int));unfold f8;go_in
 go_wp2_with fail;refine cP (H _) ?_;go_wp2_with fail;refine(H _).mono ?_;exact Nv
def Gq(k:Int):Nat:=if k=1 then 3 else if k=2 then NX 2 2 [[5,8],[3,5]] else if k=3 then jG 200 [100,100,100] else if k=4 then kd 4 [3,2,1,1] else if k=5 then 4 else 0
def Ge(k:Int):o3:=if k=1 then Er MS (cN 3) else if k=2 then MV 2 2 [[5,8],[3,5]] else if k=3 then iz 200 [100,100,100] else if k=4 then iP 4 [3,2,1,1] else if k=5 then Er PM (cN 4) else []
def Xo:Er (jV [0,0,6,6]) (cN 3)=Er MS (cN 3):=by decide
def Xn:Er (jV [0,10,40,90,160]) (cN 4)=Er PM (cN 4):=by decide
def Xm:∀k:Int,∀x∈Ge k,0<=x/\x<=1000000:=by
 have Z:∀x∈Er MS (cN 3),0<=x/\x<=1000000:=by decide
 have Q:∀x∈MV 2 2 [[5,8],[3,5]],0<=x/\x<=1000000:=by decide
 have K:∀x∈iz 200 [100,100,100],0<=x/\x<=1000000:=λx hx=>by
  have h:(iz 200 [100,100,100]).all (λx=>decide (0<=x/\x<=1000000))=true:=by kernel_rfl
  simpa using gy.1 h x hx
 have H:∀x∈iP 4 [3,2,1,1],0<=x/\x<=1000000:=λx hx=>by
  have h:(iP 4 [3,2,1,1]).all (λx=>decide (0<=x/\x<=1000000))=true:=by kernel_rfl
  simpa using gy.1 h x hx
 have E:∀x∈Er PM (cN 4),0<=x/\x<=1000000:=by decide
 intro k;unfold Ge;split
 ·exact Z
 split
 ·exact Q
 split
 ·exact K
 split
 ·exact H
 split
 ·exact E
 intro x hx;cases hx
def A2(k:Int)(j:Nat):-1000000<=(Ge k)[j]?.getD 0/\(Ge k)[j]?.getD 0<=1000000:=by
 by_cases E:j<JL (Ge k)
 ·rw[Id E,Nm];have:=Xm k _ (eN E);omega
 rw[q8 j0];decide
