import Derived.Test.YtalmoolkhcgmmaaGreatNqAltG26
import Derived.Test.YtalmoolkhcgmmaaGreatNqAltG24
import Derived.Test.YtalmoolkhcgmmaaGreatNqAltG20
set_option linter.unusedVariables false
set_option linter.unusedSimpArgs false
namespace Go.Proofs.YtalmoolkhcgmmaaGreat
variable{n:Nat}{w:World}{a:j8}
set_option maxHeartbeats 16000000
set_option maxRecDepth 100000
open Go.RowKit
section
variable{w:World}{a:j8}{na ca:Nat}{b:j8}{nb cb:Nat}{c:j8}{nc cc:Nat}{A:j7}{B:j9}{C:j6}
 {xa:j8} {xn xc:Nat} {ya:j8} {yn yc:Nat} {ra:j8} {rn rc:Nat} {r:AT}
def Jr(A:j7)(B:j9)(C:j6)(r:AT):Bool:=dp A B C.length r.X&&(decide (r.Y.length=B.length)&&((List.range C.length).all (bj A r.Y C)&&gR B C r))
theorem sz(h:Cz w a na ca b nb cb c nc cc A B C)(h':Jb w xa xn xc ya yn yc ra rn rc r)(ok:xF A B C=true):
 Calls Tryz.prog 132 #[C8 a na ca b nb cb c nc cc,A6 r xa xn xc ya yn yc ra rn rc] w fun e w'=>e=.returned (.bool (Jr A B C r))/\Ext w w':=by
 obtain⟨r1,r2,r3,r4,r5,r6⟩:=cI h ok;subst r3;have T0:=ae (show Two w ((w.alloc (bE a nb ca b nb cb c nc cc)).alloc (ce r xa xn xc ya yn yc ra rn rc)) a nb ca b nb cb c nc cc xa xn xc ya yn yc ra rn rc r A B C from⟨Ext.refl _,(h.ext (Ext.alloc _ _)).ext (Ext.alloc _ _),(h'.ext (Ext.alloc _ _)).ext (Ext.alloc _ _)⟩);have xM:=h'.y.o3;have D1:=h'.y.l9;have yq:=h.c.o3;have AZ:=h.c.l9;have zN:=h.b.o3;have zx:=h.b.l9;have z7:=ae ok;have N2:=ae (fs r6);obtain⟨st,U,R,rr,rv,rp⟩:=r;obtain⟨v1,v2⟩:=rv;have Jh:=ae h'.y.hlen;obtain⟨fv,JE⟩:=b8 (dp A B C.length U)
 have HE:=ae (show Jr A B C ⟨st,U,R,rr,(v1,v2),rp⟩=(fv&&(decide (yn=nb)&&((List.range C.length).all (bj A R C)&&gR B C ⟨st,U,R,rr,(v1,v2),rp⟩)))by
  unfold Jr;rw[JE,h.b.hlen];simp only;rw[show R.length=yn from h'.y.hlen])
 have HF:=ae (fun(W:World) (t:Two w W a nb ca b nb cb c nc cc xa xn xc ya yn yc ra rn rc ⟨st,U,R,rr,(v1,v2),rp⟩ A B C)=>kv t.lp z7.o t.lr.x);simp only[<-JE]at HF;obtain⟨dv,Bk⟩:=b8 ((List.range C.length).all (bj A R C));have HD:=ae (fun(W:World) (t:Two w W a nb ca b nb cb c nc cc xa xn xc ya yn yc ra rn rc ⟨st,U,R,rr,(v1,v2),rp⟩ A B C)=>rz t.lp z7.o t.lr.y t.lp.c (Nat.le_refl _));simp only[<-Bk]at HD;rw[<-Bk]at HE;clear h h' ok r4 r5 r6 JE Bk;obtain⟨V,hV⟩:=b8 (Jr A B C ⟨st,U,R,rr,(v1,v2),rp⟩);rw[<-hV];have Z:=ae (hV.trans HE.o);clear hV HE;cases fv
 ·have HZ:=ae (show false=V by rw[Z.o];rfl);go_enter Tryz.func132,Tryz.ntmps132
  obtain⟨p0,p1,p2⟩:=T0.o.p;obtain⟨q0,O,K,J,I,G⟩:=T0.o.q;go_wp2_with fail;refine(HF.o _ T0.o).mono ?_;rintro e w1 ⟨rfl,hx⟩;have T1:=ae (T0.o.grow hx);clear hx p0 p1 p2 q0 O K J I G;go_wp2_with fail;go_ret;exact⟨ag HZ.o,T1.o.all⟩
 ·by_cases Dn:yn=nb
  ·subst Dn;have hne:((yn:Int) != (yn:Int))=false:=by simp
   cases dv
   ·have HZ:=ae (show false=V by rw[Z.o];simp);go_enter Tryz.func132,Tryz.ntmps132
    obtain⟨p0,p1,p2⟩:=T0.o.p;obtain⟨q0,O,K,J,I,G⟩:=T0.o.q;go_wp2_with fail;refine(HF.o _ T0.o).mono ?_;rintro e w1 ⟨rfl,hx⟩;have T1:=ae (T0.o.grow hx);clear hx p0 p1 p2 q0 O K J I G;obtain⟨p0,p1,p2⟩:=T1.o.p;obtain⟨q0,O,K,J,I,G⟩:=T1.o.q;go_wp2_with fail;refine(HD.o _ T1.o).mono ?_;rintro e w2 ⟨rfl,hx⟩;have T2:=ae (T1.o.grow hx);clear hx p0 p1 p2 q0 O K J I G;go_wp2_with fail;go_ret;exact⟨ag HZ.o,T2.o.all⟩
   ·obtain⟨dx,F6⟩:=b8 (wY C U);obtain⟨dy,Ib⟩:=b8 (wY (aw B) R)
    have HM:=ae (show V=jG dx dy (v1,v2)by
     rw[Z.o,F6,Ib];simp only[Bool.true_and,decide_true];rw[qS];simp only;rw[iS R])
    have Hg:=ae (fun(W:World) (t:Two w W a yn ca b yn cb c nc cc xa xn xc ya yn yc ra rn rc ⟨st,U,R,rr,(v1,v2),rp⟩ A B C)=>lW t.lp.c t.lr.x);have N4:=ae (fun(W:World) (t:Two w W a yn ca b yn cb c nc cc xa xn xc ya yn yc ra rn rc ⟨st,U,R,rr,(v1,v2),rp⟩ A B C)=>kQ t.lp.b N2.o b9 t.lr.y);simp only[<-F6]at Hg;simp only[<-Ib]at N4;clear F6 Ib;obtain⟨x1,x2,N',IM⟩:∃x1 x2 N',xN dx=((x1,x2),N'):=⟨_,_,_,rfl⟩;obtain⟨y1,u,Fx,FA⟩:∃y1 u Fx,xN dy=((y1,u),Fx):=⟨_,_,_,rfl⟩;have B9:=ae IM;have F9:=ae FA;simp only[IM]at Hg;simp only[FA]at N4;clear IM FA;go_enter Tryz.func132,Tryz.ntmps132
    obtain⟨p0,p1,p2⟩:=T0.o.p;obtain⟨q0,O,K,J,I,G⟩:=T0.o.q;go_wp2_with fail;refine(HF.o _ T0.o).mono ?_;rintro e w1 ⟨rfl,hx⟩;have T1:=ae (T0.o.grow hx);clear hx p0 p1 p2 q0 O K J I G;obtain⟨p0,p1,p2⟩:=T1.o.p;obtain⟨q0,O,K,J,I,G⟩:=T1.o.q;go_wp2_with fail;refine(HD.o _ T1.o).mono ?_;rintro e w2 ⟨rfl,hx⟩;have T2:=ae (T1.o.grow hx);clear hx p0 p1 p2 q0 O K J I G;obtain⟨p0,p1,p2⟩:=T2.o.p;obtain⟨q0,O,K,J,I,G⟩:=T2.o.q;go_wp2_with fail;refine(Hg.o _ T2.o).mono ?_;rintro e w3 ⟨rfl,hx⟩;obtain⟨E,hE⟩:=b8 (w3.alloc (.cells #[.int .i64 x1,.int .i64 x2] 46));obtain⟨gx,hgx⟩:=b8 w3.heap.size;have zw:Ext w3 E:=by rw[hE];exact Ext.alloc _ _
    have TE:=ae ((T2.o.grow hx).grow zw);have Bh:=ae (show aj w3 E gx x1 x2 by rw[hE,hgx];exact aj.new (Ext.refl _) _ _);go_upto_region 4 with fail;rw[<-hE,<-hgx];clear hE zw hx hgx p0 p1 p2 q0 O K J I G;obtain⟨p0,p1,p2⟩:=TE.o.p;obtain⟨q0,O,K,J,I,G⟩:=TE.o.q;go_wp2_with fail;refine(N4.o _ TE.o).mono ?_;rintro e w4 ⟨rfl,hx⟩;obtain⟨F,hF⟩:=b8 (w4.alloc (.cells #[.int .i64 y1,.int .i64 u] 46));obtain⟨gy,hgy⟩:=b8 w4.heap.size;have hxF:Ext w4 F:=by rw[hF];exact Ext.alloc _ _
    have TW:=ae ((TE.o.grow hx).grow hxF);have zV:=ae (Bh.o.grow (hx.trans hxF));have xT:=ae (show aj w4 F gy y1 u by rw[hF,hgy];exact aj.new (Ext.refl _) _ _);go_upto_region 5 with fail;rw[<-hF,<-hgy];clear hF hxF hx hgy p0 p1 p2 q0 O K J I G;obtain⟨p0,p1,p2⟩:=TW.o.p;obtain⟨q0,O,K,J,I,G⟩:=TW.o.q;have c0:=zV.o.c0;have c1:=zV.o.c1;have g0:=xT.o.c0;have g1':=xT.o.c1;cases dx with
    | none =>
      have CM:N'=false:=by have:=B9.o;simp only[xN]at this;simpa using (congrArg Prod.snd this).symm
      subst CM;go_wp2_with fail;go_ret;exact⟨ag (by rw[HM.o,(jH _ _).1]),TW.o.all⟩
    | some xv =>
      have CM:N'=true:=by have:=B9.o;simp only[xN]at this;simpa using (congrArg Prod.snd this).symm
      have De:xv=(x1,x2):=by have:=B9.o;simp only[xN]at this;simpa using congrArg Prod.fst this
      subst CM De;cases dy with
      | none =>
        have CM:Fx=false:=by have:=F9.o;simp only[xN]at this;simpa using (congrArg Prod.snd this).symm
        subst CM;go_wp2_with fail;go_ret;exact⟨ag (by rw[HM.o,(jH _ _).2]),TW.o.all⟩
      | some yv =>
        have CM:Fx=true:=by have:=F9.o;simp only[xN]at this;simpa using (congrArg Prod.snd this).symm
        have De:yv=(y1,u):=by have:=F9.o;simp only[xN]at this;simpa using congrArg Prod.fst this
        subst CM De;have ID:=ae (show V=(((x1 == y1)&&(x2 == u))&&((x1 == v1)&&(x2 == v2)))by rw[HM.o,mS]);cases h1:(x1 == y1)
        all_goals
         cases h2:(x2 == u)
        all_goals
         have Ca:=ae ID.o;rw[h1,h2]at Ca
        all_goals try(
         have HF:=ae (show V=false by rw[Ca.o];rfl);go_wp2_with fail;go_ret
         exact⟨ag HF.o.symm,TW.o.all⟩)
        cases h3:(x1 == v1)
        all_goals
         cases h4:(x2 == v2)
        all_goals
         rw[h3,h4]at Ca;go_wp2_with fail;go_ret;exact⟨ag (by rw[Ca.o];rfl),TW.o.all⟩
  ·have hne:((yn:Int) != (nb:Int))=true:=by simp;omega
   have HZ:=ae (show false=V by rw[Z.o,decide_eq_false Dn];rfl);go_enter Tryz.func132,Tryz.ntmps132
   obtain⟨p0,p1,p2⟩:=T0.o.p;obtain⟨q0,O,K,J,I,G⟩:=T0.o.q;go_wp2_with fail;refine(HF.o _ T0.o).mono ?_;rintro e w1 ⟨rfl,hx⟩;have T1:=ae (T0.o.grow hx);clear hx p0 p1 p2 q0 O K J I G;obtain⟨p0,p1,p2⟩:=T1.o.p;obtain⟨q0,O,K,J,I,G⟩:=T1.o.q;go_wp2_with fail;go_ret;exact⟨ag HZ.o,T1.o.all⟩
end
theorem uO{v:k5}(hv:o5 v=true):decide (0<=wU (0,1) v)=decide (v.1<=0):=by
 have hb:=aQ hv;unfold wU;rw[if_pos (by rw[hv];decide)];simp only;by_cases h:v.1<=0
 ·rw[if_neg b9,decide_eq_true h]
  split<;>rfl
 ·rw[if_pos b9,decide_eq_false h];rfl
theorem rU(A:j7)(Y:j6){D:j6}(G:∀j,j<n->D[j]?.getD (0,0)=(0,1)):(List.range n).all (bj A Y D)=(List.range n).all (Pj A Y):=by
 rw[Bool.eq_iff_iff,List.all_eq_true,List.all_eq_true];have key:∀j,j<n->bj A Y D j=Pj A Y j:=by
  intro j hj;unfold bj Pj noO;rw[G j hj];cases hd:wY Y (aw (xD A j))with
  | none=>rfl
  | some v=>exact uO (dK hd).2.1
 constructor
 ·intro h j hj;rw[<-key j (List.mem_range.1 hj)];exact h j hj
 ·intro h j hj;rw[key j (List.mem_range.1 hj)];exact h j hj
theorem rh{j:Nat}(h:j<n):(List.replicate n ((0:Int),(1:Int)))[j]?.getD (0,0)=(0,1):=by rw[List.getElem?_replicate,if_pos h];rfl
section
variable{w:World}{a:j8}{na ca:Nat}{b:j8}{nb cb:Nat}{c:j8}{nc cc:Nat}{A:j7}{B:j9}{C:j6}
 {xa:j8} {xn xc:Nat} {ya:j8} {yn yc:Nat} {ra:j8} {rn rc:Nat} {r:AT}
theorem uu(h:Cz w a na ca b nb cb c nc cc A B C)(h':Jb w xa xn xc ya yn yc ra rn rc r)(ok:xF A B C=true)(hs:r.status=1):
 Calls Tryz.prog 83 #[C8 a na ca b nb cb c nc cc,A6 r xa xn xc ya yn yc ra rn rc] w fun e w'=>e=.returned (.bool (aD bj A B C r))/\Ext w w':=by
 obtain⟨r1,r2,r3,r4,r5,r6⟩:=cI h ok;subst r3;have T0:=ae (show Two w ((w.alloc (bE a nb ca b nb cb c nc cc)).alloc (ce r xa xn xc ya yn yc ra rn rc)) a nb ca b nb cb c nc cc xa xn xc ya yn yc ra rn rc r A B C from⟨Ext.refl _,(h.ext (Ext.alloc _ _)).ext (Ext.alloc _ _),(h'.ext (Ext.alloc _ _)).ext (Ext.alloc _ _)⟩);have xM:=h'.y.o3;have D1:=h'.y.l9;have yC:=h'.A5.o3;have AX:=h'.A5.l9;have yq:=h.c.o3;have AZ:=h.c.l9;have zN:=h.b.o3;have zx:=h.b.l9;have z7:=ae ok;have N2:=ae (fs r6);have Gc:=ae r5;obtain⟨st,K,J,I,rv,G⟩:=r;obtain⟨v1,v2⟩:=rv;simp only at hs;subst hs;have Jh:=ae h'.y.hlen;have y4:=ae h.b.hlen;have z8:=ae h.c.hlen;have zy:=ae h'.A5.hlen;have HV:=ae (eg T0.o.lp);rw[ok]at HV;obtain⟨V,hV⟩:=b8 (aD bj A B C ⟨1,K,J,I,(v1,v2),G⟩);rw[<-hV];have Dw:=ae (show V=Jr A B C ⟨1,K,J,I,(v1,v2),G⟩by rw[hV];unfold aD Jr;rw[if_pos rfl]);have NT:=ae (fun(W:World) (t:Two w W a nb ca b nb cb c nc cc xa xn xc ya yn yc ra rn rc ⟨1,K,J,I,(v1,v2),G⟩ A B C)=>sz t.lp t.lr z7.o);simp only[<-Dw.o]at NT;clear h h' ok r4 r5 r6;clear hV;go_enter Tryz.func83,Tryz.ntmps83
 obtain⟨p0,p1,p2⟩:=T0.o.p;obtain⟨q0,u,Z,U,R,O⟩:=T0.o.q;go_wp2_with fail;refine HV.o.mono ?_;rintro e w1 ⟨rfl,hx⟩;have T1:=ae (T0.o.grow hx);clear hx p0 p1 p2 q0 u Z U R O;obtain⟨p0,p1,p2⟩:=T1.o.p;obtain⟨q0,u,Z,U,R,O⟩:=T1.o.q;have T1F:=ae (T1.o.ext.k6 (v:=.int .i64 G) (a:=⟨w.heap.size+1,6,none⟩) e7);have q6:=T1F.o;go_wp2_with fail;refine(NT.o _ T1.o).mono ?_;rintro e w2 ⟨rfl,hx⟩;have T2:=ae (T1.o.grow hx);clear hx p0 p1 p2 q0 u Z U R O q6;go_wp2_with fail;go_ret;exact⟨rfl,T2.o.all⟩
theorem uv(h:Cz w a na ca b nb cb c nc cc A B C)(h':Jb w xa xn xc ya yn yc ra rn rc r)(ok:xF A B C=true)(hs:r.status=2):
 Calls Tryz.prog 83 #[C8 a na ca b nb cb c nc cc,A6 r xa xn xc ya yn yc ra rn rc] w fun e w'=>e=.returned (.bool (aD bj A B C r))/\Ext w w':=by
 obtain⟨r1,r2,r3,r4,r5,r6⟩:=cI h ok;subst r3;have T0:=ae (show Two w ((w.alloc (bE a nb ca b nb cb c nc cc)).alloc (ce r xa xn xc ya yn yc ra rn rc)) a nb ca b nb cb c nc cc xa xn xc ya yn yc ra rn rc r A B C from⟨Ext.refl _,(h.ext (Ext.alloc _ _)).ext (Ext.alloc _ _),(h'.ext (Ext.alloc _ _)).ext (Ext.alloc _ _)⟩);have xM:=h'.y.o3;have D1:=h'.y.l9;have yC:=h'.A5.o3;have AX:=h'.A5.l9;have yq:=h.c.o3;have AZ:=h.c.l9;have zN:=h.b.o3;have zx:=h.b.l9;have z7:=ae ok;have N2:=ae (fs r6);have Gc:=ae r5;obtain⟨st,rX,U,rr,rv,rp⟩:=r;obtain⟨v1,v2⟩:=rv;simp only at hs;subst hs;have Jh:=ae h'.y.hlen;have y4:=ae h.b.hlen;have z8:=ae h.c.hlen;have zy:=ae h'.A5.hlen;have HV:=ae (eg T0.o.lp);rw[ok]at HV;obtain⟨V,hV⟩:=b8 (aD bj A B C ⟨2,rX,U,rr,(v1,v2),rp⟩);rw[<-hV];obtain⟨dv,Bk⟩:=b8 ((List.range C.length).all (bj A U (List.replicate nc (0,1))));obtain⟨dy,Ib⟩:=b8 (wY (aw B) U)
 have Dw:=ae (show V=(decide (yn=nb)&&(dv&&Lr dy))by
  rw[hV,Bk,Ib];unfold aD;rw[if_neg e7,if_pos rfl];simp only;rw[mY,y4.o,show U.length=yn from Jh.o,iS U,rU A U (fun j hj=>rh (by rw[<-z8.o];exact hj))])
 have Se:=ae (fun(W:World) (t:Two w W a nb ca b nb cb c nc cc xa xn xc ya yn yc ra rn rc ⟨2,rX,U,rr,(v1,v2),rp⟩ A B C) (za:j8) (zn zc:Nat) (hz:r8 W za zn zc (List.replicate nc (0,1))) (Js:nc<=zn)=>rz t.lp z7.o t.lr.y hz Js);have N4:=ae (fun(W:World) (t:Two w W a nb ca b nb cb c nc cc xa xn xc ya yn yc ra rn rc ⟨2,rX,U,rr,(v1,v2),rp⟩ A B C)=>kQ t.lp.b N2.o b9 t.lr.y);simp only[<-Bk]at Se;simp only[<-Ib]at N4;obtain⟨G,J,Fx,FA⟩:∃G J Fx,xN dy=((G,J),Fx):=⟨_,_,_,rfl⟩;simp only[FA]at N4
 have F9:=ae (show Lr dy=(Fx&&decide (0<G))by
  cases dy with
  | none=>simp only[xN]at FA;cases FA;rfl
  | some v=>obtain⟨z1,z2⟩:=v;simp only[xN,Option.getD_some,Option.isSome_some,Prod.mk.injEq]at FA;obtain⟨⟨rfl,rfl⟩,rfl⟩:=FA;rfl)
 clear h h' ok r4 r5 r6;clear hV Bk Ib FA;have JL:((2:Int) == 1)=false:=by decide
 go_enter Tryz.func83,Tryz.ntmps83
 obtain⟨p0,p1,p2⟩:=T0.o.p;obtain⟨q0,q1,q2,q3,q4,q5⟩:=T0.o.q;go_wp2_with fail;refine HV.o.mono ?_;rintro e w1 ⟨rfl,hx⟩;have T1:=ae (T0.o.grow hx);clear hx p0 p1 p2 q0 q1 q2 q3 q4 q5;obtain⟨p0,p1,p2⟩:=T1.o.p;obtain⟨q0,q1,q2,q3,q4,q5⟩:=T1.o.q;go_wp2_with fail;refine(N4.o _ T1.o).mono ?_;rintro e w2 ⟨rfl,hx⟩;obtain⟨E,hE⟩:=b8 (w2.alloc (.cells #[.int .i64 G,.int .i64 J] 46));obtain⟨I,Z⟩:=b8 w2.heap.size;have zw:Ext w2 E:=by rw[hE];exact Ext.alloc _ _
 have TE:=ae ((T1.o.grow hx).grow zw);have Bh:=ae (show aj w2 E I G J by rw[hE,Z];exact aj.new (Ext.refl _) _ _);go_upto_region 8 with fail;rw[<-hE,<-Z];clear hE zw hx Z p0 p1 p2 q0 q1 q2 q3 q4 q5;obtain⟨p0,p1,p2⟩:=TE.o.p;obtain⟨q0,q1,q2,q3,q4,q5⟩:=TE.o.q;have b0:=Bh.o.c0;have b1:=Bh.o.c1;have k7:Ext E E.drew:=Ext.drew E;have k8:=ae (fun(w':World) (h:Ext E w')=>(⟨h.k6 p0,h.k6 p1,h.k6 p2,h.k6 q2,h.k6 b0,h.k6 b1,h⟩:w'.cell? ⟨w.heap.size,0,none⟩=some (.slice a nb ca)/\w'.cell? ⟨w.heap.size,1,none⟩=some (.slice b nb cb)/\w'.cell? ⟨w.heap.size,2,none⟩=some (.slice c nc cc)/\w'.cell? ⟨w.heap.size+1,2,none⟩=some (.slice ya yn yc)/\w'.cell? ⟨I,0,none⟩=some (.int .i64 G)/\w'.cell? ⟨I,1,none⟩=some (.int .i64 J)/\Ext E w'));by_cases Dn:yn=nb
 ·have hne:((yn:Int) == (nb:Int))=true:=by simp;omega
  have Uc:=ae Dn;clear Dn;cases dv
  ·have HZ:=ae (show false=V by rw[Dw.o];simp);refine wp_region_held_drew (S:=(fun w'=>w'.cell? ⟨w.heap.size,0,none⟩=some (.slice a nb ca)/\w'.cell? ⟨w.heap.size,1,none⟩=some (.slice b nb cb)/\w'.cell? ⟨w.heap.size,2,none⟩=some (.slice c nc cc)/\w'.cell? ⟨w.heap.size+1,2,none⟩=some (.slice ya yn yc)/\w'.cell? ⟨I,0,none⟩=some (.int .i64 G)/\w'.cell? ⟨I,1,none⟩=some (.int .i64 J)/\Ext E w')) e8 ?_ (fun O=>?_)
   ·exact k8.o _ k7
   refine tk 0 ?_;refine tk 1 ?_;refine tk 2 ?_;refine tk 3 ?_;refine tk 4 ?_;refine tk 5 ?_;refine tk 6 ?_;refine tk 7 ?_;refine tk 8 ?_;refine tk 9 ?_;refine tk 10 ?_;refine tk 11 ?_;refine tk 12 ?_;refine tk 13 ?_;refine rd (i:=14) (h:=fun K hK=>?_);go_simp
   (go_at_call 119;refine(jg nc b9).mono ?_;rintro e w3 ⟨⟨v3,rfl,R⟩,wS⟩;have k7:=k7.trans wS;obtain⟨a3,n3,c3,rfl,G0⟩:=R.var;have EF:nc<=n3:=by(have h1:=G0.out;rw[List.length_replicate]at h1;omega))
   go_wp2_with fail;refine hK.out _ _ ?_ (fun O=>?_)
   ·exact k8.o _ k7
   clear hK K
   try simp only[Act.put,sA,sB,sC]
   refine rd (i:=15) (h:=fun K hK=>?_);go_simp
   (go_at_call 134;refine(Se.o _ (TE.o.grow k7) _ _ _ R.wK EF).mono ?_;rintro e w4 ⟨rfl,u⟩;have k7:=k7.trans u)
   go_wp2_with fail;refine hK.out _ _ ?_ (fun O=>?_)
   ·exact k8.o _ k7
   clear hK K
   try simp only[Act.put,sA,sB,sC]
   refine tk 16 ?_;refine tk 17 ?_;refine sk 18 ?_;refine tk 19 ?_;refine tk 20 ?_;refine sk 21 ?_;refine sk 22 ?_;refine sk 23 ?_;refine tk 24 ?_;refine tk 25 ?_;refine wpAnyH_done e8 ?_ _;go_wp2_with fail;go_ret;exact⟨ag HZ.o,(TE.o.grow k7).all⟩
  ·cases Fx
   ·have HZ:=ae (show false=V by rw[Dw.o,F9.o,decide_eq_true Uc.o];simp);refine wp_region_held_drew (S:=(fun w'=>w'.cell? ⟨w.heap.size,0,none⟩=some (.slice a nb ca)/\w'.cell? ⟨w.heap.size,1,none⟩=some (.slice b nb cb)/\w'.cell? ⟨w.heap.size,2,none⟩=some (.slice c nc cc)/\w'.cell? ⟨w.heap.size+1,2,none⟩=some (.slice ya yn yc)/\w'.cell? ⟨I,0,none⟩=some (.int .i64 G)/\w'.cell? ⟨I,1,none⟩=some (.int .i64 J)/\Ext E w')) e8 ?_ (fun O=>?_)
    ·exact k8.o _ k7
    refine tk 0 ?_;refine tk 1 ?_;refine tk 2 ?_;refine tk 3 ?_;refine tk 4 ?_;refine tk 5 ?_;refine tk 6 ?_;refine tk 7 ?_;refine tk 8 ?_;refine tk 9 ?_;refine tk 10 ?_;refine tk 11 ?_;refine tk 12 ?_;refine tk 13 ?_;refine rd (i:=14) (h:=fun K hK=>?_);go_simp
    (go_at_call 119;refine(jg nc b9).mono ?_;rintro e w3 ⟨⟨v3,rfl,R⟩,wS⟩;have k7:=k7.trans wS;obtain⟨a3,n3,c3,rfl,G0⟩:=R.var;have EF:nc<=n3:=by(have h1:=G0.out;rw[List.length_replicate]at h1;omega))
    go_wp2_with fail;refine hK.out _ _ ?_ (fun O=>?_)
    ·exact k8.o _ k7
    clear hK K
    try simp only[Act.put,sA,sB,sC]
    refine rd (i:=15) (h:=fun K hK=>?_);go_simp
    (go_at_call 134;refine(Se.o _ (TE.o.grow k7) _ _ _ R.wK EF).mono ?_;rintro e w4 ⟨rfl,u⟩;have k7:=k7.trans u)
    go_wp2_with fail;refine hK.out _ _ ?_ (fun O=>?_)
    ·exact k8.o _ k7
    clear hK K
    try simp only[Act.put,sA,sB,sC]
    refine tk 16 ?_;refine tk 17 ?_;refine tk 18 ?_;refine tk 19 ?_;refine tk 20 ?_;refine sk 21 ?_;refine sk 22 ?_;refine sk 23 ?_;refine tk 24 ?_;refine tk 25 ?_;refine wpAnyH_done e8 ?_ _;go_wp2_with fail;go_ret;exact⟨ag HZ.o,(TE.o.grow k7).all⟩
   ·have HZ:=ae (show decide (0<G)=V by rw[Dw.o,F9.o,decide_eq_true Uc.o];simp);refine wp_region_held_drew (S:=(fun w'=>w'.cell? ⟨w.heap.size,0,none⟩=some (.slice a nb ca)/\w'.cell? ⟨w.heap.size,1,none⟩=some (.slice b nb cb)/\w'.cell? ⟨w.heap.size,2,none⟩=some (.slice c nc cc)/\w'.cell? ⟨w.heap.size+1,2,none⟩=some (.slice ya yn yc)/\w'.cell? ⟨I,0,none⟩=some (.int .i64 G)/\w'.cell? ⟨I,1,none⟩=some (.int .i64 J)/\Ext E w')) e8 ?_ (fun O=>?_)
    ·exact k8.o _ k7
    refine tk 0 ?_;refine tk 1 ?_;refine tk 2 ?_;refine tk 3 ?_;refine tk 4 ?_;refine tk 5 ?_;refine tk 6 ?_;refine tk 7 ?_;refine tk 8 ?_;refine tk 9 ?_;refine tk 10 ?_;refine tk 11 ?_;refine tk 12 ?_;refine tk 13 ?_;refine rd (i:=14) (h:=fun K hK=>?_);go_simp
    (go_at_call 119;refine(jg nc b9).mono ?_;rintro e w3 ⟨⟨v3,rfl,R⟩,wS⟩;have k7:=k7.trans wS;obtain⟨a3,n3,c3,rfl,G0⟩:=R.var;have EF:nc<=n3:=by(have h1:=G0.out;rw[List.length_replicate]at h1;omega))
    go_wp2_with fail;refine hK.out _ _ ?_ (fun O=>?_)
    ·exact k8.o _ k7
    clear hK K
    try simp only[Act.put,sA,sB,sC]
    refine rd (i:=15) (h:=fun K hK=>?_);go_simp
    (go_at_call 134;refine(Se.o _ (TE.o.grow k7) _ _ _ R.wK EF).mono ?_;rintro e w4 ⟨rfl,u⟩;have k7:=k7.trans u)
    go_wp2_with fail;refine hK.out _ _ ?_ (fun O=>?_)
    ·exact k8.o _ k7
    clear hK K
    try simp only[Act.put,sA,sB,sC]
    refine tk 16 ?_;refine tk 17 ?_;refine tk 18 ?_;refine tk 19 ?_;refine tk 20 ?_;refine tk 21 ?_;refine tk 22 ?_;refine tk 23 ?_;refine tk 24 ?_;refine tk 25 ?_;refine wpAnyH_done e8 ?_ _;go_wp2_with fail;go_ret;exact⟨ag HZ.o,(TE.o.grow k7).all⟩
 ·have hne:((yn:Int) == (nb:Int))=false:=by simp;omega
  have HZ:=ae (show false=V by rw[Dw.o,decide_eq_false Dn];rfl);clear Dn;refine wp_region_held_drew (S:=(fun w'=>w'.cell? ⟨w.heap.size,0,none⟩=some (.slice a nb ca)/\w'.cell? ⟨w.heap.size,1,none⟩=some (.slice b nb cb)/\w'.cell? ⟨w.heap.size,2,none⟩=some (.slice c nc cc)/\w'.cell? ⟨w.heap.size+1,2,none⟩=some (.slice ya yn yc)/\w'.cell? ⟨I,0,none⟩=some (.int .i64 G)/\w'.cell? ⟨I,1,none⟩=some (.int .i64 J)/\Ext E w')) e8 ?_ (fun O=>?_)
  ·exact k8.o _ k7
  refine tk 0 ?_;refine tk 1 ?_;refine tk 2 ?_;refine tk 3 ?_;refine tk 4 ?_;refine tk 5 ?_;refine tk 6 ?_;refine tk 7 ?_;refine sk 8 ?_;refine sk 9 ?_;refine sk 10 ?_;refine sk 11 ?_;refine sk 12 ?_;refine sk 13 ?_;refine sk 14 ?_;refine sk 15 ?_;refine tk 16 ?_;refine tk 17 ?_;refine sk 18 ?_;refine tk 19 ?_;refine tk 20 ?_;refine sk 21 ?_;refine sk 22 ?_;refine sk 23 ?_;refine tk 24 ?_;refine tk 25 ?_;refine wpAnyH_done e8 ?_ _;go_wp2_with fail;go_ret;exact⟨ag HZ.o,(TE.o.grow k7).all⟩
theorem uw(h:Cz w a na ca b nb cb c nc cc A B C)(h':Jb w xa xn xc ya yn yc ra rn rc r)(ok:xF A B C=true)(hs:r.status=3):
 Calls Tryz.prog 83 #[C8 a na ca b nb cb c nc cc,A6 r xa xn xc ya yn yc ra rn rc] w fun e w'=>e=.returned (.bool (aD bj A B C r))/\Ext w w':=by
 obtain⟨r1,r2,r3,r4,r5,r6⟩:=cI h ok;subst r3;have T0:=ae (show Two w ((w.alloc (bE a nb ca b nb cb c nc cc)).alloc (ce r xa xn xc ya yn yc ra rn rc)) a nb ca b nb cb c nc cc xa xn xc ya yn yc ra rn rc r A B C from⟨Ext.refl _,(h.ext (Ext.alloc _ _)).ext (Ext.alloc _ _),(h'.ext (Ext.alloc _ _)).ext (Ext.alloc _ _)⟩);have xM:=h'.y.o3;have D1:=h'.y.l9;have yC:=h'.A5.o3;have AX:=h'.A5.l9;have yq:=h.c.o3;have AZ:=h.c.l9;have zN:=h.b.o3;have zx:=h.b.l9;have z7:=ae ok;have N2:=ae (fs r6);have Gc:=ae r5;obtain⟨st,Z,rY,O,rv,rp⟩:=r;obtain⟨v1,v2⟩:=rv;simp only at hs;subst hs;have Jh:=ae h'.y.hlen;have y4:=ae h.b.hlen;have z8:=ae h.c.hlen;have zy:=ae h'.A5.hlen;have HV:=ae (eg T0.o.lp);rw[ok]at HV;obtain⟨V,hV⟩:=b8 (aD bj A B C ⟨3,Z,rY,O,(v1,v2),rp⟩);rw[<-hV];obtain⟨fv,JE⟩:=b8 (dp A B C.length Z);obtain⟨pv,B1⟩:=b8 (BC O);obtain⟨gv,BO⟩:=b8 (dj A O (List.replicate nb 0));obtain⟨dx,F6⟩:=b8 (wY C O)
 have Dw:=ae (show V=(fv&&((decide (rn=nc)&&pv)&&(gv&&LG dx)))by
  rw[hV,JE,B1,BO,F6];unfold aD;rw[if_neg e7,if_neg e7,if_pos rfl];simp only;rw[tr,y4.o,z8.o,show O.length=rn from zy.o])
 have HF:=ae (fun(W:World) (t:Two w W a nb ca b nb cb c nc cc xa xn xc ya yn yc ra rn rc ⟨3,Z,rY,O,(v1,v2),rp⟩ A B C)=>kv t.lp z7.o t.lr.x);have HN:=ae (fun(W:World) (t:Two w W a nb ca b nb cb c nc cc xa xn xc ya yn yc ra rn rc ⟨3,Z,rY,O,(v1,v2),rp⟩ A B C)=>jf t.lr.A5);have U9:=jq nb b9;have Ez:=ae (fun(W:World) (t:Two w W a nb ca b nb cb c nc cc xa xn xc ya yn yc ra rn rc ⟨3,Z,rY,O,(v1,v2),rp⟩ A B C)=>pz (b:=b) (nb:=nb) (cb:=cb) (c:=c) (nc:=nc) (cc:=cc) (t.grow (Ext.alloc W (.cells (bw (List.replicate nb 0)) 3))).lp.a (t.grow (Ext.alloc W (.cells (bw (List.replicate nb 0)) 3))).lr.A5 (Row.ints (show Row (W.alloc (.cells (bw (List.replicate nb 0)) 3)) W.heap.size 3 (List.replicate nb 0)from heap_alloc_new _ _) e7 (Nat.le_refl nb) b9) (Nat.le_refl _) Gc.o);have Hg:=ae (fun(W:World) (t:Two w W a nb ca b nb cb c nc cc xa xn xc ya yn yc ra rn rc ⟨3,Z,rY,O,(v1,v2),rp⟩ A B C)=>lW t.lp.c t.lr.A5);simp only[<-JE]at HF;simp only[<-B1]at HN;simp only[<-BO]at Ez;simp only[<-F6]at Hg;obtain⟨x1,x2,N',u⟩:∃y1 y2 Fx,xN dx=((y1,y2),Fx):=⟨_,_,_,rfl⟩;simp only[u]at Hg
 have B9:=ae (show LG dx=(N'&&decide (x1<0))by
  cases dx with
  | none=>simp only[xN]at u;cases u;rfl
  | some v=>obtain⟨z1,z2⟩:=v;simp only[xN,Option.getD_some,Option.isSome_some,Prod.mk.injEq]at u;obtain⟨⟨rfl,rfl⟩,rfl⟩:=u;rfl)
 clear h h' ok r4 r5 r6;clear hV JE B1 BO F6 u;have JL:((3:Int) == 1)=false:=by decide
 have Ax:((3:Int) == 2)=false:=by decide
 go_enter Tryz.func83,Tryz.ntmps83
 obtain⟨p0,p1,p2⟩:=T0.o.p;obtain⟨q0,q1,q2,q3,q4,q5⟩:=T0.o.q;go_wp2_with fail;refine HV.o.mono ?_;rintro e w1 ⟨rfl,hx⟩;have T1:=ae (T0.o.grow hx);clear hx p0 p1 p2 q0 q1 q2 q3 q4 q5;obtain⟨p0,p1,p2⟩:=T1.o.p;obtain⟨q0,q1,q2,q3,q4,q5⟩:=T1.o.q;go_wp2_with fail;refine(Hg.o _ T1.o).mono ?_;rintro e w2 ⟨rfl,hx⟩;obtain⟨E,hE⟩:=b8 (w2.alloc (.cells #[.int .i64 x1,.int .i64 x2] 46));obtain⟨I,U⟩:=b8 w2.heap.size;have zw:Ext w2 E:=by rw[hE];exact Ext.alloc _ _
 have TE:=ae ((T1.o.grow hx).grow zw);have Bh:=ae (show aj w2 E I x1 x2 by rw[hE,U];exact aj.new (Ext.refl _) _ _);go_upto_region 11 with fail;rw[<-hE,<-U];clear hE zw hx U p0 p1 p2 q0 q1 q2 q3 q4 q5;obtain⟨p0,p1,p2⟩:=TE.o.p;obtain⟨q0,q1,q2,q3,q4,q5⟩:=TE.o.q;have b0:=Bh.o.c0;have b1:=Bh.o.c1;have k7:Ext E E.drew:=Ext.drew E;have k8:=ae (fun(w':World) (h:Ext E w')=>(⟨h.k6 p0,h.k6 p1,h.k6 p2,h.k6 q1,h.k6 q3,h.k6 b0,h.k6 b1,h⟩:w'.cell? ⟨w.heap.size,0,none⟩=some (.slice a nb ca)/\w'.cell? ⟨w.heap.size,1,none⟩=some (.slice b nb cb)/\w'.cell? ⟨w.heap.size,2,none⟩=some (.slice c nc cc)/\w'.cell? ⟨w.heap.size+1,1,none⟩=some (.slice xa xn xc)/\w'.cell? ⟨w.heap.size+1,3,none⟩=some (.slice ra rn rc)/\w'.cell? ⟨I,0,none⟩=some (.int .i64 x1)/\w'.cell? ⟨I,1,none⟩=some (.int .i64 x2)/\Ext E w'));cases fv
 ·have HZ:=ae (show false=V by rw[Dw.o];rfl);refine wp_region_held_drew (S:=(fun w'=>w'.cell? ⟨w.heap.size,0,none⟩=some (.slice a nb ca)/\w'.cell? ⟨w.heap.size,1,none⟩=some (.slice b nb cb)/\w'.cell? ⟨w.heap.size,2,none⟩=some (.slice c nc cc)/\w'.cell? ⟨w.heap.size+1,1,none⟩=some (.slice xa xn xc)/\w'.cell? ⟨w.heap.size+1,3,none⟩=some (.slice ra rn rc)/\w'.cell? ⟨I,0,none⟩=some (.int .i64 x1)/\w'.cell? ⟨I,1,none⟩=some (.int .i64 x2)/\Ext E w')) e8 ?_ (fun G=>?_)
  ·exact k8.o _ k7
  refine tk 0 ?_;refine tk 1 ?_;refine tk 2 ?_;refine rd (i:=3) (h:=fun K hK=>?_);go_simp
  (go_at_call 136;refine(HF.o _ (TE.o.grow k7)).mono ?_;rintro e w3 ⟨rfl,J⟩;have k7:=k7.trans J)
  go_wp2_with fail;refine hK.out _ _ ?_ (fun G=>?_)
  ·exact k8.o _ k7
  clear hK K
  try simp only[Act.put,sA,sB,sC]
  refine tk 4 ?_;refine sk 5 ?_;refine sk 6 ?_;refine sk 7 ?_;refine sk 8 ?_;refine sk 9 ?_;refine sk 10 ?_;refine sk 11 ?_;refine tk 12 ?_;refine tk 13 ?_;refine sk 14 ?_;refine sk 15 ?_;refine sk 16 ?_;refine tk 17 ?_;refine tk 18 ?_;refine sk 19 ?_;refine sk 20 ?_;refine sk 21 ?_;refine sk 22 ?_;refine sk 23 ?_;refine sk 24 ?_;refine sk 25 ?_;refine sk 26 ?_;refine tk 27 ?_;refine tk 28 ?_;refine sk 29 ?_;refine tk 30 ?_;refine tk 31 ?_;refine sk 32 ?_;refine sk 33 ?_;refine sk 34 ?_;refine tk 35 ?_;refine tk 36 ?_;refine wpAnyH_done e8 ?_ _;go_wp2_with fail;go_ret;exact⟨ag HZ.o,(TE.o.grow k7).all⟩
 ·by_cases BF:rn=nc
  ·have hne:((rn:Int) == (nc:Int))=true:=by simp;omega
   have Jf:=ae BF;clear BF;cases pv
   ·have HZ:=ae (show false=V by rw[Dw.o];simp);refine wp_region_held_drew (S:=(fun w'=>w'.cell? ⟨w.heap.size,0,none⟩=some (.slice a nb ca)/\w'.cell? ⟨w.heap.size,1,none⟩=some (.slice b nb cb)/\w'.cell? ⟨w.heap.size,2,none⟩=some (.slice c nc cc)/\w'.cell? ⟨w.heap.size+1,1,none⟩=some (.slice xa xn xc)/\w'.cell? ⟨w.heap.size+1,3,none⟩=some (.slice ra rn rc)/\w'.cell? ⟨I,0,none⟩=some (.int .i64 x1)/\w'.cell? ⟨I,1,none⟩=some (.int .i64 x2)/\Ext E w')) e8 ?_ (fun G=>?_)
    ·exact k8.o _ k7
    refine tk 0 ?_;refine tk 1 ?_;refine tk 2 ?_;refine rd (i:=3) (h:=fun K hK=>?_);go_simp
    (go_at_call 136;refine(HF.o _ (TE.o.grow k7)).mono ?_;rintro e w3 ⟨rfl,J⟩;have k7:=k7.trans J)
    go_wp2_with fail;refine hK.out _ _ ?_ (fun G=>?_)
    ·exact k8.o _ k7
    clear hK K
    try simp only[Act.put,sA,sB,sC]
    refine tk 4 ?_;refine tk 5 ?_;refine tk 6 ?_;refine tk 7 ?_;refine tk 8 ?_;refine tk 9 ?_;refine tk 10 ?_;refine tk 11 ?_;refine tk 12 ?_;refine tk 13 ?_;refine tk 14 ?_;refine tk 15 ?_;refine rd (i:=16) (h:=fun K hK=>?_);go_simp
    (go_at_call 137;refine(HN.o _ (TE.o.grow k7)).mono ?_;rintro e w4 ⟨rfl,R⟩;have k7:=k7.trans R)
    go_wp2_with fail;refine hK.out _ _ ?_ (fun G=>?_)
    ·exact k8.o _ k7
    clear hK K
    try simp only[Act.put,sA,sB,sC]
    refine tk 17 ?_;refine tk 18 ?_;refine sk 19 ?_;refine sk 20 ?_;refine sk 21 ?_;refine sk 22 ?_;refine sk 23 ?_;refine sk 24 ?_;refine sk 25 ?_;refine sk 26 ?_;refine tk 27 ?_;refine tk 28 ?_;refine sk 29 ?_;refine tk 30 ?_;refine tk 31 ?_;refine sk 32 ?_;refine sk 33 ?_;refine sk 34 ?_;refine tk 35 ?_;refine tk 36 ?_;refine wpAnyH_done e8 ?_ _;go_wp2_with fail;go_ret;exact⟨ag HZ.o,(TE.o.grow k7).all⟩
   ·cases gv
    ·have HZ:=ae (show false=V by rw[Dw.o];simp);refine wp_region_held_drew (S:=(fun w'=>w'.cell? ⟨w.heap.size,0,none⟩=some (.slice a nb ca)/\w'.cell? ⟨w.heap.size,1,none⟩=some (.slice b nb cb)/\w'.cell? ⟨w.heap.size,2,none⟩=some (.slice c nc cc)/\w'.cell? ⟨w.heap.size+1,1,none⟩=some (.slice xa xn xc)/\w'.cell? ⟨w.heap.size+1,3,none⟩=some (.slice ra rn rc)/\w'.cell? ⟨I,0,none⟩=some (.int .i64 x1)/\w'.cell? ⟨I,1,none⟩=some (.int .i64 x2)/\Ext E w')) e8 ?_ (fun G=>?_)
     ·exact k8.o _ k7
     refine tk 0 ?_;refine tk 1 ?_;refine tk 2 ?_;refine rd (i:=3) (h:=fun K hK=>?_);go_simp
     (go_at_call 136;refine(HF.o _ (TE.o.grow k7)).mono ?_;rintro e w3 ⟨rfl,J⟩;have k7:=k7.trans J)
     go_wp2_with fail;refine hK.out _ _ ?_ (fun G=>?_)
     ·exact k8.o _ k7
     clear hK K
     try simp only[Act.put,sA,sB,sC]
     refine tk 4 ?_;refine tk 5 ?_;refine tk 6 ?_;refine tk 7 ?_;refine tk 8 ?_;refine tk 9 ?_;refine tk 10 ?_;refine tk 11 ?_;refine tk 12 ?_;refine tk 13 ?_;refine tk 14 ?_;refine tk 15 ?_;refine rd (i:=16) (h:=fun K hK=>?_);go_simp
     (go_at_call 137;refine(HN.o _ (TE.o.grow k7)).mono ?_;rintro e w4 ⟨rfl,R⟩;have k7:=k7.trans R)
     go_wp2_with fail;refine hK.out _ _ ?_ (fun G=>?_)
     ·exact k8.o _ k7
     clear hK K
     try simp only[Act.put,sA,sB,sC]
     refine tk 17 ?_;refine tk 18 ?_;refine tk 19 ?_;refine tk 20 ?_;refine tk 21 ?_;refine tk 22 ?_;refine tk 23 ?_;refine tk 24 ?_;have TG:=ae (TE.o.grow k7);have IV:=k7;have k7:=IV.trans (Ext.alloc w4 (.cells (bw (List.replicate nb 0)) 3));refine rd (i:=25) (h:=fun K hK=>?_);go_simp;refine hK.out _ _ ?_ (fun G=>?_)
     ·exact k8.o _ k7
     clear hK K
     try simp only[Act.put,sA,sB,sC]
     refine rd (i:=26) (h:=fun K hK=>?_);go_simp
     (go_at_call 138;refine(Ez.o _ TG.o).mono ?_;rintro e w5 ⟨rfl,zh⟩;have k7:=k7.trans zh)
     go_wp2_with fail;refine hK.out _ _ ?_ (fun G=>?_)
     ·exact k8.o _ k7
     clear hK K
     try simp only[Act.put,sA,sB,sC]
     refine tk 27 ?_;refine tk 28 ?_;refine sk 29 ?_;refine tk 30 ?_;refine tk 31 ?_;refine sk 32 ?_;refine sk 33 ?_;refine sk 34 ?_;refine tk 35 ?_;refine tk 36 ?_;refine wpAnyH_done e8 ?_ _;go_wp2_with fail;go_ret;exact⟨ag HZ.o,(TE.o.grow k7).all⟩
    ·cases N'
     ·have HZ:=ae (show false=V by rw[Dw.o,B9.o,decide_eq_true Jf.o];simp);refine wp_region_held_drew (S:=(fun w'=>w'.cell? ⟨w.heap.size,0,none⟩=some (.slice a nb ca)/\w'.cell? ⟨w.heap.size,1,none⟩=some (.slice b nb cb)/\w'.cell? ⟨w.heap.size,2,none⟩=some (.slice c nc cc)/\w'.cell? ⟨w.heap.size+1,1,none⟩=some (.slice xa xn xc)/\w'.cell? ⟨w.heap.size+1,3,none⟩=some (.slice ra rn rc)/\w'.cell? ⟨I,0,none⟩=some (.int .i64 x1)/\w'.cell? ⟨I,1,none⟩=some (.int .i64 x2)/\Ext E w')) e8 ?_ (fun G=>?_)
      ·exact k8.o _ k7
      refine tk 0 ?_;refine tk 1 ?_;refine tk 2 ?_;refine rd (i:=3) (h:=fun K hK=>?_);go_simp
      (go_at_call 136;refine(HF.o _ (TE.o.grow k7)).mono ?_;rintro e w3 ⟨rfl,J⟩;have k7:=k7.trans J)
      go_wp2_with fail;refine hK.out _ _ ?_ (fun G=>?_)
      ·exact k8.o _ k7
      clear hK K
      try simp only[Act.put,sA,sB,sC]
      refine tk 4 ?_;refine tk 5 ?_;refine tk 6 ?_;refine tk 7 ?_;refine tk 8 ?_;refine tk 9 ?_;refine tk 10 ?_;refine tk 11 ?_;refine tk 12 ?_;refine tk 13 ?_;refine tk 14 ?_;refine tk 15 ?_;refine rd (i:=16) (h:=fun K hK=>?_);go_simp
      (go_at_call 137;refine(HN.o _ (TE.o.grow k7)).mono ?_;rintro e w4 ⟨rfl,R⟩;have k7:=k7.trans R)
      go_wp2_with fail;refine hK.out _ _ ?_ (fun G=>?_)
      ·exact k8.o _ k7
      clear hK K
      try simp only[Act.put,sA,sB,sC]
      refine tk 17 ?_;refine tk 18 ?_;refine tk 19 ?_;refine tk 20 ?_;refine tk 21 ?_;refine tk 22 ?_;refine tk 23 ?_;refine tk 24 ?_;have TG:=ae (TE.o.grow k7);have IV:=k7;have k7:=IV.trans (Ext.alloc w4 (.cells (bw (List.replicate nb 0)) 3));refine rd (i:=25) (h:=fun K hK=>?_);go_simp;refine hK.out _ _ ?_ (fun G=>?_)
      ·exact k8.o _ k7
      clear hK K
      try simp only[Act.put,sA,sB,sC]
      refine rd (i:=26) (h:=fun K hK=>?_);go_simp
      (go_at_call 138;refine(Ez.o _ TG.o).mono ?_;rintro e w5 ⟨rfl,zh⟩;have k7:=k7.trans zh)
      go_wp2_with fail;refine hK.out _ _ ?_ (fun G=>?_)
      ·exact k8.o _ k7
      clear hK K
      try simp only[Act.put,sA,sB,sC]
      refine tk 27 ?_;refine tk 28 ?_;refine tk 29 ?_;refine tk 30 ?_;refine tk 31 ?_;refine sk 32 ?_;refine sk 33 ?_;refine sk 34 ?_;refine tk 35 ?_;refine tk 36 ?_;refine wpAnyH_done e8 ?_ _;go_wp2_with fail;go_ret;exact⟨ag HZ.o,(TE.o.grow k7).all⟩
     ·have HZ:=ae (show decide (x1<0)=V by rw[Dw.o,B9.o,decide_eq_true Jf.o];simp);refine wp_region_held_drew (S:=(fun w'=>w'.cell? ⟨w.heap.size,0,none⟩=some (.slice a nb ca)/\w'.cell? ⟨w.heap.size,1,none⟩=some (.slice b nb cb)/\w'.cell? ⟨w.heap.size,2,none⟩=some (.slice c nc cc)/\w'.cell? ⟨w.heap.size+1,1,none⟩=some (.slice xa xn xc)/\w'.cell? ⟨w.heap.size+1,3,none⟩=some (.slice ra rn rc)/\w'.cell? ⟨I,0,none⟩=some (.int .i64 x1)/\w'.cell? ⟨I,1,none⟩=some (.int .i64 x2)/\Ext E w')) e8 ?_ (fun G=>?_)
      ·exact k8.o _ k7
      refine tk 0 ?_;refine tk 1 ?_;refine tk 2 ?_;refine rd (i:=3) (h:=fun K hK=>?_);go_simp
      (go_at_call 136;refine(HF.o _ (TE.o.grow k7)).mono ?_;rintro e w3 ⟨rfl,J⟩;have k7:=k7.trans J)
      go_wp2_with fail;refine hK.out _ _ ?_ (fun G=>?_)
      ·exact k8.o _ k7
      clear hK K
      try simp only[Act.put,sA,sB,sC]
      refine tk 4 ?_;refine tk 5 ?_;refine tk 6 ?_;refine tk 7 ?_;refine tk 8 ?_;refine tk 9 ?_;refine tk 10 ?_;refine tk 11 ?_;refine tk 12 ?_;refine tk 13 ?_;refine tk 14 ?_;refine tk 15 ?_;refine rd (i:=16) (h:=fun K hK=>?_);go_simp
      (go_at_call 137;refine(HN.o _ (TE.o.grow k7)).mono ?_;rintro e w4 ⟨rfl,R⟩;have k7:=k7.trans R)
      go_wp2_with fail;refine hK.out _ _ ?_ (fun G=>?_)
      ·exact k8.o _ k7
      clear hK K
      try simp only[Act.put,sA,sB,sC]
      refine tk 17 ?_;refine tk 18 ?_;refine tk 19 ?_;refine tk 20 ?_;refine tk 21 ?_;refine tk 22 ?_;refine tk 23 ?_;refine tk 24 ?_;have TG:=ae (TE.o.grow k7);have IV:=k7;have k7:=IV.trans (Ext.alloc w4 (.cells (bw (List.replicate nb 0)) 3));refine rd (i:=25) (h:=fun K hK=>?_);go_simp;refine hK.out _ _ ?_ (fun G=>?_)
      ·exact k8.o _ k7
      clear hK K
      try simp only[Act.put,sA,sB,sC]
      refine rd (i:=26) (h:=fun K hK=>?_);go_simp
      (go_at_call 138;refine(Ez.o _ TG.o).mono ?_;rintro e w5 ⟨rfl,zh⟩;have k7:=k7.trans zh)
      go_wp2_with fail;refine hK.out _ _ ?_ (fun G=>?_)
      ·exact k8.o _ k7
      clear hK K
      try simp only[Act.put,sA,sB,sC]
      refine tk 27 ?_;refine tk 28 ?_;refine tk 29 ?_;refine tk 30 ?_;refine tk 31 ?_;refine tk 32 ?_;refine tk 33 ?_;refine tk 34 ?_;refine tk 35 ?_;refine tk 36 ?_;refine wpAnyH_done e8 ?_ _;go_wp2_with fail;go_ret;exact⟨ag HZ.o,(TE.o.grow k7).all⟩
  ·have hne:((rn:Int) == (nc:Int))=false:=by simp;omega
   have HZ:=ae (show false=V by rw[Dw.o,decide_eq_false BF];rfl);clear BF;refine wp_region_held_drew (S:=(fun w'=>w'.cell? ⟨w.heap.size,0,none⟩=some (.slice a nb ca)/\w'.cell? ⟨w.heap.size,1,none⟩=some (.slice b nb cb)/\w'.cell? ⟨w.heap.size,2,none⟩=some (.slice c nc cc)/\w'.cell? ⟨w.heap.size+1,1,none⟩=some (.slice xa xn xc)/\w'.cell? ⟨w.heap.size+1,3,none⟩=some (.slice ra rn rc)/\w'.cell? ⟨I,0,none⟩=some (.int .i64 x1)/\w'.cell? ⟨I,1,none⟩=some (.int .i64 x2)/\Ext E w')) e8 ?_ (fun G=>?_)
   ·exact k8.o _ k7
   refine tk 0 ?_;refine tk 1 ?_;refine tk 2 ?_;refine rd (i:=3) (h:=fun K hK=>?_);go_simp
   (go_at_call 136;refine(HF.o _ (TE.o.grow k7)).mono ?_;rintro e w3 ⟨rfl,J⟩;have k7:=k7.trans J)
   go_wp2_with fail;refine hK.out _ _ ?_ (fun G=>?_)
   ·exact k8.o _ k7
   clear hK K
   try simp only[Act.put,sA,sB,sC]
   refine tk 4 ?_;refine tk 5 ?_;refine tk 6 ?_;refine tk 7 ?_;refine tk 8 ?_;refine tk 9 ?_;refine tk 10 ?_;refine tk 11 ?_;refine tk 12 ?_;refine tk 13 ?_;refine sk 14 ?_;refine sk 15 ?_;refine sk 16 ?_;refine tk 17 ?_;refine tk 18 ?_;refine sk 19 ?_;refine sk 20 ?_;refine sk 21 ?_;refine sk 22 ?_;refine sk 23 ?_;refine sk 24 ?_;refine sk 25 ?_;refine sk 26 ?_;refine tk 27 ?_;refine tk 28 ?_;refine sk 29 ?_;refine tk 30 ?_;refine tk 31 ?_;refine sk 32 ?_;refine sk 33 ?_;refine sk 34 ?_;refine tk 35 ?_;refine tk 36 ?_;refine wpAnyH_done e8 ?_ _;go_wp2_with fail;go_ret;exact⟨ag HZ.o,(TE.o.grow k7).all⟩
theorem wk(h:Cz w a na ca b nb cb c nc cc A B C)(h':Jb w xa xn xc ya yn yc ra rn rc r)(ok:xF A B C=true):
 Calls Tryz.prog 83 #[C8 a na ca b nb cb c nc cc,A6 r xa xn xc ya yn yc ra rn rc] w fun e w'=>e=.returned (.bool (aD bj A B C r))/\Ext w w':=by
 by_cases h1:r.status=1
 ·exact uu h h' ok h1
 by_cases h2:r.status=2
 ·exact uv h h' ok h2
 by_cases h3:r.status=3
 ·exact uw h h' ok h3
 have HE:=ae (show aD bj A B C r=false by unfold aD;rw[if_neg h1,if_neg h2,if_neg h3]);have T0:=ae (show Two w ((w.alloc (bE a na ca b nb cb c nc cc)).alloc (ce r xa xn xc ya yn yc ra rn rc)) a na ca b nb cb c nc cc xa xn xc ya yn yc ra rn rc r A B C from⟨Ext.refl _,(h.ext (Ext.alloc _ _)).ext (Ext.alloc _ _),(h'.ext (Ext.alloc _ _)).ext (Ext.alloc _ _)⟩);have HV:=ae (eg T0.o.lp);rw[ok]at HV;obtain⟨st,rX,rY,rr,R,rp⟩:=r;obtain⟨v1,v2⟩:=R;simp only at h1 h2 h3;have e1:(st == 1)=false:=by simp;omega
 have e2:(st == 2)=false:=by simp;omega
 have e3:(st == 3)=false:=by simp;omega
 clear h h' h1 h2 h3;go_enter Tryz.func83,Tryz.ntmps83
 obtain⟨p0,p1,p2⟩:=T0.o.p;obtain⟨q0,O,K,J,I,G⟩:=T0.o.q;go_wp2_with fail;refine HV.o.mono ?_;rintro e w1 ⟨rfl,hx⟩;have T1:=ae (T0.o.grow hx);clear hx p0 p1 p2 q0 O K J I G;obtain⟨p0,p1,p2⟩:=T1.o.p;obtain⟨q0,O,K,J,I,G⟩:=T1.o.q;go_wp2_with fail;go_ret;exact⟨ag HE.o.symm,T1.o.all⟩
end
theorem lw{k1 k2:Int}{b:j8}{cap n' I:Nat}{A B:j6}(h:r8 w a n cap A)(h':r8 w b n' I B)(hbig:n<=1048576):
 Calls Tryz.prog 175 #[.slice a n cap,xO k1 k2,.slice b n' I] w fun e w'=>(∃v,e=.returned (.tuple #[v,.bool (zo A (k1,k2) B).isSome])/\l8 w' w.heap.size v ((zo A (k1,k2) B).getD []))/\Ext w w':=by
 have HL:=ae h.hlen;have Ey:=ae h'.hlen;have l9:=h.l9;have o3:=h.o3;have Mz:=h'.l9;have MS:=h'.o3;have HA:=ae h;have HB':=ae h';have HX:=ae (Ext.alloc w (.cells #[.int .i64 k1,.int .i64 k2] 46));clear h h';by_cases hne:n=n'
 ·subst hne;have HS:=ae (show zo A (k1,k2) B=runT (C6 A (k1,k2) B) n by unfold zo;rw[HL.o,Ey.o,if_pos rfl]);have HO:=ae (l8.made (w.alloc (.cells #[.int .i64 k1,.int .i64 k2] 46)) (w.heap.size+1) e7);go_enter Tryz.func175,Tryz.ntmps175
  go_wp2_with fail
  go_loopg [8,9] n (fun gk o i wr=>∃(k:Nat) (a1:j8) (n1 p1:Nat) (r:j6),b7 (gk+k=n)/\i=.int .i64 (k:Int)/\o=.slice a1 n1 p1/\b7 (runT (C6 A (k1,k2) B) k=some r)/\b7 (l8 wr (w.heap.size+1) (.slice a1 n1 p1) r)/\b7 (Ext (w.alloc (.cells #[.int .i64 k1,.int .i64 k2] 46)) wr))
  case atStart=>exact⟨0,_,_,_,[],ae b9,rfl,rfl,ae rfl,ae (by simpa using HO.o),ae (Ext.alloc _ _)⟩
  case round =>
   obtain⟨k,a1,n1,p1,r,HK,rfl,rfl,HR,xC,xz⟩:=hrel;have Db:=xz.o.size;rw[World.size_alloc]at Db;by_cases hlt:k<n
   ·have Gy:wr.cell? ⟨w.heap.size,0,none⟩=some (.int .i64 k1):=xz.o.k6 e7;have Gx:wr.cell? ⟨w.heap.size,1,none⟩=some (.int .i64 k2):=xz.o.k6 e7;obtain⟨ab,Ag,ax,ay,ha,I4,Bm,Bl⟩:=((HA.o.ext HX.o).ext xz.o).at hlt;obtain⟨bb,AO,Z,G,hb,zH,Ed,Ec⟩:=((HB'.o.ext HX.o).ext xz.o).at hlt;subst ha hb;have Zp:=ae I4;have yu:=ae zH;obtain⟨p,q,one,hm⟩:∃p q ok,mulR (k1,k2) (Z,G)=((p,q),ok):=⟨_,_,_,rfl⟩;have HM:=ae hm;obtain⟨p2,W,two,D4⟩:∃u v ok,xP (ax,ay) (p,q)=((u,v),ok):=⟨_,_,_,rfl⟩;have Ax:=ae D4;clear I4 zH hm D4;go_upto_region 7 with fail
    go_cut [10,11] (fun sx so wx=>∃g:Nat,sx=.pointer (some ⟨g,0,none⟩)/\so=.bool one/\b7 (aj wr wx g p q))
    case first =>
     have k7:Ext wr wr.drew:=Ext.drew wr;have R:Ext wr (wr.alloc (.cells #[.int .i64 0,.int .i64 0] 46)).drew:=(Ext.alloc _ _).trans (Ext.drew _);have k8:=ae (fun(w':World) (h:Ext wr w')=>(⟨h.k6 Gy,h.k6 Gx,h.k6 Ed,h.k6 Ec,h⟩:w'.cell? ⟨w.heap.size,0,none⟩=some (.int .i64 k1)/\w'.cell? ⟨w.heap.size,1,none⟩=some (.int .i64 k2)/\w'.cell? ⟨bb,AO+k*2,none⟩=some (.int .i64 Z)/\w'.cell? ⟨bb,AO+k*2+1,none⟩=some (.int .i64 G)/\Ext wr w'))
     go_region_held3 (fun w'=>w'.cell? ⟨w.heap.size,0,none⟩=some (.int .i64 k1)/\w'.cell? ⟨w.heap.size,1,none⟩=some (.int .i64 k2)/\w'.cell? ⟨bb,AO+k*2,none⟩=some (.int .i64 Z)/\w'.cell? ⟨bb,AO+k*2+1,none⟩=some (.int .i64 G)/\Ext wr w')
      (first
        | with_reducible exact k8.o _ k7
        | with_reducible exact k8.o _ R
        | with_reducible exact k8.o _ ((k7.setCell (by first|(simp;done)|(simp;omega)) _).setCell (by first|(simp;done)|(simp;omega)) _)
        | with_reducible exact k8.o _ (k7.trans (Ext.alloc _ _))
        | with_reducible exact k8.o _ (r9.put _ _).ext)
      (first
        | (go_at_call 163
           (with_reducible refine(rt k1 k2 Z G _).mono ?_)
           rw[HM.o];rintro e w3 ⟨rfl,O⟩
           first|(with_reducible have r9:=aj.grow r9 O)|(with_reducible have r9:=aj.xu O)|(with_reducible have r9:=aj.xA k7 O)|skip
           first|(have BQ:=r9.c0;have BP:=r9.c1;have C3:=r9.free)|skip
           have k7:Ext wr w3:=by first|with_reducible exact k7.trans O|with_reducible exact R.trans O|with_reducible exact(k7.trans (Ext.alloc _ _)).trans O
           have zr:=k7.size)
        | fail)
     all_goals(go_wp2_with fail;go_meet;first|exact⟨_,rfl,rfl,ae (r9.put _ _)⟩|exact⟨_,rfl,rfl,ae (aj.new k7 _ _)⟩|exact⟨_,rfl,rfl,ae (aj.new' k7 _ _ e7)⟩)
    obtain⟨g,rfl,rfl,K⟩:=hcut;have g0:=K.o.c0;have g1:=K.o.c1;replace Bm:=K.o.ext.k6 Bm;replace Bl:=K.o.ext.k6 Bl;clear Gy Gx Ed Ec;go_upto_region 8 with fail
    go_cut [12,13] (fun sx so wx=>∃g2:Nat,sx=.pointer (some ⟨g2,0,none⟩)/\so=.bool two/\b7 (aj wc wx g2 p2 W))
    case first =>
     have k7:Ext wc wc.drew:=Ext.drew wc;have R:Ext wc (wc.alloc (.cells #[.int .i64 0,.int .i64 0] 46)).drew:=(Ext.alloc _ _).trans (Ext.drew _);have k8:=ae (fun(w':World) (h:Ext wc w')=>(⟨h.k6 Bm,h.k6 Bl,h.k6 g0,h.k6 g1,h⟩:w'.cell? ⟨ab,Ag+k*2,none⟩=some (.int .i64 ax)/\w'.cell? ⟨ab,Ag+k*2+1,none⟩=some (.int .i64 ay)/\w'.cell? ⟨g,0,none⟩=some (.int .i64 p)/\w'.cell? ⟨g,1,none⟩=some (.int .i64 q)/\Ext wc w'))
     go_region_held3 (fun w'=>w'.cell? ⟨ab,Ag+k*2,none⟩=some (.int .i64 ax)/\w'.cell? ⟨ab,Ag+k*2+1,none⟩=some (.int .i64 ay)/\w'.cell? ⟨g,0,none⟩=some (.int .i64 p)/\w'.cell? ⟨g,1,none⟩=some (.int .i64 q)/\Ext wc w')
      (first
        | with_reducible exact k8.o _ k7
        | with_reducible exact k8.o _ R
        | with_reducible exact k8.o _ ((k7.setCell (by first|(simp;done)|(simp;omega)) _).setCell (by first|(simp;done)|(simp;omega)) _)
        | with_reducible exact k8.o _ (k7.trans (Ext.alloc _ _))
        | with_reducible exact k8.o _ (r9.put _ _).ext)
      (first
        | (go_at_call 123
           (with_reducible refine(jP ax ay p q _).mono ?_)
           rw[Ax.o];rintro e w4 ⟨rfl,J⟩
           first|(with_reducible have r9:=aj.grow r9 J)|(with_reducible have r9:=aj.xu J)|(with_reducible have r9:=aj.xA k7 J)|skip
           first|(have BQ:=r9.c0;have BP:=r9.c1;have C3:=r9.free)|skip
           have k7:Ext wc w4:=by first|with_reducible exact k7.trans J|with_reducible exact R.trans J|with_reducible exact(k7.trans (Ext.alloc _ _)).trans J
           have zr:=k7.size)
        | fail)
     all_goals(go_wp2_with fail;go_meet;first|exact⟨_,rfl,rfl,ae (r9.put _ _)⟩|exact⟨_,rfl,rfl,ae (aj.new k7 _ _)⟩|exact⟨_,rfl,rfl,ae (aj.new' k7 _ _ e7)⟩)
    obtain⟨g2,rfl,rfl,zV⟩:=hcut;have X2:=ae ((xz.o.trans K.o.ext).trans zV.o.ext);have yE:=ae ((xC.o.ext K.o.ext).ext zV.o.ext);have h0:=zV.o.c0;have h1:=zV.o.c1;have HF:=ae (show C6 A (k1,k2) B k=if(one&&two)=true then some (p2,W) else none by unfold C6;rw[Zp.o,yu.o,HM.o];simp only;rw[Ax.o];simp only[Bool.and_eq_true]);clear Bm Bl g0 g1;cases Ee:(one&&two)
    ·have HN:=ae (show runT (C6 A (k1,k2) B) n=none from fj HR.o (by rw[HF.o,Ee];rfl) hlt);cases one
     case' true=>(have h2:two=false:=by simpa using Ee);subst h2
     all_goals
      clear Ee;go_wp2_with fail;have U:=X2.o.size;rw[World.size_alloc]at U
      go_ret2
      exact⟨⟨_,eZ (by rw[HS.o,HN.o];rfl),by rw[HS.o,HN.o];exact l8.made _ _ b9⟩,HX.o.trans (X2.o.trans (Ext.alloc _ _))⟩
    ·obtain⟨rfl,rfl⟩:one=true/\two=true:=by simpa using Ee
     have Eu:=ae (dB (x:=(p2,W)) HR.o (by rw[HF.o];rfl));have zy:=ae (cU HR.o);have EO:=X2.o.size;rw[World.size_alloc]at EO;clear Ee
     go_wp2_with (first
      | (at_builtin;refine aG rfl _ _ rfl (w.heap.size+1) (.slice a1 n1 p1) _ rfl (yE.o.ext (Ext.alloc _ _)) _ 1 _ [(p2,W)] rfl (r8.one' _ _ _ _ _ e7) (by rw[zy.o];omega) (by simp;omega) ?_;intro v2 w4 ho hg l7;obtain⟨a2,n2,c2,rfl,Fa⟩:=ho.var;have yW:=ae ho;have X5:=ae (al (X2.o.trans (Ext.alloc _ _)) hg (fun j hj=>by have:=(yE.o.lt j hj).1;simpa using this));clear ho hg l7))
     go_roundg (gk-1)
     case measure=>have:=HK.o;omega
     case rel=>exact⟨k+1,a2,n2,c2,_,ae (j4 HK.o),by go_num,rfl,Eu,yW,X5⟩
   ·have xQ:k=n:=by have:=HK.o;omega
    subst xQ;go_wp2_with fail
    go_ret2
    exact⟨⟨_,eZ (by rw[HS.o,HR.o];rfl),by rw[HS.o,HR.o];exact xC.o.mono (Nat.le_succ _)⟩,HX.o.trans xz.o⟩
 ·have HN:=ae (show zo A (k1,k2) B=none by unfold zo;rw[HL.o,Ey.o,if_neg hne]);go_enter Tryz.func175,Tryz.ntmps175
  go_wp2_with fail;have HO:=ae (l8.made (w.alloc (.cells #[.int .i64 k1,.int .i64 k2] 46)) w.heap.size e7)
  go_ret2
  exact⟨⟨_,eZ (by rw[HN.o];rfl),by rw[HN.o];simpa using HO.o⟩,HX.o.trans (Ext.alloc _ _)⟩
theorem mb{cap:Nat}{l:j6}(h:r8 w a n cap l)(hb:n<=1099511627776):
 Calls Tryz.prog 84 #[.slice a n cap] w fun e w'=>(∃v,e=.returned v/\l8 w' w.heap.size v l)/\Ext w w':=by
 have HI:=ae (h.ext (Ext.alloc w (.cells #[] 46)));have HO:=ae (l8.made w w.heap.size (Nat.le_refl _));clear h;go_enter Tryz.func84,Tryz.ntmps84
 go_wp2_with (first|(at_builtin;refine aG rfl _ _ rfl w.heap.size _ _ rfl HO.o _ n _ l rfl HI.o (by simpa using hb) e7 ?_;intro v' w1 ho hg l7));go_ret;exact⟨⟨_,rfl,by simpa using ho⟩,al (Ext.alloc _ _) hg (fun k hk=>Nat.le_of_eq (Option.some.inj (show some w.heap.size=some k from hk)))⟩
theorem uz{k1 k2:Int}{cap:Nat}{A:j6}(h:r8 w a n cap A)(hbig:n<=1048576):
 Calls Tryz.prog 190 #[.slice a n cap,xO k1 k2] w fun e w'=>(∃v,e=.returned (.tuple #[v,.bool (Bo A (k1,k2)).isSome])/\l8 w' w.heap.size v ((Bo A (k1,k2)).getD []))/\Ext w w':=by
 have HL:=ae h.hlen;have l9:=h.l9;have o3:=h.o3;have HA:=ae h;have HX:=ae (Ext.alloc w (.cells #[.int .i64 k1,.int .i64 k2] 46));have HS:=ae (show Bo A (k1,k2)=runT (DI A (k1,k2)) n by unfold Bo;rw[h.hlen]);have HO:=ae (l8.made (w.alloc (.cells #[.int .i64 k1,.int .i64 k2] 46)) (w.heap.size+1) e7);clear h;go_enter Tryz.func190,Tryz.ntmps190
 go_wp2_with fail
 go_loopg [6,7] n (fun gk o i wr=>∃(k:Nat) (a1:j8) (n1 p1:Nat) (r:j6),b7 (gk+k=n)/\i=.int .i64 (k:Int)/\o=.slice a1 n1 p1/\b7 (runT (DI A (k1,k2)) k=some r)/\b7 (l8 wr (w.heap.size+1) (.slice a1 n1 p1) r)/\b7 (Ext (w.alloc (.cells #[.int .i64 k1,.int .i64 k2] 46)) wr))
 case atStart=>exact⟨0,_,_,_,[],ae b9,rfl,rfl,ae rfl,ae (by simpa using HO.o),ae (Ext.alloc _ _)⟩
 case round =>
  obtain⟨k,a1,n1,p1,r,U,rfl,rfl,HR,xC,xz⟩:=hrel;have Db:=xz.o.size;rw[World.size_alloc]at Db;by_cases hlt:k<n
  ·have u:wr.cell? ⟨w.heap.size,0,none⟩=some (.int .i64 k1):=xz.o.k6 e7;have Gx:wr.cell? ⟨w.heap.size,1,none⟩=some (.int .i64 k2):=xz.o.k6 e7;obtain⟨O,R,K,J,ha,Z,Bm,Bl⟩:=((HA.o.ext HX.o).ext xz.o).at hlt;subst ha;have Zp:=ae Z;obtain⟨p,q,one,hm⟩:∃p q ok,yH (K,J) (k1,k2)=((p,q),ok):=⟨_,_,_,rfl⟩;have HM:=ae hm;clear Z hm;go_upto_region 5 with fail
   go_cut [8,9] (fun sx so wx=>∃g:Nat,sx=.pointer (some ⟨g,0,none⟩)/\so=.bool one/\b7 (aj wr wx g p q))
   case first =>
    have k7:Ext wr wr.drew:=Ext.drew wr;have W:Ext wr (wr.alloc (.cells #[.int .i64 0,.int .i64 0] 46)).drew:=(Ext.alloc _ _).trans (Ext.drew _);have k8:=ae (fun(w':World) (h:Ext wr w')=>(⟨h.k6 u,h.k6 Gx,h.k6 Bm,h.k6 Bl,h⟩:w'.cell? ⟨w.heap.size,0,none⟩=some (.int .i64 k1)/\w'.cell? ⟨w.heap.size,1,none⟩=some (.int .i64 k2)/\w'.cell? ⟨O,R+k*2,none⟩=some (.int .i64 K)/\w'.cell? ⟨O,R+k*2+1,none⟩=some (.int .i64 J)/\Ext wr w'))
    go_region_held3 (fun w'=>w'.cell? ⟨w.heap.size,0,none⟩=some (.int .i64 k1)/\w'.cell? ⟨w.heap.size,1,none⟩=some (.int .i64 k2)/\w'.cell? ⟨O,R+k*2,none⟩=some (.int .i64 K)/\w'.cell? ⟨O,R+k*2+1,none⟩=some (.int .i64 J)/\Ext wr w')
     (first
       | with_reducible exact k8.o _ k7
       | with_reducible exact k8.o _ W
       | with_reducible exact k8.o _ ((k7.setCell (by first|(simp;done)|(simp;omega)) _).setCell (by first|(simp;done)|(simp;omega)) _)
       | with_reducible exact k8.o _ (k7.trans (Ext.alloc _ _))
       | with_reducible exact k8.o _ (r9.put _ _).ext)
     (first
       | (go_at_call 176
          (with_reducible refine(ri K J k1 k2 _).mono ?_)
          rw[HM.o];rintro e w3 ⟨rfl,G⟩
          first|(with_reducible have r9:=aj.grow r9 G)|(with_reducible have r9:=aj.xu G)|(with_reducible have r9:=aj.xA k7 G)|skip
          first|(have BQ:=r9.c0;have BP:=r9.c1;have C3:=r9.free)|skip
          have k7:Ext wr w3:=by first|with_reducible exact k7.trans G|with_reducible exact W.trans G|with_reducible exact(k7.trans (Ext.alloc _ _)).trans G
          have zr:=k7.size)
       | fail)
    all_goals(go_wp2_with fail;go_meet;first|exact⟨_,rfl,rfl,ae (r9.put _ _)⟩|exact⟨_,rfl,rfl,ae (aj.new k7 _ _)⟩|exact⟨_,rfl,rfl,ae (aj.new' k7 _ _ e7)⟩)
   obtain⟨g,rfl,rfl,I⟩:=hcut;have g0:=I.o.c0;have g1:=I.o.c1;have X2:=ae (xz.o.trans I.o.ext);have yE:=ae (xC.o.ext I.o.ext);have HF:=ae (show DI A (k1,k2) k=if one=true then some (p,q) else none by unfold DI;rw[Zp.o,HM.o]);have EO:=X2.o.size;rw[World.size_alloc]at EO;clear u Gx Bm Bl;cases one
   ·have HN:=ae (show runT (DI A (k1,k2)) n=none from fj HR.o (by rw[HF.o];rfl) hlt);go_wp2_with fail
    go_ret2
    exact⟨⟨_,eZ (by rw[HS.o,HN.o];rfl),by rw[HS.o,HN.o];exact l8.made _ _ b9⟩,HX.o.trans (X2.o.trans (Ext.alloc _ _))⟩
   ·have Eu:=ae (dB (x:=(p,q)) HR.o (by rw[HF.o];rfl));have zy:=ae (cU HR.o)
    go_wp2_with (first
     | (at_builtin;refine aG rfl _ _ rfl (w.heap.size+1) (.slice a1 n1 p1) _ rfl (yE.o.ext (Ext.alloc _ _)) _ 1 _ [(p,q)] rfl (r8.one' _ _ _ _ _ e7) (by rw[zy.o];omega) (by simp;omega) ?_;intro v2 w4 ho hg l7;obtain⟨a2,n2,c2,rfl,Fa⟩:=ho.var;have yW:=ae ho;have X5:=ae (al (X2.o.trans (Ext.alloc _ _)) hg (fun j hj=>by have:=(yE.o.lt j hj).1;simpa using this));clear ho hg l7))
    go_roundg (gk-1)
    case measure=>have:=U.o;omega
    case rel=>exact⟨k+1,a2,n2,c2,_,ae (j4 U.o),by go_num,rfl,Eu,yW,X5⟩
  ·have xQ:k=n:=by have:=U.o;omega
   subst xQ;go_wp2_with fail
   go_ret2
   exact⟨⟨_,eZ (by rw[HS.o,HR.o];rfl),by rw[HS.o,HR.o];exact xC.o.mono (Nat.le_succ _)⟩,HX.o.trans xz.o⟩
section
variable{w:World}{ra:j8}{rn rc:Nat}{ba:j8}{bn bc:Nat}{t:Tb}{n m:Nat}{T0:Nat->Nat->Rat}
structure TbN(w:World)(ra:j8)(rn rc:Nat)(ba:j8)(bn bc:Nat)(t:Tb)(n m:Nat):Prop where
 tb:EZ w ra m rc ba m bc t
 rn:rn=m
 bn:bn=m
 q8:t.q8=n
theorem xY.sizes(h:xY n m T0 t)(hc:EZ w ra rn rc ba bn bc t):rn=m/\bn=m:=⟨by rw[<-hc.rows.hlen];exact h.len,by rw[<-hc.basis.hlen];exact h.zP⟩
theorem jR(h:EZ w ra m rc ba m bc t)(hT:xY n m T0 t)(hn:n<=1000)(hm:m<=1000):
 Calls Tryz.prog 160 #[EB ra m rc ba m bc (n:Int)] w fun e w'=>e=.returned (.bool true)/\Ext w w':=by
 have wI:=Ext.alloc w (cg ra m rc ba m bc (n:Int));have wM:=ae wI;have H:=ae (h.ext wI);have Z:=ae (show(w.alloc (cg ra m rc ba m bc (n:Int))).heap[w.heap.size]?=some (.cells #[.slice ra m rc,.slice ba m bc,.int .i64 (n:Int)] 108 (0,0))from ak _ _ _ rfl);have h1:=h.rows.o3;have h2:=h.rows.l9;have h3:=h.basis.o3;have h4:=h.basis.l9;have HT:=ae hT;clear h hT wI;have F4:¬(n:Int)<0:=by omega
 have Bj:¬(n:Int) > 1000:=by omega
 have IU:((m:Int) != (m:Int))=false:=by simp
 go_enter Tryz.func160,Tryz.ntmps160
 go_wp2_with fail
 go_loopg [4] m (fun gk ii wr=>∃k:Nat,b7 (gk+k=m)/\ii=.int .i64 (k:Int)/\b7 (Ext (w.alloc (cg ra m rc ba m bc (n:Int))) wr))
 case atStart=>exact⟨0,ae b9,rfl,ae (Ext.refl _)⟩
 case round =>
  obtain⟨g1,r7⟩:=b8 gk;subst r7;obtain⟨G,o6⟩:=b8 wr;subst o6;obtain⟨k,u,rfl,HX⟩:=hrel;have p0:=au (HX.o.blk Z.o);have p1:=aH (HX.o.blk Z.o);have p2:=aI (HX.o.blk Z.o);by_cases hlt:k<m
  ·obtain⟨J,R,ya,yn,yc,Bt,y9,o9⟩:=(H.o.ext HX.o).rows.at hlt;subst Bt;have Dn:yn=n+m+1:=by rw[<-o9.hlen];exact(HT.o.row k hlt).1
   have xM:=o9.o3;have D1:=o9.l9;obtain⟨U,O,B2,W⟩:=(H.o.ext HX.o).basis.at hlt;subst B2;obtain⟨I,Df⟩:=b8 (t.basis[k]?.getD 0);rw[<-Df]at W;have Du:0<=I/\I<n+m:=by
    rw[Df,List.getElem?_eq_getElem (by rw[HT.o.zP];exact hlt)];exact HT.o.Dk _ (List.getElem_mem _)
   have Dx:=ae (fun w'=>bG I 0 ((n:Int)+(m:Int)-1) w');rw[show wJ I 0 ((n:Int)+(m:Int)-1)=true by unfold wJ;simp;omega]at Dx;have Ce:IntKind.i64.wrap ((n:Int)+(m:Int))=(n:Int)+(m:Int):=by rw[IntKind.wrap_i64];omega
   have A7:IntKind.i64.wrap ((n:Int)+(m:Int)+1)=(n:Int)+(m:Int)+1:=by rw[IntKind.wrap_i64];omega
   have AK:IntKind.i64.wrap ((n:Int)+(m:Int)-1)=(n:Int)+(m:Int)-1:=by rw[IntKind.wrap_i64];omega
   have FA:((yn:Int) != (n:Int)+(m:Int)+1)=false:=by simp;omega
   have FF:(0:Int)<=(k:Int):=by omega
   have BH:(k:Int)<(m:Int):=by omega
   clear o9 Dn Df Du;go_upto_region 7 with fail;have k7:Ext G G.drew:=Ext.drew G;have k8:=ae (fun(w':World) (h:Ext G w')=>(⟨h.k6 p0,h.k6 p1,h.k6 p2,h.k6 y9,h.k6 W,h⟩:w'.cell? ⟨w.heap.size,0,none⟩=some (.slice (some ⟨J,R,none⟩) m rc)/\w'.cell? ⟨w.heap.size,1,none⟩=some (.slice (some ⟨U,O,none⟩) m bc)/\w'.cell? ⟨w.heap.size,2,none⟩=some (.int .i64 (n:Int))/\w'.cell? ⟨J,R+k,none⟩=some (.slice ya yn yc)/\w'.cell? ⟨U,O+k,none⟩=some (.int .i64 I)/\Ext G w'));refine wp_region_held_drew (S:=(fun w'=>w'.cell? ⟨w.heap.size,0,none⟩=some (.slice (some ⟨J,R,none⟩) m rc)/\w'.cell? ⟨w.heap.size,1,none⟩=some (.slice (some ⟨U,O,none⟩) m bc)/\w'.cell? ⟨w.heap.size,2,none⟩=some (.int .i64 (n:Int))/\w'.cell? ⟨J,R+k,none⟩=some (.slice ya yn yc)/\w'.cell? ⟨U,O+k,none⟩=some (.int .i64 I)/\Ext G w')) e8 ?_ (fun k9=>?_)
   ·exact k8.o _ k7
   refine tk 0 ?_;refine tk 1 ?_;refine tk 2 ?_;refine tk 3 ?_;refine tk 4 ?_;refine tk 5 ?_;refine tk 6 ?_;refine tk 7 ?_;refine tk 8 ?_;refine tk 9 ?_;refine tk 10 ?_;refine tk 11 ?_;refine tk 12 ?_;refine tk 13 ?_;refine tk 14 ?_;refine tk 15 ?_;refine tk 16 ?_;refine tk 17 ?_;refine tk 18 ?_;refine tk 19 ?_;refine tk 20 ?_;refine tk 21 ?_;refine tk 22 ?_;refine rd (i:=23) (h:=fun K hK=>?_);go_simp
   (go_at_call 74;refine(Dx.o _).mono ?_;rintro e w3 ⟨rfl,rfl⟩)
   go_wp2_with fail;refine hK.out _ _ ?_ (fun k9=>?_)
   ·exact k8.o _ k7
   clear hK K
   try simp only[Act.put,sA,sB,sC]
   refine tk 24 ?_;refine tk 25 ?_;refine wpAnyH_done e8 ?_ _;have xZ:=ae (HX.o.trans k7);clear Ce A7 AK FA p0 p1 p2 y9 W;go_wp2_with fail
   go_roundg (g1-1)
   case measure=>have:=u.o;omega
   case rel=>exact⟨k+1,ae (j4 u.o),by go_num,xZ⟩
  ·have Bf:m=k:=by have:=u.o;omega
   subst Bf;go_wp2_with fail;go_ret;exact⟨rfl,wM.o.trans HX.o⟩
end
theorem ma(x y:Int)(w:World):Calls Tryz.prog 127 #[xO x y] w fun e w'=>e=.returned (.int .i64 (wU (x,y) (0,1)))/\Ext w w':=by
 obtain⟨W,hW⟩:=b8 (w.alloc (.cells #[.int .i64 x,.int .i64 y] 46));have HX:=ae (show Ext w W by rw[hW];exact Ext.alloc _ _);have c0:W.cell? ⟨w.heap.size,0,none⟩=some (.int .i64 x):=by rw[hW];simp
 have c1:W.cell? ⟨w.heap.size,1,none⟩=some (.int .i64 y):=by rw[hW];simp
 go_enter Tryz.func127,Tryz.ntmps127
 go_upto_region 1 with fail;rw[<-hW];clear hW;have k7:Ext W W.drew:=Ext.drew W;have I:=k7;have k8:=ae (fun(w':World) (h:Ext W w')=>(⟨h.k6 c0,h.k6 c1,h⟩:w'.cell? ⟨w.heap.size,0,none⟩=some (.int .i64 x)/\w'.cell? ⟨w.heap.size,1,none⟩=some (.int .i64 y)/\Ext W w'))
 go_region_held3 (fun w'=>w'.cell? ⟨w.heap.size,0,none⟩=some (.int .i64 x)/\w'.cell? ⟨w.heap.size,1,none⟩=some (.int .i64 y)/\Ext W w')
  (with_reducible exact k8.o _ k7)
  (first
    | (go_at_call 32
       (with_reducible refine(cl 0 _).mono ?_)
       rintro e w3 ⟨rfl,J⟩;have k7:Ext W w3:=k7.trans J
       have IS:=k7.size)
    | (go_at_call 118
       (with_reducible refine(eo x y 0 1 _).mono ?_)
       rintro e w4 ⟨rfl,G⟩;have k7:Ext W w4:=k7.trans G
       have Rk:=k7.size)
    | fail)
 clear k8 I;go_wp2_with fail;go_ret;exact⟨rfl,HX.o.trans k7⟩
theorem lX{ra:j8}{rn rc:Nat}{ba:j8}{bn bc:Nat}{x:Int}{cap:Nat}{costs:j6}(h:r8 w a n cap costs)(m:Nat)(hm:m<=n):
 Calls Tryz.prog 157 #[EB ra rn rc ba bn bc x,.slice a n cap,.int .i64 (m:Int)] w fun e w'=>e=.returned (.int .i64 (aX costs m))/\Ext w w':=by
 have wI:=Ext.alloc w (cg ra rn rc ba bn bc x);have wM:=ae wI;have H:=ae (h.ext wI);have yq:=h.o3;have AZ:=h.l9;have HL:=ae h.hlen;clear h wI;have hle:(m:Int)<=(n:Int):=by omega
 go_enter Tryz.func157,Tryz.ntmps157
 go_wp2_with fail
 go_loopg [7] m (fun gk ii wr=>∃k:Nat,b7 (gk+k=m)/\ii=.int .i64 (k:Int)/\b7 ((costs.take k).all (fun c=>!el c)=true)/\b7 (Ext (w.alloc (cg ra rn rc ba bn bc x)) wr))
 case atStart=>exact⟨0,ae b9,rfl,ae rfl,ae (Ext.refl _)⟩
 case round =>
  obtain⟨g1,R⟩:=b8 gk;subst R;obtain⟨U,W⟩:=b8 wr;subst W;obtain⟨k,G,rfl,HA,HX⟩:=hrel;by_cases hlt:k<m
  ·have K:k<n:=by omega
   obtain⟨zb,xJ,p,q,Z,J,y9,CE⟩:=(H.o.ext HX.o).at K;subst Z;have yt:=ae J;have HS:=ae (ma p q U);obtain⟨O,I⟩:=b8 (wU (p,q) (0,1));have CA:=ae (show el (p,q)=decide (O<0)by rw[I];rfl);rw[<-I]at HS;clear J I;by_cases B0:O<0
   ·have HR:=ae (show aX costs m=k from oG (by rw[HL.o];omega) hlt HA.o (by rw[yt.o,CA.o,decide_eq_true B0]));go_wp2_with fail;refine HS.o.mono ?_;rintro e w3 ⟨rfl,hx⟩;have X3:=ae (HX.o.trans hx);clear hx;go_wp2_with fail;go_ret;exact⟨aU HR.o.symm,wM.o.trans X3.o⟩
   ·have HT:=ae (lg (by rw[HL.o];exact K) yt.o HA.o (by rw[CA.o,decide_eq_false B0]));go_wp2_with fail;refine HS.o.mono ?_;rintro e w3 ⟨rfl,hx⟩;have X3:=ae (HX.o.trans hx);clear hx;go_wp2_with fail
    go_roundg (g1-1)
    case measure=>have:=G.o;omega
    case rel=>exact⟨k+1,ae (j4 G.o),by go_num,HT,X3⟩
  ·have u:m=k:=by have:=G.o;omega
   subst u;have HR:=ae (show aX costs m=-1 from lh (by rw[HL.o];omega) HA.o);go_wp2_with fail;go_ret;exact⟨aU HR.o.symm,wM.o.trans HX.o⟩
section
variable{w:World}{ra:j8}{rc:Nat}{ba:j8}{bc:Nat}{t:Tb}{n m:Nat}{T0:Nat->Nat->Rat}
theorem rq(h:EZ w ra m rc ba m bc t)(hT:xY n m T0 t)(hn:n<=1000)(hm:m<=1000){c:Nat}(hc:c<n):
 Calls Tryz.prog 158 #[EB ra m rc ba m bc (n:Int),.int .i64 (c:Int)] w fun e w'=>e=.returned (.int .i64 (bP t (c:Int)))/\Ext w w':=by
 have wI:=Ext.alloc w (cg ra m rc ba m bc (n:Int));have wM:=ae wI;have H:=ae (h.ext wI);have J:=ae (show(w.alloc (cg ra m rc ba m bc (n:Int))).heap[w.heap.size]?=some (.cells #[.slice ra m rc,.slice ba m bc,.int .i64 (n:Int)] 108 (0,0))from ak _ _ _ rfl);have yC:=h.rows.o3;have AX:=h.rows.l9;have zN:=h.basis.o3;have zx:=h.basis.l9;have HT:=ae hT
 have HR:=ae (show bP t (c:Int)=(bO t c m).1 by
  unfold bP
  rw[if_pos (by rw[hT.ok hn,hT.q8,hT.len];simp[wJ];omega),hT.len,Int.toNat_natCast])
 have HG:=ae (jR H.o hT hn hm);obtain⟨u,hu⟩:=b8 (n+m);have HU:=ae (show u=t.q8.toNat+t.rows.length by rw[hT.q8,hT.len,Int.toNat_natCast];exact hu);have Vu:=ae hu;have Dx:=ae (fun w'=>bG (c:Int) 0 ((n:Int)+(m:Int)-1) w');rw[show wJ (c:Int) 0 ((n:Int)+(m:Int)-1)=true by unfold wJ;simp;omega]at Dx;have Ce:IntKind.i64.wrap ((n:Int)+(m:Int))=(n:Int)+(m:Int):=by rw[IntKind.wrap_i64];omega
 have AK:IntKind.i64.wrap ((n:Int)+(m:Int)-1)=(n:Int)+(m:Int)-1:=by rw[IntKind.wrap_i64];omega
 clear h hT wI hu;go_enter Tryz.func158,Tryz.ntmps158
 go_upto_region 1 with fail;obtain⟨W,hW⟩:=b8 (w.alloc (cg ra m rc ba m bc (n:Int)));rw[<-hW]at wM H J HG;rw[<-hW];clear hW;have p0:=au J.o;have p1:=aH J.o;have p2:=aI J.o;go_wp2_with fail;refine HG.o.mono ?_;rintro e w1 ⟨rfl,hx⟩;have X1:=ae hx;clear hx p0 p1 p2;have p0:=au (X1.o.blk J.o);have p2:=aI (X1.o.blk J.o);have Bh:=ae (aj.new (Ext.refl w1) 0 0);go_wp2_with (first|(go_at_call 74;refine(Dx.o _).mono ?_;rintro e w2 ⟨rfl,rfl⟩));clear AK
 go_loopg [5,7] m (fun gk bst ii wr=>∃(k:Nat) (st l1 l2:Int),b7 (gk+k=m)/\ii=.int .i64 (k:Int)/\bst=.int .i64 st/\b7 (bO t c k=(st,(l1,l2)))/\b7 (aj w1 wr w1.heap.size l1 l2))
 case atStart=>exact⟨0,-1,0,0,ae b9,rfl,rfl,ae rfl,Bh⟩
 case round =>
  obtain⟨g1,r7⟩:=b8 gk;subst r7;obtain⟨o7,o6⟩:=b8 wr;subst o6;obtain⟨k,st,l1,l2,R,rfl,rfl,HL,HB⟩:=hrel;have XR:=ae (X1.o.trans HB.o.ext);clear p0 p2;have p0:=au (XR.o.blk J.o);by_cases hlt:k<m
  ·obtain⟨zb,xJ,za,zn,zc,Bt,y9,o9⟩:=(H.o.ext XR.o).rows.at hlt;subst Bt;have Js:zn=u+1:=by rw[<-o9.hlen,Vu.o];exact(HT.o.row k hlt).1
   have HZN:=ae Js;have Mn:=o9.o3;have WJ:=o9.l9;have Ay:=ae o9;have hcz:c<zn:=by have:=Vu.o;omega
   obtain⟨yb,xB,p,q,Da,xk,AJ,xM⟩:=o9.at hcz;subst Da;have yt:=ae (show t.at k c=(p,q)from xk);have hczI:(c:Int)<(zn:Int):=by omega
   clear xk o9 Js;obtain⟨E,hE⟩:=b8 (o7.alloc (.cells #[.int .i64 p,.int .i64 q] 46));obtain⟨gp,Z⟩:=b8 o7.heap.size;have zw:Ext o7 E:=by rw[hE];exact Ext.alloc _ _
   have Hh:=ae (show aj o7 E gp p q by rw[hE,Z];exact aj.new (Ext.refl _) _ _);have VE:=ae (HB.o.grow zw);go_upto_region 9 with fail;rw[<-hE,<-Z];clear hE Z zw p0 y9 AJ xM;have XE:=ae (X1.o.trans VE.o.ext);have p0:=au (XE.o.blk J.o);have p2:=aI (XE.o.blk J.o);obtain⟨zb',KA,za',UT,zc',D0,y9,Gu⟩:=(H.o.ext XE.o).rows.at hlt;simp only[Option.some.injEq,Addr.mk.injEq,and_true]at D0;obtain⟨rfl,rfl⟩:=D0;have V3:UT=u+1:=by rw[<-Gu.hlen,Vu.o];exact(HT.o.row k hlt).1
   have HZN':=ae V3;obtain⟨ub,Hk,p',q',ZD,Mq,Wn,Rf⟩:=Gu.at (show u<UT by omega);subst ZD;have hrc':=Gu.o3;have hrm':=Gu.l9;have YF:=ae (show t.at k u=(p',q')from Mq);have e0:=Hh.o.c0;have e1:=Hh.o.c1;obtain⟨d1,d2,DH,hdd⟩:∃x y ok,yH (p',q') (p,q)=((x,y),ok):=⟨_,_,_,rfl⟩;have CV:=ae hdd;have Rc:IntKind.i64.wrap ((n:Int)+(m:Int))=(u:Int):=by have:=Vu.o;rw[IntKind.wrap_i64];omega
   have Od:(0:Int)<=(u:Int):=by omega
   have IN:(u:Int)<(UT:Int):=by omega
   have FF:(0:Int)<=(k:Int):=by omega
   have BH:(k:Int)<(m:Int):=by omega
   clear Mq hdd Gu V3 Ce;go_upto_region 9 with fail
   go_cut [9,10] (fun sx so wx=>∃g:Nat,sx=.pointer (some ⟨g,0,none⟩)/\so=.bool DH/\b7 (aj E wx g d1 d2))
   case first =>
    have k7:Ext E E.drew:=Ext.drew E;have xI:Ext E (E.alloc (.cells #[.int .i64 0,.int .i64 0] 46)).drew:=(Ext.alloc _ _).trans (Ext.drew _);have k8:=ae (fun(w':World) (h:Ext E w')=>(⟨h.k6 p0,h.k6 p2,h.k6 y9,h.k6 Wn,h.k6 Rf,h.k6 e0,h.k6 e1,h⟩:w'.cell? ⟨w.heap.size,0,none⟩=some (.slice (some ⟨zb,xJ,none⟩) m rc)/\w'.cell? ⟨w.heap.size,2,none⟩=some (.int .i64 (n:Int))/\w'.cell? ⟨zb,xJ+k,none⟩=some (.slice (some ⟨ub,Hk,none⟩) UT zc')/\w'.cell? ⟨ub,Hk+u*2,none⟩=some (.int .i64 p')/\w'.cell? ⟨ub,Hk+u*2+1,none⟩=some (.int .i64 q')/\w'.cell? ⟨gp,0,none⟩=some (.int .i64 p)/\w'.cell? ⟨gp,1,none⟩=some (.int .i64 q)/\Ext E w'))
    go_region_held3 (fun w'=>w'.cell? ⟨w.heap.size,0,none⟩=some (.slice (some ⟨zb,xJ,none⟩) m rc)/\w'.cell? ⟨w.heap.size,2,none⟩=some (.int .i64 (n:Int))/\w'.cell? ⟨zb,xJ+k,none⟩=some (.slice (some ⟨ub,Hk,none⟩) UT zc')/\w'.cell? ⟨ub,Hk+u*2,none⟩=some (.int .i64 p')/\w'.cell? ⟨ub,Hk+u*2+1,none⟩=some (.int .i64 q')/\w'.cell? ⟨gp,0,none⟩=some (.int .i64 p)/\w'.cell? ⟨gp,1,none⟩=some (.int .i64 q)/\Ext E w')
     (first
       | with_reducible exact k8.o _ k7
       | with_reducible exact k8.o _ xI
       | with_reducible exact k8.o _ ((k7.setCell (by first|(simp;done)|(simp;omega)) _).setCell (by first|(simp;done)|(simp;omega)) _)
       | with_reducible exact k8.o _ (k7.trans (Ext.alloc _ _))
       | with_reducible exact k8.o _ (r9.put _ _).ext)
     (first
       | (go_at_call 176
          (with_reducible refine(ri p' q' p q _).mono ?_)
          rw[CV.o];rintro e w5 ⟨rfl,wH⟩
          first|(with_reducible have r9:=aj.grow r9 wH)|(with_reducible have r9:=aj.xu wH)|(with_reducible have r9:=aj.xA k7 wH)|skip
          first|(have BQ:=r9.c0;have BP:=r9.c1;have C3:=r9.free)|skip
          have k7:Ext E w5:=by first|with_reducible exact k7.trans wH|with_reducible exact xI.trans wH|with_reducible exact(k7.trans (Ext.alloc _ _)).trans wH
          have zr:=k7.size)
       | fail)
    all_goals(go_wp2_with fail;go_meet;first|exact⟨_,rfl,rfl,ae (r9.put _ _)⟩|exact⟨_,rfl,rfl,ae (aj.new k7 _ _)⟩|exact⟨_,rfl,rfl,ae (aj.new' k7 _ _ e7)⟩)
   obtain⟨g,rfl,rfl,xT⟩:=hcut;clear Rc Od IN p0 p2 y9 Wn Rf e0 e1;have Jm:=ae (VE.o.grow xT.o.ext);have Zl:=ae (Hh.o.grow xT.o.ext);have e0:=Zl.o.c0;have e1:=Zl.o.c1;have HS:=ae (ma p q wc);obtain⟨sg,Cf⟩:=b8 (wU (p,q) (0,1));have CA:=ae Cf;rw[<-Cf]at HS;clear Cf;by_cases B0:sg<=0
   ·have zW:=ae (show bO t c (k+1)=(st,(l1,l2))by
     show dG _ c (bO _ c k) k=_
     rw[HL.o];exact qI yt.o (by rw[<-CA.o];exact B0))
    go_wp2_with fail;refine HS.o.mono ?_;rintro e w3 ⟨rfl,hx⟩;have U:=ae (Jm.o.grow hx);clear hx;go_wp2_with fail
    go_roundg (g1-1)
    case measure=>have:=R.o;omega
    case rel=>exact⟨k+1,st,l1,l2,ae (j4 R.o),by go_num,rfl,zW,U⟩
   ·have Hc:=ae B0;cases DH
    ·have zW:=ae (show bO t c (k+1)=(st,(l1,l2))by
      show dG _ c (bO _ c k) k=_
      rw[HL.o];exact qJ HU.o yt.o YF.o (by rw[<-CA.o];have:=Hc.o;omega) (by rw[CV.o]))
     go_wp2_with fail;refine HS.o.mono ?_;rintro e w3 ⟨rfl,hx⟩;have U:=ae (Jm.o.grow hx);clear hx;go_wp2_with fail
     go_roundg (g1-1)
     case measure=>have:=R.o;omega
     case rel=>exact⟨k+1,st,l1,l2,ae (j4 R.o),by go_num,rfl,zW,U⟩
    ·go_wp2_with fail;refine HS.o.mono ?_;rintro e w3 ⟨rfl,hx⟩;have U:=ae (Jm.o.grow hx);have EA:=ae (xT.o.grow hx);have g0:=EA.o.c0;have g1':=EA.o.c1;have b0:=U.o.c0;have b1:=U.o.c1;have Cr:=ae (eo d1 d2 l1 l2 w3);obtain⟨cc,I⟩:=b8 (wU (d1,d2) (l1,l2));have OT:=ae I;rw[<-I]at Cr;clear I hx e0 e1;go_wp2_with fail;refine Cr.o.mono ?_;rintro e w6 ⟨rfl,hx⟩;have Bw:=ae (U.o.grow hx);have R':=ae (EA.o.grow hx);clear hx g0 g1' b0 b1;have X6:=ae (X1.o.trans Bw.o.ext);have c1:=aH (X6.o.blk J.o);obtain⟨O,K,B2,yT⟩:=(H.o.ext X6.o).basis.at hlt;subst B2;obtain⟨bi,Ck⟩:=b8 (t.basis[k]?.getD 0);have GU:=ae Ck;rw[<-Ck]at yT;clear Ck;have Ct:=ae (iW t c k)
     have HUP:=ae (fun G (zd:t.basis[st.toNat]?.getD 0=G)=>show bO t c (k+1)=if BV st cc bi G=true then((k:Int),(d1,d2)) else(st,(l1,l2))by
      show dG _ c (bO _ c k) k=_;rw[HL.o,OT.o]
      exact qK HU.o yt.o YF.o (by rw[<-CA.o];have:=Hc.o;omega) CV.o GU.o.symm zd)
     go_upto_region 12 with fail
     go_cut [93] (fun s82 wx=>∃G:Int,s82=.bool (BV st cc bi G)/\b7 (t.basis[st.toNat]?.getD 0=G)/\b7 (Ext w6 wx))
     case first =>
      have k7:Ext w6 w6.drew:=Ext.drew w6;by_cases hst:st<0
      ·have I1:decide (st<0)=true:=decide_eq_true hst;refine wp_region_held_drew (S:=(fun w'=>w'.cell? ⟨w.heap.size,1,none⟩=some (.slice (some ⟨O,K,none⟩) m bc)/\w'.cell? ⟨O,K+k,none⟩=some (.int .i64 bi)/\Ext w6 w')) e8 ?_ (fun k9=>?_)
       ·exact⟨k7.k6 c1,k7.k6 yT,k7⟩
       refine tk 0 ?_;refine tk 1 ?_;refine tk 2 ?_;refine sk 3 ?_;refine sk 4 ?_;refine tk 5 ?_;refine tk 6 ?_;refine sk 7 ?_;refine sk 8 ?_;refine sk 9 ?_;refine sk 10 ?_;refine sk 11 ?_;refine sk 12 ?_;refine sk 13 ?_;refine sk 14 ?_;refine sk 15 ?_;refine sk 16 ?_;refine sk 17 ?_;refine sk 18 ?_;refine sk 19 ?_;refine sk 20 ?_;refine sk 21 ?_;refine tk 22 ?_;refine wpAnyH_done e8 ?_ _;go_wp2_with fail;go_meet;exact⟨_,by unfold BV;rw[I1];rfl,ae rfl,ae k7⟩
      ·have I1:decide (st<0)=false:=decide_eq_false b9;obtain⟨sn,rfl⟩:∃sn:Nat,st=sn:=⟨st.toNat,by omega⟩;have IP:sn<m:=by have:=Ct.o;rw[HL.o]at this;simp only at this;omega
       obtain⟨fb,Ei,Tq,IY⟩:=(H.o.ext X6.o).basis.at IP;simp only[Option.some.injEq,Addr.mk.injEq,and_true]at Tq;obtain⟨rfl,rfl⟩:=Tq;obtain⟨G,zd⟩:=b8 (t.basis[sn]?.getD 0);have AF:=ae (show t.basis[Int.toNat (sn:Int)]?.getD 0=G by rw[Int.toNat_natCast,zd]);rw[<-zd]at IY;have hs0':(0:Int)<=(sn:Int):=by omega
       have WE:(sn:Int)<(m:Int):=by omega
       clear zd;by_cases I:cc<0
       ·have FI:decide (cc<0)=true:=decide_eq_true I;refine wp_region_held_drew (S:=(fun w'=>w'.cell? ⟨w.heap.size,1,none⟩=some (.slice (some ⟨O,K,none⟩) m bc)/\w'.cell? ⟨O,K+k,none⟩=some (.int .i64 bi)/\Ext w6 w')) e8 ?_ (fun k9=>?_)
        ·exact⟨k7.k6 c1,k7.k6 yT,k7⟩
        refine tk 0 ?_;refine tk 1 ?_;refine tk 2 ?_;refine tk 3 ?_;refine tk 4 ?_;refine tk 5 ?_;refine tk 6 ?_;refine sk 7 ?_;refine sk 8 ?_;refine sk 9 ?_;refine sk 10 ?_;refine sk 11 ?_;refine sk 12 ?_;refine sk 13 ?_;refine sk 14 ?_;refine sk 15 ?_;refine sk 16 ?_;refine sk 17 ?_;refine sk 18 ?_;refine sk 19 ?_;refine sk 20 ?_;refine sk 21 ?_;refine tk 22 ?_;refine wpAnyH_done e8 ?_ _;go_wp2_with fail;go_meet;exact⟨G,by unfold BV;rw[I1,FI];rfl,AF,ae k7⟩
       ·have FI:decide (cc<0)=false:=decide_eq_false b9;by_cases y5:cc=0
        ·subst y5;refine wp_region_held_drew (S:=(fun w'=>w'.cell? ⟨w.heap.size,1,none⟩=some (.slice (some ⟨O,K,none⟩) m bc)/\w'.cell? ⟨O,K+k,none⟩=some (.int .i64 bi)/\w'.cell? ⟨O,K+sn,none⟩=some (.int .i64 G)/\Ext w6 w')) e8 ?_ (fun k9=>?_)
         ·exact⟨k7.k6 c1,k7.k6 yT,k7.k6 IY,k7⟩
         refine tk 0 ?_;refine tk 1 ?_;refine tk 2 ?_;refine tk 3 ?_;refine tk 4 ?_;refine tk 5 ?_;refine tk 6 ?_;refine tk 7 ?_;refine tk 8 ?_;refine tk 9 ?_;refine tk 10 ?_;refine tk 11 ?_;refine tk 12 ?_;refine tk 13 ?_;refine tk 14 ?_;refine tk 15 ?_;refine tk 16 ?_;refine tk 17 ?_;refine tk 18 ?_;refine tk 19 ?_;refine tk 20 ?_;refine tk 21 ?_;refine tk 22 ?_;refine wpAnyH_done e8 ?_ _;go_wp2_with fail;go_meet;exact⟨G,by unfold BV;rw[I1];rfl,AF,ae k7⟩
        ·have P8:(cc == 0)=false:=by simp;omega
         refine wp_region_held_drew (S:=(fun w'=>w'.cell? ⟨w.heap.size,1,none⟩=some (.slice (some ⟨O,K,none⟩) m bc)/\w'.cell? ⟨O,K+k,none⟩=some (.int .i64 bi)/\Ext w6 w')) e8 ?_ (fun k9=>?_)
         ·exact⟨k7.k6 c1,k7.k6 yT,k7⟩
         refine tk 0 ?_;refine tk 1 ?_;refine tk 2 ?_;refine tk 3 ?_;refine tk 4 ?_;refine tk 5 ?_;refine tk 6 ?_;refine tk 7 ?_;refine tk 8 ?_;refine tk 9 ?_;refine sk 10 ?_;refine sk 11 ?_;refine sk 12 ?_;refine sk 13 ?_;refine sk 14 ?_;refine sk 15 ?_;refine sk 16 ?_;refine sk 17 ?_;refine sk 18 ?_;refine sk 19 ?_;refine sk 20 ?_;refine tk 21 ?_;refine tk 22 ?_;refine wpAnyH_done e8 ?_ _;go_wp2_with fail;go_meet;exact⟨G,by unfold BV;rw[I1,FI,decide_eq_false y5];rfl,AF,ae k7⟩
     obtain⟨G,rfl,AF,Uf⟩:=hcut;have Cb:=ae (Bw.o.grow Uf.o);have JV:=ae (R'.o.grow Uf.o);have Yu:=ae (HUP.o G AF.o);clear c1 yT;cases Md:BV st cc bi G
     ·have zW:=ae (show bO t c (k+1)=(st,(l1,l2))by rw[Yu.o,Md];rfl);go_wp2_with fail
      go_roundg (g1-1)
      case measure=>have:=R.o;omega
      case rel=>exact⟨k+1,st,l1,l2,ae (j4 R.o),by go_num,rfl,zW,Cb⟩
     ·have zW:=ae (show bO t c (k+1)=((k:Int),(d1,d2))by rw[Yu.o,Md];rfl);have g0:=JV.o.c0;have g1':=JV.o.c1;have b0:=Cb.o.c0;have b1:=Cb.o.c1;have bf:=Cb.o.free;have UO:=ae (Cb.o.put d1 d2);go_wp2_with fail
      go_roundg (g1-1)
      case measure=>have:=R.o;omega
      case rel=>exact⟨k+1,(k:Int),d1,d2,ae (j4 R.o),by go_num,rfl,zW,UO⟩
  ·have xQ:m=k:=by have:=R.o;omega
   subst xQ;have HY:=ae (show bP t (c:Int)=st by rw[HR.o,HL.o]);go_wp2_with fail;go_ret;exact⟨aU HY.o.symm,wM.o.trans XR.o⟩
end
end Go.Proofs.YtalmoolkhcgmmaaGreat
