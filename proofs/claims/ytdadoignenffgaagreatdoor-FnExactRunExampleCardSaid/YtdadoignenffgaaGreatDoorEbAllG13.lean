import Derived.Test.YtdadoignenffgaaGreatDoorEbAllG6
import Derived.Test.YtdadoignenffgaaGreatDoorEbAllG9
set_option linter.unusedVariables false
set_option linter.unusedSimpArgs false
namespace Go.Proofs.YtdadoignenffgaaGreatDoor
variable{A:j5}{k FU:Nat}
set_option maxHeartbeats 16000000
theorem QY{B:j7}{C:j4}(ok:zM A B C=true){r:BQ}(h:Bd A B C=some r)(hs:r.status=1):
 r.Y.length=B.length/\o9 r.value=true/\(∀k,k<r.Y.length->o9 (r.Y[k]?.getD (0,0))=true):=by
 obtain⟨h1,h2,h3,h4,h5,h6⟩:=fJ ok;unfold Bd at h;rw[h3]at h;cases e1:aY (ee C.length A.length) 1000 (bV A B C.length)with
 | none=>rw[e1]at h;cases h
 | some p1 =>
   rw[e1]at h;simp only[G3]at h
   split at h
   ·rw[U']at h;obtain⟨Y,_,rfl⟩:=h;cases hs
   ·cases e2:bv C.length (p1.t,p1.left) A.length with
    | none=>rw[e2]at h;cases h
    | some s =>
      rw[e2]at h;simp only[G3]at h;rw[U']at h;obtain⟨p2,e3,h⟩:=h
      split at h
      ·subst h;cases hs
      ·have i1:=(dR (ip ok) e1).1;have i2:=(fG (s:=(p1.t,p1.left)) i1 e2).1;obtain⟨i3,e4,_⟩:=dR i2 e3;obtain⟨c1,c2⟩:=eu i3 e4;subst h;refine⟨by simp[h3],?_,fun k hk=>?_⟩
       ·simp only;rw[dI];exact c1.2 _ e7
       ·simp only[zo,acg]at hk;simp only;rw[MD,aak hk,Tc,l'];have hv:=c1.2 (C.length+k) e7;unfold dY BX
        split
        ·rw[dI,dI];exact hv
        ·rw[dI];exact hv
theorem gM{bound:j5->j4->j4->Nat->Bool}{B:j7}{C:j4}(h:(bD bound A B C).status=1):
 zM A B C=true/\Bd A B C=some (bD bound A B C)/\aK bound A B C (bD bound A B C)=true/\(bD bound A B C).Y.length=B.length/\o9 (bD bound A B C).value=true/\∀k,k<(bD bound A B C).Y.length->o9 ((bD bound A B C).Y[k]?.getD (0,0))=true:=by
 cases ok:zM A B C with
 | false=>unfold bD at h;rw[hD (by rw[ok];simp)]at h;cases h
 | true =>
   cases hr:Bd A B C with
   | none =>
     have e:bD bound A B C=aV 4:=by unfold bD;rw[hI ok,hr]
     rw[e]at h;cases h
   | some r =>
     have e:bD bound A B C=if aK bound A B C r=true then r else aV 4:=by unfold bD;rw[hI ok,hr]
     by_cases hc:aK bound A B C r=true
     ·rw[hI hc]at e;rw[e]at h⊢;have:=QY ok hr h;exact⟨rfl,rfl,hc,this⟩
     ·rw[hD hc]at e;rw[e]at h;cases h
set_option maxRecDepth 100000
open Go.RowKit
theorem ia(p:Nat->Bool)(k:Nat):(List.range (k+1)).all p=((List.range k).all p&&p k):=by
 rw[TP,RN];simp
theorem dz{p:Nat->Bool}{n:Nat}(h:k<n)(hp:p k=false):(List.range n).all p=false:=by
 rw[abg];exact⟨k,S4.2 h,by simp[hp]⟩
theorem su(x:Int)(w:World):Calls Tryz.prog 189 #[.int .i64 x] w fun e w'=>e=.returned (.bool (!r9 x (-5000) 5000))/\w=w':=by
 go_enter Tryz.func189,Tryz.ntmps189
 go_wp2_with (first|(go_at_call 61;refine(aq _ _ _ _).mono ?_;rintro e w' ⟨rfl,rfl⟩));go_ret;exact⟨rfl,rfl⟩
theorem kD:IsGo Tryz.prog 189:=isGo Tryz.func189 e9 e9
theorem js(w:World):FJ Tryz.prog w 189 #[] (fun x=>!r9 x (-5000) 5000) :=
 fun x w1 _=>(su x w1).mono fun e w' ⟨he,hw⟩=>⟨he,hw▸Ext.refl _⟩
def ef(m:Nat)(r:j7):Bool:=decide (r.length=m)&&r.all (r9 · (-5000) 5000)
theorem pA(l:j7):l.any (fun x=>!r9 x (-5000) 5000)=!l.all (r9 · (-5000) 5000):=by rw[List.not_all_eq_any_not]
theorem jQ(A:j5)(B:j7)(C:j4):zM A B C=(decide (C.length<=70)&&(decide (A.length<=8)&&(decide (B.length=A.length)&&(Bb C&&(A.all (ef C.length)&&B.all (r9 · (-5000) 5000)))))):=rfl
theorem qa{p:j7->Bool}{l:j5}(h:k<l.length):(l.take (k+1)).all p=((l.take k).all p&&p (l[k]?.getD [])):=by
 rw[eF h];simp
theorem iw{p:j7->Bool}{l:j5}(h:k<l.length)(hb:p (l[k]?.getD [])=false):l.all p=false:=by
 rw[abg];exact⟨l[k],vl h,by rw[bk h]at hb;simpa using hb⟩
section
variable{w:World}{a:j6}{na ca:Nat}{b:j6}{nb cb:Nat}{c:j6}{nc cc:Nat}{A:j5}{B:j7}{C:j4}
theorem eJ(h:EA w a na ca b nb cb c nc cc A B C):
 Calls Tryz.prog 128 #[DD a na ca b nb cb c nc cc] w fun e w'=>e=.returned (.bool (zM A B C))/\Ext w w':=by
 have y9:=Ext.alloc w (bj a na ca b nb cb c nc cc);have y7:=ae y9;have H:=ae (h.ext y9);have HE:=ae (jQ A B C);have Mq:=h.a.l8;have Mp:=h.a.l9;have AS:=h.b.l8;have AD:=h.b.l9;have Ba:=h.c.l8;have CY:=h.c.l9;have CG:=ae h.a.hlen;have AO:=ae h.b.hlen;have BE:=ae h.c.hlen;clear h y9;by_cases h1:nc<=70
 ·by_cases h2:na<=8
  ·by_cases h3:nb=na
   ·subst h3;have Bg:((nb:Int) != (nb:Int))=false:=by simp
    have CU:=ae (show zM A B C=(Bb C&&(A.all (ef nc)&&B.all (r9 · (-5000) 5000)))by
     rw[HE.o,CG.o,AO.o,BE.o,z' h1,z' h2,z' rfl];rfl)
    have HV:=ae (oB H.o.c);cases hv:Bb C
    ·rw[hv]at HV CU;clear hv;go_enter acH,aco
     go_wp2_with fail;refine HV.o.mono ?_;rintro e w1 ⟨rfl,hx⟩;have X1:=ae (y7.o.trans hx);clear hx;go_wp2_with fail;go_ret;exact⟨ag CU.o.symm,X1.o⟩
    ·rw[hv]at HV CU;clear hv;go_enter acH,aco
     go_wp2_with fail;refine HV.o.mono ?_;rintro e w1 ⟨rfl,hx⟩;have AB:w1.cell? ⟨w.heap.size,0,none⟩=some (.slice a nb ca):=hx.j9 e8;have J:w1.cell? ⟨w.heap.size,1,none⟩=some (.slice b nb cb):=hx.j9 e8;have G:w1.cell? ⟨w.heap.size,2,none⟩=some (.slice c nc cc):=hx.j9 e8;have Mb:=ae J;have ME:=ae G;have H1:=ae (H.o.ext hx);have X1:=ae (y7.o.trans hx);clear hx J G;go_wp2_with fail
     go_loopg [34] nb (fun gk ii wr=>∃k:Nat,b7 (gk+k=nb)/\ii=.int .i64 (k:Int)/\b7 ((A.take k).all (ef nc)=true)/\b7 (Ext w1 wr))
     case atStart=>exact⟨0,ae e7,rfl,ae rfl,ae (Ext.refl _)⟩
     case round =>
      obtain⟨g1,U⟩:=b9 gk;subst U;obtain⟨o6,Z⟩:=b9 wr;subst Z;obtain⟨k,K,rfl,HA,HX⟩:=hrel;clear AB;by_cases hlt:k<nb
      ·obtain⟨gb,DU,ra,rn,rc,Oz,Ku,o8⟩:=(H1.o.ext HX.o).a.at hlt;subst Oz;have G:=HX.o.j9 ME.o;have O:=ae o8.hlen;have CP:=o8.l8;have Yo:=o8.l9;have QB:=ae (show k<A.length by rw[CG.o];exact hlt);have I:=ae (de o8 kD (js _));clear o8;cases hl:((rn:Int) != (nc:Int))
       ·cases hr:(A[k]?.getD []).all (r9 · (-5000) 5000)
        ·have HF:=ae (show zM A B C=false by
          rw[CU.o,iw QB.o (by unfold ef;rw[hr];simp)];rfl)
         rw[pA,hr]at I;clear hr;go_wp2_with fail;refine I.o.mono ?_;rintro e w2 ⟨rfl,zJ⟩;have X2:=ae ((X1.o.trans HX.o).trans zJ);clear zJ;go_wp2_with fail;go_ret;exact⟨ag HF.o.symm,X2.o⟩
        ·have HT:=ae (show(A.take (k+1)).all (ef nc)=true by
          rw[qa QB.o,HA.o];unfold ef;rw[hr,O.o];simp at hl⊢;omega)
         rw[pA,hr]at I;clear hr;go_wp2_with fail;refine I.o.mono ?_;rintro e w2 ⟨rfl,zJ⟩;have X2:=ae (HX.o.trans zJ);clear zJ;go_wp2_with fail
         go_roundg (g1-1)
         case measure=>have:=K.o;omega
         case rel=>exact⟨k+1,ae (j1 K.o),by go_num,HT,X2⟩
       ·have HF:=ae (show zM A B C=false by
         rw[CU.o,iw QB.o (by unfold ef;rw[O.o,u' (by simp at hl;omega)];rfl)];rfl)
        go_wp2_with fail;go_ret;exact⟨ag HF.o.symm,X1.o.trans HX.o⟩
      ·have Q:nb=k:=by have:=K.o;omega
       subst Q;have HT:=ae (show A.all (ef nc)=true by have:=HA.o;rwa [p4 (by rw[CG.o];exact ao _)]at this);have J:=HX.o.j9 Mb.o;have I:=ae (de (H1.o.ext HX.o).b kD (js _));rw[pA]at I;go_wp2_with fail;refine I.o.mono ?_;rintro e w2 ⟨rfl,zJ⟩;have X2:=ae ((X1.o.trans HX.o).trans zJ);clear zJ;go_wp2_with fail;go_ret;exact⟨ag (by rw[CU.o,HT.o];simp),X2.o⟩
   ·have HF:=ae (show zM A B C=false by rw[HE.o,CG.o,AO.o,u' h3];simp);have Bg:((nb:Int) != (na:Int))=true:=by simp;omega
    go_enter acH,aco
    go_wp2_with fail;go_ret;exact⟨ag HF.o.symm,y7.o⟩
  ·have HF:=ae (show zM A B C=false by rw[HE.o,CG.o,u' h2];simp);go_enter acH,aco
   go_wp2_with fail;go_ret;exact⟨ag HF.o.symm,y7.o⟩
 ·have HF:=ae (show zM A B C=false by rw[HE.o,BE.o,u' h1];simp);go_enter acH,aco
  go_wp2_with fail;go_ret;exact⟨ag HF.o.symm,y7.o⟩
end
theorem fZ{r:j7}(h:∀x∈r,-5000<=x/\x<=5000):en r=az r:=by
 unfold en Eu;rw[hI];rw[Di];intro x hx;have:=h x hx;simp[r9];omega
def gD(A:j5)(x:j4)(B:j7)(i:Nat):Bool:=decide (zr (az (A[i]?.getD [])) x=some (B[i]?.getD 0,1))
theorem qs(A:j5)(x:j4)(B:j7):dC A x B=(List.range A.length).all (gD A x B):=rfl
theorem uY{w:World}{a:j6}{na ca:Nat}{b:j6}{nb cb:Nat}{c:j6}{nc cc:Nat}(h:cH w a na ca A){xa:j6}{xn:Nat}{X:j4}(hX:Rats w xa xn FU X)
 {da:j6} {O Pm:Nat} {D:j7} (Q:Ints w da O Pm D) (RM:na<=O) (o8:∀i,i<na->(A[i]?.getD []).length<=70/\∀x∈A[i]?.getD [],-5000<=x/\x<=5000) :
 Calls Tryz.prog 200 #[DD a na ca b nb cb c nc cc,.slice xa xn FU,.slice da O Pm] w fun e w'=>e=.returned (.bool (dC A X D))/\Ext w w':=by
 have y9:=Ext.alloc w (bj a na ca b nb cb c nc cc);have y7:=ae y9;have HI:=ae (h.ext y9);have DL:=ae (hX.ext y9);have EH:=ae (Q.ext y9);have CZ:=ae o8;have Mq:=h.l8;have Mp:=h.l9;have Ir:=Q.l8;have RO:=Q.l9;have CG:=ae h.hlen;have HE:=ae (show dC A X D=(List.range na).all (gD A X D)by rw[qs,CG.o]);clear h hX Q y9 o8;go_enter Tryz.func200,Tryz.ntmps200
 go_wp2_with fail
 go_loopg [14] na (fun gk ii wr=>∃k:Nat,b7 (gk+k=na)/\ii=.int .i64 (k:Int)/\b7 ((List.range k).all (gD A X D)=true)/\b7 (Ext (w.alloc (bj a na ca b nb cb c nc cc)) wr))
 case atStart=>exact⟨0,ae e7,rfl,ae rfl,ae (Ext.refl _)⟩
 case round =>
  obtain⟨g1,o7⟩:=b9 gk;subst o7;obtain⟨o6,o5⟩:=b9 wr;subst o5;obtain⟨k,Z,rfl,HA,HX⟩:=hrel;have U:=HX.o.size;rw[V4]at U;by_cases hlt:k<na
  ·obtain⟨gb,DU,ra,rn,rc,Oz,Ku,o8⟩:=(HI.o.ext HX.o).at hlt;subst Oz;have CP:rn<=70:=by rw[<-o8.hlen];exact(CZ.o k hlt).1
   have ZY:=ae (ja o8 e7);rw[fZ (CZ.o k hlt).2]at ZY;clear o8;go_wp2_with fail;refine ZY.o.mono ?_;rintro e w2 ⟨⟨v2,rfl,D7⟩,zJ⟩;obtain⟨a2,n2,c2,rfl,IZ⟩:=D7.var;have X2:=ae (HX.o.trans zJ);have HD:=ae (fW D7.zj (DL.o.ext X2.o));clear D7 zJ IZ;obtain⟨dv,DJ⟩:=b9 (zr (az (A[k]?.getD [])) X);have HG:=ae (show gD A X D k=decide (dv=some (D[k]?.getD 0,1))by rw[DJ];rfl);rw[<-DJ]at HD;clear DJ;obtain⟨db,He,Y3,K⟩:=(EH.o.ext X2.o).at (show k<O by omega);subst Y3;obtain⟨d,hd⟩:=b9 (D[k]?.getD 0);rw[<-hd]at HG K;clear hd;cases dv with
   | none =>
     rw[show z7 none=((0,0),false)from rfl]at HD;have HF:=ae (show dC A X D=false by rw[HE.o];exact dz hlt (by rw[HG.o];rfl));go_wp2_with fail;refine HD.o.mono ?_;rintro e w3 ⟨rfl,J⟩;have X3:=ae (X2.o.trans J);clear J K;obtain⟨E,G⟩:=b9 (w3.alloc (.cells #[.int .i64 0,.int .i64 0] 62));have XE:=ae (show Ext w3 E by rw[G];exact Ext.alloc _ _);go_upto_region 5 with fail;rw[<-G];clear G;have k7:Ext E E.drew:=Ext.drew E;refine rN (S:=(fun w'=>Ext E w')) e9 ?_ (fun l7=>?_)
     ·exact k7
     refine tk 0 ?_;refine tk 1 ?_;refine tk 2 ?_;refine sk 3 ?_;refine sk 4 ?_;refine sk 5 ?_;refine sk 6 ?_;refine sk 7 ?_;refine sk 8 ?_;refine sk 9 ?_;refine tk 10 ?_;refine Gh e9 ?_ _;go_wp2_with fail;go_ret;exact⟨ag HF.o.symm,((y7.o.trans X3.o).trans XE.o).trans k7⟩
   | some r =>
     obtain⟨r1,I⟩:=r;rw[show z7 (some (r1,I))=((r1,I),true)from rfl]at HD;go_wp2_with fail;refine HD.o.mono ?_;rintro e w3 ⟨rfl,J⟩;replace K:=J.j9 K;have X3:=ae (X2.o.trans J);clear J;obtain⟨E,G⟩:=b9 (w3.alloc (.cells #[.int .i64 r1,.int .i64 I] 62));have B0:Ext w3 E:=by rw[G];exact Ext.alloc _ _
     have XE:=ae (X3.o.trans B0);have e0:=B0.j9 K;have b0:E.cell? ⟨w3.heap.size,0,none⟩=some (.int .i64 r1):=by rw[G];simp
     have b1:E.cell? ⟨w3.heap.size,1,none⟩=some (.int .i64 I):=by rw[G];simp
     go_upto_region 5 with fail;rw[<-G];clear G K B0;have Ax:(k:Int)<(O:Int):=by omega
     have Fu:(0:Int)<=(k:Int):=by omega
     have k7:Ext E E.drew:=Ext.drew E;have k8:=ae (fun(w':World) (h:Ext E w')=>(⟨h.j9 e0,h.j9 b0,h.j9 b1,h⟩:w'.cell? ⟨db,He+k,none⟩=some (.int .i64 d)/\w'.cell? ⟨w3.heap.size,0,none⟩=some (.int .i64 r1)/\w'.cell? ⟨w3.heap.size,1,none⟩=some (.int .i64 I)/\Ext E w'));have Jb:=ae (show gD A X D k=((r1 == d)&&(I == 1))by rw[HG.o,U9];simp);cases zK:(r1 == d)
     all_goals
      cases An:(I == 1)
     all_goals
      have KN:=ae Jb.o;rw[zK,An]at KN
      go_region_held3 (fun w'=>w'.cell? ⟨db,He+k,none⟩=some (.int .i64 d)/\w'.cell? ⟨w3.heap.size,0,none⟩=some (.int .i64 r1)/\w'.cell? ⟨w3.heap.size,1,none⟩=some (.int .i64 I)/\Ext E w')
       (first
         | with_reducible exact k8.o _ k7)
       (first
         | (go_at_call 71
            (with_reducible refine(cX _ _).mono ?_)
            rintro e w5 ⟨rfl,AK⟩
            have k7:Ext E w5:=k7.trans AK)
         | fail)
      have X5:=ae (XE.o.trans k7);clear k7
     all_goals try(
      have HF:=ae (show dC A X D=false by rw[HE.o];exact dz hlt (by rw[KN.o];rfl));go_wp2_with fail;go_ret
      exact⟨ag HF.o.symm,y7.o.trans X5.o⟩)
     have HT:=ae (show(List.range (k+1)).all (gD A X D)=true by rw[ia,HA.o,KN.o];rfl);go_wp2_with fail
     go_roundg (g1-1)
     case measure=>have:=Z.o;omega
     case rel=>exact⟨k+1,ae (j1 Z.o),by go_num,HT,X5⟩
  ·have zQ:na=k:=by have:=Z.o;omega
   subst zQ;go_wp2_with fail;go_ret;exact⟨ag (by rw[HE.o,HA.o]),y7.o.trans HX.o⟩
section
variable{w:World}{a:j6}{na ca:Nat}{b:j6}{nb cb:Nat}{c:j6}{nc cc:Nat}{A:j5}{B:j7}{C:j4}
theorem cQ(h:EA w a na ca b nb cb c nc cc A B C)(ok:zM A B C=true):nc<=70/\na<=8/\nb=na/\(∀i,i<na->(A[i]?.getD []).length=nc)/\(∀i,i<na->(A[i]?.getD []).length<=70/\∀x∈A[i]?.getD [],-5000<=x/\x<=5000)/\∀x∈B,-5000<=x/\x<=5000:=by
 have l1:=h.a.hlen;have l2:=h.b.hlen;have l3:=h.c.hlen;rw[jQ]at ok;simp only[xf,sw,Di,ef,r9]at ok;obtain⟨h1,h2,h3,h4,h5,h6⟩:=ok;have key:∀i,i<na->(A[i]?.getD []).length=nc/\∀x∈A[i]?.getD [],-5000<=x/\x<=5000:=by
  intro i hi;rw[bk e7,l'];have:=h5 _ (vl (l:=A) (n:=i) e7);exact⟨by omega,this.2⟩
 exact⟨by omega,by omega,by omega,fun i hi=>(key i hi).1,fun i hi=>⟨by have:=(key i hi).1;omega,(key i hi).2⟩,h6⟩
theorem lj(h:EA w a na ca b nb cb c nc cc A B C){J:j6}{I FU:Nat}{X:j4}(hX:Rats w J I FU X):
 Calls Tryz.prog 196 #[DD a na ca b nb cb c nc cc,.slice J I FU] w fun e w'=>e=.returned (.bool (zM A B C&&dZ A B C.length X))/\Ext w w':=by
 have y9:=Ext.alloc w (bj a na ca b nb cb c nc cc);have y7:=ae y9;have H:=ae (h.ext y9);have DL:=ae (hX.ext y9);have BE:=ae h.c.hlen;have CG:=ae h.a.hlen;have Ba:=h.c.l8;have CY:=h.c.l9;have HO:=ae (fun ok=>cQ h ok);have HV:=ae (eJ H.o);clear h hX y9;cases zO:zM A B C
 ·rw[zO]at HV;clear zO;go_enter aeC,aeg
  go_wp2_with fail;refine HV.o.mono ?_;rintro e w1 ⟨rfl,hx⟩;have X1:=ae (y7.o.trans hx);clear hx;go_wp2_with fail;go_ret;exact⟨rfl,X1.o⟩
 ·rw[zO]at HV;have HR:=ae (HO.o zO);obtain⟨r1,r2,Q,_,_,_⟩:=HO.o zO;subst Q;have HN:=ae (fun(w':World) (hx:Ext (w.alloc (bj a nb ca b nb cb c nc cc)) w')=>kF (DL.o.ext hx) nc);have HE:=ae (show(true&&dZ A B C.length X)=((decide (X.length=nc)&&DN X)&&dC A X B)by unfold dZ;rw[BE.o,aad,Bool.and_assoc]);clear zO;cases hn:(decide (X.length=nc)&&DN X)
  ·rw[hn]at HN HE;clear hn;go_enter aeC,aeg
   go_wp2_with fail;refine HV.o.mono ?_;rintro e w1 ⟨rfl,hx⟩;have G:w1.cell? ⟨w.heap.size,2,none⟩=some (.slice c nc cc):=hx.j9 e8;have X1:=ae hx;clear hx;go_wp2_with fail;refine(HN.o _ X1.o).mono ?_;rintro e w2 ⟨rfl,hx⟩;have X2:=ae ((y7.o.trans X1.o).trans hx);clear hx;go_wp2_with fail;go_ret;exact⟨ag (by rw[HE.o];rfl),X2.o⟩
  ·rw[hn]at HN HE;clear hn;go_enter aeC,aeg
   go_wp2_with fail;refine HV.o.mono ?_;rintro e w1 ⟨rfl,hx⟩;have K:w1.cell? ⟨w.heap.size,0,none⟩=some (.slice a nb ca):=hx.j9 e8;have O:w1.cell? ⟨w.heap.size,1,none⟩=some (.slice b nb cb):=hx.j9 e8;have G:w1.cell? ⟨w.heap.size,2,none⟩=some (.slice c nc cc):=hx.j9 e8;have X1:=ae hx;clear hx;go_wp2_with fail;refine(HN.o _ X1.o).mono ?_;rintro e w2 ⟨rfl,hx⟩;replace K:=hx.j9 K;replace O:=hx.j9 O;replace G:=hx.j9 G;have X2:=ae (X1.o.trans hx);clear hx;have HG:=ae (uY (b:=b) (nb:=nb) (cb:=cb) (c:=c) (nc:=nc) (cc:=cc) (H.o.ext X2.o).a (DL.o.ext X2.o) (H.o.ext X2.o).b (ao _) HR.o.2.2.2.2.1);go_wp2_with fail;refine HG.o.mono ?_;rintro e w3 ⟨rfl,hx⟩;have X3:=ae ((y7.o.trans X2.o).trans hx);clear hx;go_wp2_with fail;go_ret;exact⟨ag (by rw[HE.o];rfl),X3.o⟩
end
end Go.Proofs.YtdadoignenffgaaGreatDoor
namespace Go.Proofs.YtdadoignenffgaaGreatDoor
theorem lW{f g:Nat->Rat}:∀{m},(∀k,k<m->f k<=g k)->r8 f m<=r8 g m
 | 0,_=>aeN
 | m+1,h=>by
   have h1:=lW (m:=m) (fun k hk=>h k e7);have h2:=h m e7;simp only[r8];grind
theorem pZ{f:Nat->Rat}:∀{m},(∀k,k<m->0<=f k)->0<=r8 f m
 | 0,_=>aeN
 | m+1,h=>by
   have h1:=pZ (m:=m) (fun k hk=>h k e7);have h2:=h m e7;simp only[r8];grind
theorem jI(l:j7)(j:Nat)(hj:j<l.length):yY (az l) j=((l[j]?.getD 0:Int):Rat):=by
 unfold yY;rw[lJ hj,eG]
def Fy(A:j5)(i j:Nat):Int:=(A[i]?.getD [])[j]?.getD 0
structure Cert(A:j5)(B:j7)(C:j4)(r:BQ):Prop where
 xl:r.X.length=C.length
 yl:r.Y.length=A.length
 bl:B.length=A.length
 x0:∀j,j<C.length->0<=yY r.X j
 row:∀i,i<A.length->r8 (fun j=>(Fy A i j:Rat)*yY r.X j) C.length=((B[i]?.getD 0:Int):Rat)
 zp:∀j,j<C.length->r8 (fun i=>yY r.Y i*(Fy A i j:Rat)) A.length<=yY C j
 cx:val r.value=r8 (fun j=>yY C j*yY r.X j) C.length
 yb:val r.value=r8 (fun i=>yY r.Y i*((B[i]?.getD 0:Int):Rat)) A.length
theorem R1{A:j5}{B:j7}{C:j4}(ok:zM A B C=true){r:BQ}(hc:aK ar A B C r=true)(hs:r.status=1):Cert A B C r:=by
 obtain⟨h1,h2,h3,h4,h5,h6⟩:=fJ ok;unfold aK at hc;rw[hI hs]at hc;obtain⟨hf,hc⟩:=both hc;obtain⟨hy,hc⟩:=both hc;obtain⟨hb,hm⟩:=both hc;unfold dZ at hf;obtain⟨K,hf⟩:=both hf;obtain⟨U,hg⟩:=both hf;have K:=EE K;have Z:=EE hy;have Q:∀j,j<r.X.length->o9 (r.X[j]?.getD (0,0))=true/\0<=(r.X[j]?.getD (0,0)).1:=by
  intro j hj;have:=Di.1 U (r.X[j]) (vl hj);obtain⟨a,b⟩:=both this;rw[bk hj,l'];exact⟨a,EE b⟩
 unfold iD at hm;cases e1:zr C r.X with
 | none=>rw[e1]at hm;cases hm
 | some x =>
   cases e2:zr r.Y (az B)with
   | none=>rw[e1,e2]at hm;cases hm
   | some y =>
     rw[e1,e2]at hm;obtain⟨O,I⟩:=both hm;have O:=EE O;have J:=EE I;obtain⟨d1,_,_,d4⟩:=dT e1;obtain⟨f1,_,_,f4⟩:=dT e2;refine⟨K,by rw[Z,h3],h3,fun j hj=>(gQ (Q j e7).1).1 (Q j e7).2,fun i hi=>?_,fun j hj=>?_,?_,?_⟩
     ·have:=EE (Di.1 hg i (S4.2 hi));obtain⟨k1,_,_,G⟩:=dT this;rw[eY]at k1 G;rw[eG]at G;rw[G,k1,K];exact bK fun j hj=>by rw[jI _ _ e7];rfl
     ·have:=Di.1 hb j (S4.2 hj);unfold ar at this;cases e3:zr r.Y (az (zP A j))with
      | none=>rw[e3]at this;cases this
      | some v =>
        rw[e3]at this;obtain⟨s1,s2⟩:=both this;obtain⟨g1,g2,g3,g4⟩:=lZ s1;have Qj:=(gQ g3).1 (EE s2);obtain⟨k1,_,_,G⟩:=dT e3;have WB:(zP A j).length=A.length:=by unfold zP;simp
        rw[eY,WB]at k1;have e4:r8 (fun i=>yY r.Y i*(Fy A i j:Rat)) A.length=val v:=by
         rw[G,k1];exact bK fun i hi=>by rw[jI _ _ (by rw[WB];exact hi),uR _ _ _ hi];rfl
        rw[e4]
        show val v<=val (C[j]?.getD (0,0))
        grind
     ·rw[<-J,d4]
     ·rw[<-J,O,f4,f1,eY,h3];exact bK fun i hi=>by rw[jI _ _ e7]
