import Derived.Test.YtalmoolkhcgmmaaGreatNqAltG19
import Derived.Test.YtalmoolkhcgmmaaGreatNqAltG15
import Derived.Test.YtalmoolkhcgmmaaGreatNqAltG4
import Derived.StillTailTactics
set_option linter.unusedVariables false
set_option linter.unusedSimpArgs false
namespace Go.Proofs.YtalmoolkhcgmmaaGreat
variable{t:Tb}{cost costs main:j6}{k r bc m j c n i:Nat}{w:World}{M:List (j6)}
set_option maxHeartbeats 16000000
set_option maxRecDepth 100000
open Go.RowKit
theorem mD(h:cO t cost k=none):∀{n:Nat},k<=n->cO t cost n=none
 | n,hn=>by
   obtain⟨d,rfl⟩:∃d,n=k+d:=⟨n-k,by omega⟩;clear hn
   induction d with
   | zero=>exact h
   | succ d ih=>show(cO t cost (k+d)).bind _=none;rw[ih];rfl
theorem K3{A B r:j6}{k:k5}(h:zo A k B=some r):r.length=A.length:=by
 unfold zo at h;split at h
 ·exact cU h
 ·cases h
theorem kh{t:Tb}{cost:j6}:∀{k:Nat} {cs:j6},cO t cost k=some cs->cs.length=cost.length+1
 | 0,cs,h=>by simp only[cO,Option.some.injEq]at h;rw[<-h];simp
 | k+1,cs,h=>by
   simp only[cO]at h;cases e:cO t cost k with
   | none=>rw[e]at h;cases h
   | some c0=>rw[e]at h;simp only[Option.bind_some]at h;rw[K3 h,kh e]
theorem gw{ra:j8}{rn rc:Nat}{ba:j8}{bn:Nat}(h:EZ w ra rn rc ba bn bc t)(ok:AG t=true):
 ∃m:Nat,t.q8=m/\m<=1000/\bn=rn/\(∀i,i<rn->(t.row i).length=m+rn+1)/\∀i,i<rn->∃b:Nat,t.basis[i]?.getD 0=(b:Int)/\b<m+rn:=by
 have l1:=h.rows.hlen;have l2:=h.basis.hlen;unfold AG at ok;simp only[Bool.and_eq_true,decide_eq_true_eq,List.all_eq_true,wJ]at ok;obtain⟨⟨h1,h2⟩,h3,h4,h5⟩:=ok;refine⟨t.q8.toNat,by omega,by omega,by omega,fun i hi=>?_,fun i hi=>?_⟩
 ·have:=h5 _ (List.getElem_mem (l:=t.rows) (n:=i) b9);unfold Tb.row;rw[List.getElem?_eq_getElem b9,Option.getD_some];omega
 ·have:=h4 _ (List.getElem_mem (l:=t.basis) (n:=i) b9);rw[List.getElem?_eq_getElem b9,Option.getD_some];exact⟨t.basis[i].toNat,by omega,by omega⟩
section
variable{w:World}{ra:j8}{rn rc:Nat}{ba:j8}{bn bc:Nat}{t:Tb}
theorem vj(h:EZ w ra rn rc ba bn bc t)(BF:rn<=100000){Z:j8}{I U:Nat}{cost:j6}(hk:r8 w Z I U cost):
 Calls Tryz.prog 148 #[EB ra rn rc ba bn bc t.q8,.slice Z I U] w fun e w'=>(∃v,e=.returned (.tuple #[v,.bool (bS t cost).isSome])/\l8 w' w.heap.size v ((bS t cost).getD []))/\Ext w w':=by
 have HF:=ae (iz (h.ext (Ext.alloc w (cg ra rn rc ba bn bc t.q8))) b9);have Un:=ae (fun ok=>gw h ok);obtain⟨rows,basis,x⟩:=t;have wI:=Ext.alloc w (cg ra rn rc ba bn bc x);have wM:=ae wI;have H:=ae (h.ext wI);have OP:=ae (hk.ext wI);have yC:=h.rows.o3;have AX:=h.rows.l9;have zN:=h.basis.o3;have zx:=h.basis.l9;have BH:=hk.o3;have k7:=hk.l9;have zy:=ae h.rows.hlen;have Ji:=ae hk.hlen
 have HE:=ae (show bS ⟨rows,basis,x⟩ cost=if(AG ⟨rows,basis,x⟩&&(decide ((I:Int)=x+(rn:Int))&&yz cost))=true then cO ⟨rows,basis,x⟩ cost rn else none by
  unfold bS jm;simp only;rw[h.rows.hlen,hk.hlen])
 clear h hk wI
 show Calls _ _ #[EB ra rn rc ba bn bc x,.slice Z I U] w _;cases xq:AG ⟨rows,basis,x⟩
 ·rw[xq]at HF;have HN:=ae (show bS ⟨rows,basis,x⟩ cost=none by rw[HE.o,xq];rfl);clear xq;go_enter Tryz.func148,Tryz.ntmps148
  go_wp2_with fail;refine HF.o.mono ?_;rintro e w1 ⟨rfl,hx⟩;have X1:=ae (wM.o.trans hx);clear hx;go_wp2_with fail;refine bodyPost_ret (v:=.tuple #[.slice none 0 0,.bool false]) (by simp[results,Tryz.results148,go_sem]) rfl ⟨⟨.slice none 0 0,by rw[HN.o];rfl,by rw[HN.o];exact l8.nil _ _⟩,X1.o⟩
 ·rw[xq]at HF;obtain⟨m,EC,hm,Du,zT,DQ⟩:=Un.o xq;simp only at EC;subst EC Du;have ZE:=ae xq;replace zT:=ae zT;replace DQ:=ae DQ;clear xq;by_cases yQ:I=m+bn
  ·subst yQ;have MA:((m+bn:Nat):Int)=(m:Int)+(bn:Int):=by simp
   have hne:(((m+bn:Nat):Int) != (m:Int)+(bn:Int))=false:=by simp
   have HV:=ae (fun(W:World) (hx:Ext (w.alloc (cg ra bn rc ba bn bc (m:Int))) W)=>jA (OP.o.ext hx));cases hv:yz cost
   ·simp only[hv]at HV;have HN:=ae (show bS ⟨rows,basis,(m:Int)⟩ cost=none by rw[HE.o,ZE.out,hv,MA];simp);clear hv;go_enter Tryz.func148,Tryz.ntmps148
    go_wp2_with fail;refine HF.o.mono ?_;rintro e w1 ⟨rfl,hx⟩;have c0:w1.cell? ⟨w.heap.size,0,none⟩=some (.slice ra bn rc):=hx.k6 e7;have c2:w1.cell? ⟨w.heap.size,2,none⟩=some (.int .i64 (m:Int)):=hx.k6 e7;have X1:=ae hx;clear hx;go_wp2_with fail;refine(HV.o _ X1.o).mono ?_;rintro e w2 ⟨rfl,hx⟩;have X2:=ae ((wM.o.trans X1.o).trans hx);clear hx;go_wp2_with fail;refine bodyPost_ret (v:=.tuple #[.slice none 0 0,.bool false]) (by simp[results,Tryz.results148,go_sem]) rfl ⟨⟨.slice none 0 0,by rw[HN.o];rfl,by rw[HN.o];exact l8.nil _ _⟩,X2.o⟩
   ·simp only[hv]at HV;have HV2:=ae (show cost.all o5=true from hv);have AE:=ae (show bS ⟨rows,basis,(m:Int)⟩ cost=cO ⟨rows,basis,(m:Int)⟩ cost bn by rw[HE.o,ZE.out,hv,MA];simp);clear hv;go_enter Tryz.func148,Tryz.ntmps148
    go_wp2_with fail;refine HF.o.mono ?_;rintro e w1 ⟨rfl,hx⟩;have c0:w1.cell? ⟨w.heap.size,0,none⟩=some (.slice ra bn rc):=hx.k6 e7;have c2:w1.cell? ⟨w.heap.size,2,none⟩=some (.int .i64 (m:Int)):=hx.k6 e7;have X1:=ae hx;clear hx;go_wp2_with fail;refine(HV.o _ X1.o).mono ?_;rintro e w2 ⟨rfl,hx⟩;have X2:=ae (X1.o.trans hx);clear hx c0 c2;have B6:=ae (mA (OP.o.ext X2.o) b9);go_wp2_with fail;refine B6.o.mono ?_;rintro e w3 ⟨v3,rfl,R,hx⟩;obtain⟨a3,n3,p3,rfl,R7⟩:=R.var;have X3:=ae (X2.o.trans hx);have xp:=ae (R.mono (show w.heap.size+1<=w2.heap.size by have:=X2.o.size;simpa using this));clear hx R;go_wp2_with fail;refine(cG 0 _).mono ?_;rintro e w4 ⟨rfl,hx⟩;have X4:=ae (X3.o.trans hx);have yW:=ae (xp.o.ext hx);have J4:w.heap.size+1<=w4.heap.size:=by have:=X4.o.size;simpa using this
    clear hx
    go_wp2_with (first
     | (at_builtin;refine aG rfl _ _ rfl (w.heap.size+1) (.slice a3 n3 p3) _ rfl (yW.o.ext (Ext.alloc _ _)) _ 1 _ [(0,1)] rfl (r8.one' _ _ _ _ _ e7) (by rw[Ji.o];omega) (by simp;omega) ?_;intro v5 w5 ho hg l7;have X5:=ae (al (X4.o.trans (Ext.alloc _ _)) hg (fun j hj=>by have:=(yW.o.lt j hj).1;simpa using this));obtain⟨a5,n5,p5,rfl,A9⟩:=ho.var;have xL:=ae ho;clear ho hg l7;have c0:w5.cell? ⟨w.heap.size,0,none⟩=some (.slice ra bn rc):=X5.o.k6 e7))
    go_loopg [6,38] bn (fun gk o ii wr=>∃(k:Nat) (a1:j8) (n1 p1:Nat) (cs:j6),b7 (gk+k=bn)/\ii=.int .i64 (k:Int)/\o=.slice a1 n1 p1/\b7 (cO ⟨rows,basis,(m:Int)⟩ cost k=some cs)/\b7 (l8 wr (w.heap.size+1) (.slice a1 n1 p1) cs)/\b7 (Ext (w.alloc (cg ra bn rc ba bn bc (m:Int))) wr))
    case atStart=>exact⟨0,_,_,_,_,ae b9,rfl,rfl,ae rfl,xL,X5⟩
    case round =>
     obtain⟨g1,r7⟩:=b8 gk;subst r7;obtain⟨o7,o6⟩:=b8 wr;subst o6;obtain⟨k,a1,n1,p1,cs,HK,rfl,rfl,HC,HO,HX⟩:=hrel;clear c0;by_cases hlt:k<bn
     ·obtain⟨zb,xJ,za,zn,zc,Bt,y9,o9⟩:=(H.o.ext HX.o).rows.at hlt;subst Bt;have Ay:=ae o9;obtain⟨b,Df,I3⟩:=DQ.o k hlt;obtain⟨yb,xB,Da,AJ⟩:=(H.o.ext HX.o).basis.at hlt;subst Da;simp only[Df]at AJ;obtain⟨xb,Cc,p,q,Hu,xk,wI,wO⟩:=(OP.o.ext HX.o).at (show b<m+bn from I3);subst Hu;have yt:=ae xk;have Zm:=ae Df;have c1:o7.cell? ⟨w.heap.size,1,none⟩=some (.slice (some ⟨yb,xB,none⟩) bn bc):=HX.o.k6 e7;have Ct:=ae (aQ (p:=(p,q)) (by rw[<-yt.o,List.getElem?_eq_getElem (by rw[Ji.o];exact I3),Option.getD_some];exact(List.all_eq_true.1 HV2.o) _ (List.getElem_mem _)));have D6:-9223372036854775807<=p:=by have:=Ct.o.2.2.1;simp only at this;omega
      have CG:p<=9223372036854775807:=by have:=Ct.o.2.2.2;simp only at this;omega
      have z8:=ae (kh HC.o);have hbl0:(b:Int)<((m+bn:Nat):Int):=by omega
      clear xk Df o9;go_wp2_with fail;refine(eM p q _ D6 CG).mono ?_;rintro e w6 ⟨rfl,hx⟩;have X6:=ae (HX.o.trans hx);have J:=ae (lk (k1:=-p) (k2:=q) ((HO.o.ext hx).wK) (Ay.o.ext hx) (by have:=(HO.o).wK.hlen;have:=z8.o;have:=Ji.o;omega));obtain⟨sv,Hx⟩:=b8 (zo cs (-p,q) (rows[k]?.getD []))
      have zW:=ae (show cO ⟨rows,basis,(m:Int)⟩ cost (k+1)=sv by
       rw[Hx]
       show(cO ⟨rows,basis,(m:Int)⟩ cost k).bind _=_;rw[HC.o]
       show zo cs (wR (cost[(basis[k]?.getD 0).toNat]?.getD (0,0))) (rows[k]?.getD [])=_
       rw[show basis[k]?.getD 0=(b:Int)from Zm.o,Int.toNat_natCast,yt.o];rfl)
      rw[<-Hx]at J;clear Hx hx;cases sv with
      | none =>
        have HN:=ae (show bS ⟨rows,basis,(m:Int)⟩ cost=none by rw[AE.o];exact mD zW.o hlt);go_wp2_with fail;refine J.o.mono ?_;rintro e w7 ⟨⟨v7,rfl,O⟩,hx⟩;have u:=ae ((wM.o.trans X6.o).trans hx);clear O hx;go_wp2_with fail;refine bodyPost_ret (v:=.tuple #[.slice none 0 0,.bool false]) (by simp[results,Tryz.results148,go_sem]) rfl ⟨⟨.slice none 0 0,by rw[HN.o];rfl,by rw[HN.o];exact l8.nil _ _⟩,u.o⟩
      | some K =>
        go_wp2_with fail;refine J.o.mono ?_;rintro e w7 ⟨⟨v7,rfl,O⟩,hx⟩;obtain⟨a7,n7,p7,rfl,E'⟩:=O.var;have FR:=ae (show l8 w7 (w.heap.size+1) (.slice a7 n7 p7) K from l8.mono O (by have:=X6.o.size;simpa using this));have u:=ae (X6.o.trans hx);clear O hx;go_wp2_with fail
        go_roundg (g1-1)
        case measure=>have:=HK.o;omega
        case rel=>exact⟨k+1,a7,n7,p7,K,ae (j4 HK.o),by go_num,rfl,zW,FR,u⟩
     ·have xQ:bn=k:=by have:=HK.o;omega
      subst xQ;have HY:=ae (show bS ⟨rows,basis,(m:Int)⟩ cost=some cs by rw[AE.o];exact HC.o);go_wp2_with fail;refine bodyPost_ret (v:=.tuple #[.slice a1 n1 p1,.bool true]) (by simp[results,Tryz.results148,go_sem]) rfl ⟨⟨.slice a1 n1 p1,by rw[HY.o];rfl,by rw[HY.o];exact HO.o.mono (Nat.le_succ _)⟩,wM.o.trans HX.o⟩
  ·have hne:((I:Int) != (m:Int)+(bn:Int))=true:=by simp;omega
   have HN:=ae (show bS ⟨rows,basis,(m:Int)⟩ cost=none by rw[HE.o,decide_eq_false (by omega:¬(I:Int)=(m:Int)+(bn:Int))];simp);go_enter Tryz.func148,Tryz.ntmps148
   go_wp2_with fail;refine HF.o.mono ?_;rintro e w1 ⟨rfl,hx⟩;have c0:w1.cell? ⟨w.heap.size,0,none⟩=some (.slice ra bn rc):=hx.k6 e7;have c2:w1.cell? ⟨w.heap.size,2,none⟩=some (.int .i64 (m:Int)):=hx.k6 e7;have X1:=ae (wM.o.trans hx);clear hx;go_wp2_with fail;refine bodyPost_ret (v:=.tuple #[.slice none 0 0,.bool false]) (by simp[results,Tryz.results148,go_sem]) rfl ⟨⟨.slice none 0 0,by rw[HN.o];rfl,by rw[HN.o];exact l8.nil _ _⟩,X1.o⟩
end
theorem LV(x y:Int)(w:World):Calls Tryz.prog 169 #[xO x y] w fun e w'=>e=.returned (.int .i64 (wU (x,y) (0,1)))/\Ext w w':=by
 obtain⟨W,hW⟩:=b8 (w.alloc (.cells #[.int .i64 x,.int .i64 y] 46));have HX:=ae (show Ext w W by rw[hW];exact Ext.alloc _ _);have c0:W.cell? ⟨w.heap.size,0,none⟩=some (.int .i64 x):=by rw[hW];simp
 have c1:W.cell? ⟨w.heap.size,1,none⟩=some (.int .i64 y):=by rw[hW];simp
 go_enter Tryz.func169,Tryz.ntmps169
 go_upto_region 1 with fail;rw[<-hW];clear hW;have k7:Ext W W.drew:=Ext.drew W;have J:=k7;have k8:=ae (fun(w':World) (h:Ext W w')=>(⟨h.k6 c0,h.k6 c1,h⟩:w'.cell? ⟨w.heap.size,0,none⟩=some (.int .i64 x)/\w'.cell? ⟨w.heap.size,1,none⟩=some (.int .i64 y)/\Ext W w'))
 go_region_held3 (fun w'=>w'.cell? ⟨w.heap.size,0,none⟩=some (.int .i64 x)/\w'.cell? ⟨w.heap.size,1,none⟩=some (.int .i64 y)/\Ext W w')
  (with_reducible exact k8.o _ k7)
  (first
    | (go_at_call 18
       (with_reducible refine(cG 0 _).mono ?_)
       rintro e w3 ⟨rfl,K⟩;have k7:Ext W w3:=k7.trans K
       have IS:=k7.size)
    | (go_at_call 98
       (with_reducible refine(ix x y 0 1 _).mono ?_)
       rintro e w4 ⟨rfl,I⟩;have k7:Ext W w4:=k7.trans I
       have Rk:=k7.size)
    | fail)
 clear k8 J;go_wp2_with fail;go_ret;exact⟨rfl,HX.o.trans k7⟩
theorem uW(h:costs.length<m):aX costs m=-1:=by unfold aX;rw[if_pos b9]
theorem oG(h:m<=costs.length)(hj:j<m)(h0:(costs.take j).all (fun c=>!el c)=true)(h1:el (costs[j]?.getD (0,0))=true):aX costs m=j:=by
 unfold aX;rw[if_neg b9];refine fh (d:=(0,0)) (by simp;omega) (by rw[Int.toNat_natCast,List.take_take,Nat.min_eq_left b9];exact h0) ?_;rw[Int.toNat_natCast,List.getElem?_take,if_pos hj];exact h1
theorem lh(h:m<=costs.length)(h0:(costs.take m).all (fun c=>!el c)=true):aX costs m=-1:=by
 unfold aX;rw[if_neg b9,Int.toNat_natCast];exact dZ h0
theorem lg{c:k5}(hj:j<costs.length)(hc:costs[j]?.getD (0,0)=c)(h0:(costs.take j).all (fun c=>!el c)=true)(h1:el c=false):(costs.take (j+1)).all (fun c=>!el c)=true:=by
 rw[dV hj,List.all_append,h0,hc];simp[h1]
theorem lL{ra:j8}{rn rc:Nat}{ba:j8}{bn:Nat}{x:Int}{a:j8}{cap:Nat}(h:r8 w a n cap costs)(m:Nat)(hm:m<=100000):
 Calls Tryz.prog 149 #[EB ra rn rc ba bn bc x,.slice a n cap,.int .i64 (m:Int)] w fun e w'=>e=.returned (.int .i64 (aX costs m))/\Ext w w':=by
 have wI:=Ext.alloc w (cg ra rn rc ba bn bc x);have wM:=ae wI;have H:=ae (h.ext wI);have yq:=h.o3;have AZ:=h.l9;have HL:=ae h.hlen;clear h wI;by_cases u:n<m
 ·have HN:=ae (show aX costs m=-1 from uW (by rw[HL.o];exact u));have G5:(m:Int) > (n:Int):=by omega
  go_enter Tryz.func149,Tryz.ntmps149
  go_wp2_with fail;go_ret;exact⟨aU HN.o.symm,wM.o⟩
 ·have hle:¬(m:Int) > (n:Int):=by omega
  go_enter Tryz.func149,Tryz.ntmps149
  go_wp2_with fail
  go_loopg [7] m (fun gk ii wr=>∃k:Nat,b7 (gk+k=m)/\ii=.int .i64 (k:Int)/\b7 ((costs.take k).all (fun c=>!el c)=true)/\b7 (Ext (w.alloc (cg ra rn rc ba bn bc x)) wr))
  case atStart=>exact⟨0,ae b9,rfl,ae rfl,ae (Ext.refl _)⟩
  case round =>
   obtain⟨g1,U⟩:=b8 gk;subst U;obtain⟨W,Z⟩:=b8 wr;subst Z;obtain⟨k,I,rfl,HA,HX⟩:=hrel;by_cases hlt:k<m
   ·have O:k<n:=by omega
    obtain⟨zb,xJ,p,q,Bt,K,y9,CE⟩:=(H.o.ext HX.o).at O;subst Bt;have yt:=ae K;have HS:=ae (LV p q W);obtain⟨R,J⟩:=b8 (wU (p,q) (0,1));have CA:=ae (show el (p,q)=decide (R<0)by rw[J];rfl);rw[<-J]at HS;clear K J;by_cases B0:R<0
    ·have HR:=ae (show aX costs m=k from oG (by rw[HL.o];omega) hlt HA.o (by rw[yt.o,CA.o,decide_eq_true B0]));go_wp2_with fail;refine HS.o.mono ?_;rintro e w3 ⟨rfl,hx⟩;have X3:=ae (HX.o.trans hx);clear hx;go_wp2_with fail;go_ret;exact⟨aU HR.o.symm,wM.o.trans X3.o⟩
    ·have HT:=ae (lg (by rw[HL.o];exact O) yt.o HA.o (by rw[CA.o,decide_eq_false B0]));go_wp2_with fail;refine HS.o.mono ?_;rintro e w3 ⟨rfl,hx⟩;have X3:=ae (HX.o.trans hx);clear hx;go_wp2_with fail
     go_roundg (g1-1)
     case measure=>have:=I.o;omega
     case rel=>exact⟨k+1,ae (j4 I.o),by go_num,HT,X3⟩
   ·have Bf:m=k:=by have:=I.o;omega
    subst Bf;have HR:=ae (show aX costs m=-1 from lh (by rw[HL.o];omega) HA.o);go_wp2_with fail;go_ret;exact⟨aU HR.o.symm,wM.o.trans HX.o⟩
def BV(st cc bi bb:Int):Bool:=decide (st<0)||(decide (cc<0)||(decide (cc=0)&&decide (bi<bb)))
theorem qI{st:Int×(Int×Int)}{p:k5}(hp:t.at k c=p)(h:wU p (0,1)<=0):dG t c st k=st:=by
 unfold dG;rw[hp,if_pos h]
theorem qJ{st:Int×(Int×Int)}{u:Nat}{p q:k5}(hu:u=t.q8.toNat+t.rows.length)(hp:t.at k c=p)(hq:t.at k u=q)(h:¬wU p (0,1)<=0)(hd:(yH q p).2=false):dG t c st k=st:=by
 unfold dG;rw[hp,if_neg h,<-hu,hq,if_pos hd]
theorem qK{st:Int}{l:k5}{u:Nat}{p q d:k5}(hu:u=t.q8.toNat+t.rows.length)(hp:t.at k c=p)(hq:t.at k u=q)(h:¬wU p (0,1)<=0)(hd:yH q p=(d,true)){bi I:Int}(hb:t.basis[k]?.getD 0=bi)(zd:t.basis[st.toNat]?.getD 0=I):
 dG t c (st,l) k=if BV st (wU d l) bi I=true then((k:Int),d) else(st,l):=by
 unfold dG;rw[hp,if_neg h,<-hu,hq,hd,if_neg e7];simp only[hb,zd,BV,Bool.or_eq_true,Bool.and_eq_true,decide_eq_true_eq]
theorem iW(t:Tb)(c:Nat):∀k,(bO t c k).1=-1∨(0<=(bO t c k).1/\(bO t c k).1<k)
 | 0=>.inl rfl
 | k+1=>by
   have ih:=iW t c k
   show(dG t c (bO t c k) k).1=-1∨(0<=(dG t c (bO t c k) k).1/\(dG t c (bO t c k) k).1<((k+1:Nat):Int));unfold dG
   split
   ·omega
   ·split
    ·omega
    ·split
     ·right;simp;omega
     ·omega
section
variable{w:World}{ra:j8}{rn rc:Nat}{ba:j8}{bn bc:Nat}{t:Tb}
theorem qz(h:EZ w ra rn rc ba bn bc t)(BF:rn<=100000)(wX:Int):
 Calls Tryz.prog 150 #[EB ra rn rc ba bn bc t.q8,.int .i64 wX] w fun e w'=>e=.returned (.int .i64 (bP t wX))/\Ext w w':=by
 have HF:=ae (iz (h.ext (Ext.alloc w (cg ra rn rc ba bn bc t.q8))) b9);have Un:=ae (fun ok=>gw h ok);obtain⟨rows,basis,x⟩:=t;have wI:=Ext.alloc w (cg ra rn rc ba bn bc x);have wM:=ae wI;have H:=ae (h.ext wI);have yC:=h.rows.o3;have AX:=h.rows.l9;have zN:=h.basis.o3;have zx:=h.basis.l9;have zy:=ae h.rows.hlen
 have HE:=ae (show bP ⟨rows,basis,x⟩ wX=if(AG ⟨rows,basis,x⟩&&wJ wX 0 (x+(rn:Int)-1))=true then(bO ⟨rows,basis,x⟩ wX.toNat rn).1 else -1 by
  unfold bP;simp only;rw[h.rows.hlen])
 clear h wI
 show Calls _ _ #[EB ra rn rc ba bn bc x,.int .i64 wX] w _;cases xq:AG ⟨rows,basis,x⟩
 ·rw[xq]at HF;have HN:=ae (show bP ⟨rows,basis,x⟩ wX=-1 by rw[HE.o,xq];rfl);clear xq;go_enter Tryz.func150,Tryz.ntmps150
  go_wp2_with fail;refine HF.o.mono ?_;rintro e w1 ⟨rfl,hx⟩;have X1:=ae (wM.o.trans hx);clear hx;go_wp2_with fail;go_ret;exact⟨aU HN.o.symm,X1.o⟩
 ·rw[xq]at HF;obtain⟨m,EC,hm,Du,zT,DQ⟩:=Un.o xq;simp only at EC;subst EC Du;have ZE:=ae xq;replace zT:=ae zT;replace DQ:=ae DQ;clear xq;have U:=ae (fun w=>aK wX 0 ((m:Int)+(bn:Int)-1) w);cases xR:wJ wX 0 ((m:Int)+(bn:Int)-1)
  ·have HN:=ae (show bP ⟨rows,basis,(m:Int)⟩ wX=-1 by rw[HE.o,xR];simp);simp only[xR]at U;clear xR;go_enter Tryz.func150,Tryz.ntmps150
   go_wp2_with fail;refine HF.o.mono ?_;rintro e w1 ⟨rfl,hx⟩;have c0:w1.cell? ⟨w.heap.size,0,none⟩=some (.slice ra bn rc):=hx.k6 e7;have c2:w1.cell? ⟨w.heap.size,2,none⟩=some (.int .i64 (m:Int)):=hx.k6 e7;have X1:=ae (wM.o.trans hx);clear hx;go_wp2_with fail;refine(U.o _).mono ?_;rintro e w2 ⟨rfl,rfl⟩;go_wp2_with fail;go_ret;exact⟨aU HN.o.symm,X1.o⟩
  ·obtain⟨c,rfl⟩:∃c:Nat,wX=c:=⟨wX.toNat,by simp[wJ]at xR;omega⟩;have hc:c<m+bn:=by simp[wJ]at xR;omega
   have HR:=ae (show bP ⟨rows,basis,(m:Int)⟩ (c:Int)=(bO ⟨rows,basis,(m:Int)⟩ c bn).1 by rw[HE.o,ZE.out,xR];simp);simp only[xR]at U;clear xR;obtain⟨u,hu⟩:=b8 (m+bn);have HU:=ae (show u=(Tb.mk rows basis (m:Int)).q8.toNat+(Tb.mk rows basis (m:Int)).rows.length by show u=Int.toNat (m:Int)+rows.length;rw[show rows.length=bn from zy.o];omega);have Vu:=ae hu;have Vf:c<u:=by omega
   have ZC:u<=200000:=by omega
   clear hu;go_enter Tryz.func150,Tryz.ntmps150
   go_wp2_with fail;refine HF.o.mono ?_;rintro e w1 ⟨rfl,hx⟩;have c0:w1.cell? ⟨w.heap.size,0,none⟩=some (.slice ra bn rc):=hx.k6 e7;have c1:w1.cell? ⟨w.heap.size,1,none⟩=some (.slice ba bn bc):=hx.k6 e7;have c2:w1.cell? ⟨w.heap.size,2,none⟩=some (.int .i64 (m:Int)):=hx.k6 e7;have C1:=ae c1;have X1:=ae (wM.o.trans hx);have H1:=ae (H.o.ext hx);have Cu:w.heap.size<w1.heap.size:=by have:=hx.size;simp at this;omega
   clear hx c1;go_wp2_with fail;refine(U.o _).mono ?_;rintro e w2 ⟨rfl,rfl⟩;have Bh:=ae (aj.new (Ext.refl w1) 0 0);go_wp2_with fail
   go_loopg [5,30] bn (fun gk bst ii wr=>∃(k:Nat) (st l1 l2:Int),b7 (gk+k=bn)/\ii=.int .i64 (k:Int)/\bst=.int .i64 st/\b7 (bO ⟨rows,basis,(m:Int)⟩ c k=(st,(l1,l2)))/\b7 (aj w1 wr w1.heap.size l1 l2))
   case atStart=>exact⟨0,-1,0,0,ae b9,rfl,rfl,ae rfl,Bh⟩
   case round =>
    obtain⟨g1,r7⟩:=b8 gk;subst r7;obtain⟨o7,o6⟩:=b8 wr;subst o6;obtain⟨k,st,l1,l2,R,rfl,rfl,HL,HB⟩:=hrel;clear c0 c2;by_cases hlt:k<bn
    ·obtain⟨zb,xJ,za,Z,zc,Bt,y9,o9⟩:=(H1.o.ext HB.o.ext).rows.at hlt;subst Bt;have Js:Z=u+1:=by rw[<-o9.hlen,Vu.o];exact zT.o k hlt
     have HZN:=ae Js;have Mn:=o9.o3;have WJ:=o9.l9;have Ay:=ae o9;obtain⟨yb,W,p,q,Da,xk,AJ,xM⟩:=o9.at (show c<Z by omega);subst Da;have yt:=ae (show Tb.at ⟨rows,basis,(m:Int)⟩ k c=(p,q)from xk);have HS:=ae (LV p q o7);obtain⟨sg,Cf⟩:=b8 (wU (p,q) (0,1));have CA:=ae Cf;rw[<-Cf]at HS;have hcz:c<Z:=by omega
     clear xk Cf o9 Js;by_cases B0:sg<=0
     ·have zW:=ae (show bO ⟨rows,basis,(m:Int)⟩ c (k+1)=(st,(l1,l2))by
       show dG _ c (bO _ c k) k=_
       rw[HL.o];exact qI yt.o (by rw[<-CA.o];exact B0))
      go_wp2_with fail;refine HS.o.mono ?_;rintro e w3 ⟨rfl,hx⟩;have zE:=ae (HB.o.grow hx);clear hx;go_wp2_with fail
      go_roundg (g1-1)
      case measure=>have:=R.o;omega
      case rel=>exact⟨k+1,st,l1,l2,ae (j4 R.o),by go_num,rfl,zW,zE⟩
     ·have Hc:=ae B0;go_wp2_with fail;refine HS.o.mono ?_;rintro e w3 ⟨rfl,hx⟩;have zE:=ae (HB.o.grow hx);replace AJ:=hx.k6 AJ;replace xM:=hx.k6 xM;obtain⟨ub,Hk,p',q',ZD,Mq,Wn,Rf⟩:=(Ay.o.ext hx).at (show u<Z by have:=HZN.o;omega);simp only[Option.some.injEq,Addr.mk.injEq,and_true]at ZD;obtain⟨rfl,rfl⟩:=ZD;have YF:=ae (show Tb.at ⟨rows,basis,(m:Int)⟩ k u=(p',q')from Mq);obtain⟨d1,d2,DH,hdd⟩:∃x y ok,yH (p',q') (p,q)=((x,y),ok):=⟨_,_,_,rfl⟩;have CV:=ae hdd;clear Mq hdd hx y9;have PE:IntKind.i64.wrap ((Z:Int)-1)=(u:Int):=by have:=HZN.o;rw[IntKind.wrap_i64];omega
      have Od:(0:Int)<=(u:Int):=by omega
      have IN:(u:Int)<(Z:Int):=by have:=HZN.o;omega
      have y5:(0:Int)<=(c:Int):=by omega
      have yq:(c:Int)<(Z:Int):=by omega
      go_upto_region 9 with fail
      go_cut [9,10] (fun sx so wx=>∃g:Nat,sx=.pointer (some ⟨g,0,none⟩)/\so=.bool DH/\b7 (aj w3 wx g d1 d2))
      case first =>
       have k7:Ext w3 w3.drew:=Ext.drew w3;have xI:Ext w3 (w3.alloc (.cells #[.int .i64 0,.int .i64 0] 46)).drew:=(Ext.alloc _ _).trans (Ext.drew _);have k8:=ae (fun(w':World) (h:Ext w3 w')=>(⟨h.k6 AJ,h.k6 xM,h.k6 Wn,h.k6 Rf,h⟩:w'.cell? ⟨yb,W+c*2,none⟩=some (.int .i64 p)/\w'.cell? ⟨yb,W+c*2+1,none⟩=some (.int .i64 q)/\w'.cell? ⟨yb,W+u*2,none⟩=some (.int .i64 p')/\w'.cell? ⟨yb,W+u*2+1,none⟩=some (.int .i64 q')/\Ext w3 w'))
       go_region_held3 (fun w'=>w'.cell? ⟨yb,W+c*2,none⟩=some (.int .i64 p)/\w'.cell? ⟨yb,W+c*2+1,none⟩=some (.int .i64 q)/\w'.cell? ⟨yb,W+u*2,none⟩=some (.int .i64 p')/\w'.cell? ⟨yb,W+u*2+1,none⟩=some (.int .i64 q')/\Ext w3 w')
        (first
          | with_reducible exact k8.o _ k7
          | with_reducible exact k8.o _ xI
          | with_reducible exact k8.o _ ((k7.setCell (by first|(simp;done)|(simp;omega)) _).setCell (by first|(simp;done)|(simp;omega)) _)
          | with_reducible exact k8.o _ (k7.trans (Ext.alloc _ _))
          | with_reducible exact k8.o _ (r9.put _ _).ext)
        (first
          | (go_at_call 170
             (with_reducible refine(qw p' q' p q _).mono ?_)
             rw[CV.o];rintro e w5 ⟨rfl,wH⟩
             first|(with_reducible have r9:=aj.grow r9 wH)|(with_reducible have r9:=aj.xu wH)|(with_reducible have r9:=aj.xA k7 wH)|skip
             first|(have BQ:=r9.c0;have BP:=r9.c1;have C3:=r9.free)|skip
             have k7:Ext w3 w5:=by first|with_reducible exact k7.trans wH|with_reducible exact xI.trans wH|with_reducible exact(k7.trans (Ext.alloc _ _)).trans wH
             have zr:=k7.size)
          | fail)
       all_goals(go_wp2_with fail;go_meet;first|exact⟨_,rfl,rfl,ae (r9.put _ _)⟩|exact⟨_,rfl,rfl,ae (aj.new k7 _ _)⟩|exact⟨_,rfl,rfl,ae (aj.new' k7 _ _ e7)⟩)
      obtain⟨g,rfl,rfl,xT⟩:=hcut;clear PE Od IN y5 yq AJ xM Wn Rf;have AB:=ae (zE.o.grow xT.o.ext);cases DH
      ·have zW:=ae (show bO ⟨rows,basis,(m:Int)⟩ c (k+1)=(st,(l1,l2))by
        show dG _ c (bO _ c k) k=_
        rw[HL.o];exact qJ HU.o yt.o YF.o (by rw[<-CA.o];have:=Hc.o;omega) (by rw[CV.o]))
       go_wp2_with fail
       go_roundg (g1-1)
       case measure=>have:=R.o;omega
       case rel=>exact⟨k+1,st,l1,l2,ae (j4 R.o),by go_num,rfl,zW,AB⟩
      ·have g0:=xT.o.c0;have g1':=xT.o.c1;have b0:=AB.o.c0;have b1:=AB.o.c1;have Cr:=ae (ix d1 d2 l1 l2 wc);obtain⟨cc,J⟩:=b8 (wU (d1,d2) (l1,l2));have OT:=ae J;rw[<-J]at Cr;clear J;go_wp2_with fail;refine Cr.o.mono ?_;rintro e w6 ⟨rfl,hx⟩;have Bw:=ae (AB.o.grow hx);have R':=ae (xT.o.grow hx);clear hx g0 g1' b0 b1;have c1:=Bw.o.ext.k6 C1.o;obtain⟨O,K,B2,yT⟩:=(H1.o.ext Bw.o.ext).basis.at hlt;subst B2;obtain⟨bi,Ck⟩:=b8 (basis[k]?.getD 0);have GU:=ae Ck;rw[<-Ck]at yT;clear Ck;have Ct:=ae (iW ⟨rows,basis,(m:Int)⟩ c k);have FF:(0:Int)<=(k:Int):=by omega
       have BH:(k:Int)<(bn:Int):=by omega
       have HUP:=ae (fun I (zd:basis[st.toNat]?.getD 0=I)=>show bO ⟨rows,basis,(m:Int)⟩ c (k+1)=if BV st cc bi I=true then((k:Int),(d1,d2)) else(st,(l1,l2))by
        show dG _ c (bO _ c k) k=_;rw[HL.o,OT.o]
        exact qK HU.o yt.o YF.o (by rw[<-CA.o];have:=Hc.o;omega) CV.o GU.o.symm zd)
       go_upto_region 12 with fail
       go_cut [82] (fun s82 wx=>∃I:Int,s82=.bool (BV st cc bi I)/\b7 (basis[st.toNat]?.getD 0=I)/\b7 (Ext w6 wx))
       case first =>
        have k7:Ext w6 w6.drew:=Ext.drew w6;by_cases hst:st<0
        ·have I1:decide (st<0)=true:=decide_eq_true hst;refine wp_region_held_drew (S:=(fun w'=>w'.cell? ⟨w.heap.size,1,none⟩=some (.slice (some ⟨O,K,none⟩) bn bc)/\w'.cell? ⟨O,K+k,none⟩=some (.int .i64 bi)/\Ext w6 w')) e8 ?_ (fun k9=>?_)
         ·exact⟨k7.k6 c1,k7.k6 yT,k7⟩
         refine tk 0 ?_;refine tk 1 ?_;refine tk 2 ?_;refine sk 3 ?_;refine sk 4 ?_;refine tk 5 ?_;refine tk 6 ?_;refine sk 7 ?_;refine sk 8 ?_;refine sk 9 ?_;refine sk 10 ?_;refine sk 11 ?_;refine sk 12 ?_;refine sk 13 ?_;refine sk 14 ?_;refine sk 15 ?_;refine sk 16 ?_;refine sk 17 ?_;refine sk 18 ?_;refine sk 19 ?_;refine sk 20 ?_;refine sk 21 ?_;refine tk 22 ?_;refine wpAnyH_done e8 ?_ _;go_wp2_with fail;go_meet;exact⟨_,by unfold BV;rw[I1];rfl,ae rfl,ae k7⟩
        ·have I1:decide (st<0)=false:=decide_eq_false b9;obtain⟨sn,rfl⟩:∃sn:Nat,st=sn:=⟨st.toNat,by omega⟩;have IP:sn<bn:=by have:=Ct.o;rw[HL.o]at this;simp only at this;omega
         obtain⟨fb,Ei,Tq,IY⟩:=(H1.o.ext Bw.o.ext).basis.at IP;simp only[Option.some.injEq,Addr.mk.injEq,and_true]at Tq;obtain⟨rfl,rfl⟩:=Tq;obtain⟨I,zd⟩:=b8 (basis[sn]?.getD 0);have AF:=ae (show basis[Int.toNat (sn:Int)]?.getD 0=I by rw[Int.toNat_natCast,zd]);rw[<-zd]at IY;have hs0':(0:Int)<=(sn:Int):=by omega
         have WE:(sn:Int)<(bn:Int):=by omega
         clear zd;by_cases J:cc<0
         ·have FI:decide (cc<0)=true:=decide_eq_true J;refine wp_region_held_drew (S:=(fun w'=>w'.cell? ⟨w.heap.size,1,none⟩=some (.slice (some ⟨O,K,none⟩) bn bc)/\w'.cell? ⟨O,K+k,none⟩=some (.int .i64 bi)/\Ext w6 w')) e8 ?_ (fun k9=>?_)
          ·exact⟨k7.k6 c1,k7.k6 yT,k7⟩
          refine tk 0 ?_;refine tk 1 ?_;refine tk 2 ?_;refine tk 3 ?_;refine tk 4 ?_;refine tk 5 ?_;refine tk 6 ?_;refine sk 7 ?_;refine sk 8 ?_;refine sk 9 ?_;refine sk 10 ?_;refine sk 11 ?_;refine sk 12 ?_;refine sk 13 ?_;refine sk 14 ?_;refine sk 15 ?_;refine sk 16 ?_;refine sk 17 ?_;refine sk 18 ?_;refine sk 19 ?_;refine sk 20 ?_;refine sk 21 ?_;refine tk 22 ?_;refine wpAnyH_done e8 ?_ _;go_wp2_with fail;go_meet;exact⟨I,by unfold BV;rw[I1,FI];rfl,AF,ae k7⟩
         ·have FI:decide (cc<0)=false:=decide_eq_false b9;by_cases y5:cc=0
          ·subst y5;refine wp_region_held_drew (S:=(fun w'=>w'.cell? ⟨w.heap.size,1,none⟩=some (.slice (some ⟨O,K,none⟩) bn bc)/\w'.cell? ⟨O,K+k,none⟩=some (.int .i64 bi)/\w'.cell? ⟨O,K+sn,none⟩=some (.int .i64 I)/\Ext w6 w')) e8 ?_ (fun k9=>?_)
           ·exact⟨k7.k6 c1,k7.k6 yT,k7.k6 IY,k7⟩
           refine tk 0 ?_;refine tk 1 ?_;refine tk 2 ?_;refine tk 3 ?_;refine tk 4 ?_;refine tk 5 ?_;refine tk 6 ?_;refine tk 7 ?_;refine tk 8 ?_;refine tk 9 ?_;refine tk 10 ?_;refine tk 11 ?_;refine tk 12 ?_;refine tk 13 ?_;refine tk 14 ?_;refine tk 15 ?_;refine tk 16 ?_;refine tk 17 ?_;refine tk 18 ?_;refine tk 19 ?_;refine tk 20 ?_;refine tk 21 ?_;refine tk 22 ?_;refine wpAnyH_done e8 ?_ _;go_wp2_with fail;go_meet;exact⟨I,by unfold BV;rw[I1];rfl,AF,ae k7⟩
          ·have P8:(cc == 0)=false:=by simp;omega
           refine wp_region_held_drew (S:=(fun w'=>w'.cell? ⟨w.heap.size,1,none⟩=some (.slice (some ⟨O,K,none⟩) bn bc)/\w'.cell? ⟨O,K+k,none⟩=some (.int .i64 bi)/\Ext w6 w')) e8 ?_ (fun k9=>?_)
           ·exact⟨k7.k6 c1,k7.k6 yT,k7⟩
           refine tk 0 ?_;refine tk 1 ?_;refine tk 2 ?_;refine tk 3 ?_;refine tk 4 ?_;refine tk 5 ?_;refine tk 6 ?_;refine tk 7 ?_;refine tk 8 ?_;refine tk 9 ?_;refine sk 10 ?_;refine sk 11 ?_;refine sk 12 ?_;refine sk 13 ?_;refine sk 14 ?_;refine sk 15 ?_;refine sk 16 ?_;refine sk 17 ?_;refine sk 18 ?_;refine sk 19 ?_;refine sk 20 ?_;refine tk 21 ?_;refine tk 22 ?_;refine wpAnyH_done e8 ?_ _;go_wp2_with fail;go_meet;exact⟨I,by unfold BV;rw[I1,FI,decide_eq_false y5];rfl,AF,ae k7⟩
       obtain⟨I,rfl,AF,Uf⟩:=hcut;have Cb:=ae (Bw.o.grow Uf.o);have JV:=ae (R'.o.grow Uf.o);have Yu:=ae (HUP.o I AF.o);clear c1 yT;cases Md:BV st cc bi I
       ·have zW:=ae (show bO ⟨rows,basis,(m:Int)⟩ c (k+1)=(st,(l1,l2))by rw[Yu.o,Md];rfl);go_wp2_with fail
        go_roundg (g1-1)
        case measure=>have:=R.o;omega
        case rel=>exact⟨k+1,st,l1,l2,ae (j4 R.o),by go_num,rfl,zW,Cb⟩
       ·have zW:=ae (show bO ⟨rows,basis,(m:Int)⟩ c (k+1)=((k:Int),(d1,d2))by rw[Yu.o,Md];rfl);have g0:=JV.o.c0;have g1':=JV.o.c1;have b0:=Cb.o.c0;have b1:=Cb.o.c1;have bf:=Cb.o.free;have UO:=ae ((Cb.o.grow (Ext.drew wc)).put d1 d2);go_upto_region 13 with fail
        go_still_tail 3,e8
        go_wp2_with fail
        go_roundg (g1-1)
        case measure=>have:=R.o;omega
        case rel=>exact⟨k+1,(k:Int),d1,d2,ae (j4 R.o),by go_num,rfl,zW,UO⟩
    ·have xQ:bn=k:=by have:=R.o;omega
     subst xQ;have HY:=ae (show bP ⟨rows,basis,(m:Int)⟩ (c:Int)=st by rw[HR.o,HL.o]);go_wp2_with fail;go_ret;exact⟨aU HY.o.symm,X1.o.trans HB.o.ext⟩
end
theorem AP.DZ{base G N cap:Nat}{vs:List Value}(h:AP w base (some ⟨G,0,none⟩) N cap vs M){g:Nat}(hi:i<N)(hv:vs[i]?.getD undef=.slice (some ⟨g,0,none⟩) n c)(hj:j<(M[i]?.getD []).length)(x y:Int):
 AP ((w.setCell ⟨g,j*2,none⟩ (.int .i64 x)).setCell ⟨g,j*2+1,none⟩ (.int .i64 y)) base (some ⟨G,0,none⟩) N cap vs (M.set i ((M[i]?.getD []).set j (x,y))):=by
 have Bb:i<M.length:=by rw[h.len];exact hi
 have hr:=h.rows.row i Bb;rw[hv]at hr;have hgG:g≠G:=fun e=>hr.apart h.own g rfl (by subst e;rfl)
 have zi:∀k,k≠g->((w.setCell ⟨g,j*2,none⟩ (.int .i64 x)).setCell ⟨g,j*2+1,none⟩ (.int .i64 y)).heap[k]?=w.heap[k]?:=fun k hk=>by
  rw[heap_setCell_other _ _ _ _ hk,heap_setCell_other _ _ _ _ hk]
 refine⟨h.own.keep fun k hk=>zi k (by simp only[Value.ownBlock,Option.some.injEq]at hk;show k≠g;omega),?_⟩;refine⟨by rw[List.length_set];exact h.rows.len,fun k hk=>?_,fun a b k JF hb=>h.rows.apart a b k JF (by rw[List.length_set]at hb;exact hb)⟩;rw[List.length_set]at hk;by_cases D8:k=i
 ·subst D8;rw[hv,List.getElem?_set_self Bb];exact hr.set hj x y
 ·rw[List.getElem?_set_ne (Ne.symm D8)];refine(h.rows.row k hk).keep fun b hb=>zi b fun e=>?_
  subst e
  rcases Nat.lt_or_gt_of_ne D8 with hlt|hlt
  ·exact h.rows.apart k i _ hlt Bb hb (by rw[hv];rfl)
  ·exact h.rows.apart i k _ hlt hk (by rw[hv];rfl) hb
structure DK(w:World)(base g G N cap:Nat)(vb:Value)(x:Int)(vs:List Value)(M:List (j6))(l:j9):Prop where
 box:w.heap[g]?=some (.cells #[.slice (some ⟨G,0,none⟩) N cap,vb,.int .i64 x] 108 (0,0))
 hg:base<=g
 m:AP w base (some ⟨G,0,none⟩) N cap vs M
 b:o8 w base vb l
section
variable{w:World}{base g G N cap:Nat}{vb:Value}{x:Int}{vs:List Value}{M:List (j6)}{l:j9}
theorem DK.ext{w':World}(h:DK w base g G N cap vb x vs M l)(hx:Ext w w'):DK w' base g G N cap vb x vs M l:=⟨(hx.block _ (lt_of_block h.box)).trans h.box,h.hg,h.m.ext hx,h.b.ext hx⟩
theorem DK.own(h:DK w base g G N cap vb x vs M l):yK w base (.slice (some ⟨G,0,none⟩) N cap) vb vs ⟨M,l,x⟩:=⟨h.m.own,h.m.rows,h.b⟩
theorem DK.c0(h:DK w base g G N cap vb x vs M l):w.cell? ⟨g,0,none⟩=some (.slice (some ⟨G,0,none⟩) N cap):=au h.box
theorem DK.VO(h:DK w base g G N cap vb x vs M l){i:Nat}{g':Nat}(hi:i<M.length)(hv:(vs[i]?.getD undef).ownBlock=some g'):g'≠g/\vb.ownBlock≠some g':=by
 have hr:=h.m.rows.row i hi;exact⟨fun e=>(av hr h.box (by decide)) (by rw[hv,e]),fun e=>aY (by decide) hr h.b g' hv e⟩
theorem DK.DZ(h:DK w base g G N cap vb x vs M l){i n g' c:Nat}(hi:i<N)(hv:vs[i]?.getD undef=.slice (some ⟨g',0,none⟩) n c){j:Nat}(hj:j<(M[i]?.getD []).length)(p q:Int):
 DK ((w.setCell ⟨g',j*2,none⟩ (.int .i64 p)).setCell ⟨g',j*2+1,none⟩ (.int .i64 q)) base g G N cap vb x vs (M.set i ((M[i]?.getD []).set j (p,q))) l:=by
 obtain⟨h1,h2⟩:=h.VO (i:=i) (g':=g') (by rw[h.m.len];exact hi) (by rw[hv];rfl);refine⟨?_,h.hg,h.m.DZ hi hv hj p q,h.b.keep fun k hk=>?_⟩
 ·rw[heap_setCell_other _ _ _ _ h1.symm,heap_setCell_other _ _ _ _ h1.symm];exact h.box
 ·have:k≠g':=fun e=>h2 (by rw[hk,e])
  rw[heap_setCell_other _ _ _ _ this,heap_setCell_other _ _ _ _ this]
theorem DK.put{I:World}(h:DK w base g G N cap vb x vs M l)(hx:Ext w I)(hb:base<=w.heap.size){v:Value}{r:j6}(ho:l8 I w.heap.size v r){i:Nat}(hi:i<N):
 DK (I.setCell ⟨G,i,none⟩ v) base g G N cap vb x (vs.set i v) (M.set i r) l:=by
 have h2:=h.ext hx;have J:g≠G:=fun e=>(av h.m.own h.box (by decide)) (by rw[e];rfl)
 refine⟨by rw[heap_setCell_other _ _ _ _ J];exact h2.box,h.hg,h.m.put hx hb ho hi,h2.b.keep fun k hk=>heap_setCell_other _ _ _ _ fun e=>?_⟩;exact aY (by decide) h2.b h2.m.own k hk (by subst e;rfl)
theorem DK.VS{B n bc:Nat}(h:DK w base g G N cap (.slice (some ⟨B,0,none⟩) n bc) x vs M l)(i:Nat)(z:Int):
 DK (w.setCell ⟨B,i,none⟩ (.int .i64 z)) base g G N cap (.slice (some ⟨B,0,none⟩) n bc) x vs M (l.set i z):=by
 have hBg:g≠B:=fun e=>(av h.b h.box (by decide)) (by rw[e];rfl)
 refine⟨by rw[heap_setCell_other _ _ _ _ hBg];exact h.box,h.hg,h.m.keep (fun k hk=>heap_setCell_other _ _ _ _ fun e=>?_) (fun j k hj hk=>heap_setCell_other _ _ _ _ fun e=>?_),h.b.set i z⟩
 ·exact aY (by decide) h.m.own h.b k hk (by subst e;rfl)
 ·exact aY (by decide) (h.m.rows.row j (by rw[h.m.len];exact hj)) h.b k hk (by subst e;rfl)
end
def dF(t:Tb)(row wX:Int):Tb:=(bo t row wX).getD t
theorem vZ{row wX:Int}(h:dN t row wX=false):bo t row wX=none:=by unfold bo;rw[h];rfl
theorem jL(h:dN t (r:Int) (c:Int)=true):bo t r c=fD t r c:=by unfold bo;rw[if_pos h];rfl
theorem jK(h:Bo (t.row r) (t.at r c)=none):fD t r c=none:=by unfold fD;rw[h];rfl
theorem lu(h:Bo (t.row r) (t.at r c)=some main):fD t r c=(y7 t r c main t.rows.length).map fun rs=>⟨rs,t.basis.set r (c:Int),t.q8⟩:=by unfold fD;rw[h];rfl
theorem pk(h:y7 t r c main k=none):∀{n:Nat},k<=n->y7 t r c main n=none
 | n,hn=>by
   obtain⟨d,rfl⟩:∃d,n=k+d:=⟨n-k,by omega⟩;clear hn
   induction d with
   | zero=>exact h
   | succ d ih=>show(y7 t r c main (k+d)).bind _=none;rw[ih];rfl
theorem pi{t:Tb}{r c:Nat}{main:j6}(hr:r<t.rows.length):∀{k:Nat} {M:List (j6)},y7 t r c main k=some M->M.length=t.rows.length/\M[r]?.getD []=main
 | 0,M,h=>by
   simp only[y7,Option.some.injEq]at h;subst h;exact⟨by simp,by rw[List.getElem?_set_self hr];rfl⟩
 | k+1,M,h=>by
   simp only[y7]at h;cases e:y7 t r c main k with
   | none=>rw[e]at h;cases h
   | some s0 =>
     rw[e]at h;simp only[Option.bind_some]at h;obtain⟨h1,h2⟩:=pi hr e;unfold Jq at h
     split at h
     ·simp only[Option.some.injEq]at h;subst h;exact⟨h1,h2⟩
     ·next hn =>
      rw[Option.map_eq_some_iff]at h;obtain⟨x,_,rfl⟩:=h;refine⟨by rw[List.length_set,h1],?_⟩;rw[List.getElem?_set_ne (fun e=>hn (.inl e))];exact h2
theorem pl(h:y7 t r c main k=some M)(hs:k=r∨t.at k c=(0,1)):y7 t r c main (k+1)=some M:=by
 simp only[y7,h,Option.bind_some,Jq,if_pos hs]
theorem tn(h:y7 t r c main k=some M)(hs:¬(k=r∨t.at k c=(0,1))):y7 t r c main (k+1)=(zo (t.row k) (wR (t.at k c)) main).map fun x=>M.set k x:=by
 simp only[y7,h,Option.bind_some,Jq,if_neg hs]
theorem TP{r m:j6}{q:k5}(hm:m.length=j)(hj:j<r.length):(m++r.drop j).set j q=(m++[q])++r.drop (j+1):=by
 rw[List.set_append_right _ _ b9,hm,Nat.sub_self,List.drop_eq_getElem_cons hj,List.set_cons_zero,List.append_assoc];rfl
end Go.Proofs.YtalmoolkhcgmmaaGreat
