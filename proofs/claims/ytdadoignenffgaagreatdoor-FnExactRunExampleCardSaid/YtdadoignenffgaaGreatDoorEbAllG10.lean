import Derived.Test.YtdadoignenffgaaGreatDoorEbAllG9
import Derived.Test.YtdadoignenffgaaGreatDoorEbAllG8
import Derived.Test.YtdadoignenffgaaGreatDoorEbAllG0
import Derived.StillTail
import Derived.Deep.RegionHeld3
import Derived.StillTailTactics
set_option linter.unusedVariables false
set_option linter.unusedSimpArgs false
namespace Go.Proofs.YtdadoignenffgaaGreatDoor
variable{t:Tb}{cost costs:j4}{k m c i f:Nat}{w:World}{a:Act}{listed:Array Bool}{oi:Oper}{v:Value}
set_option maxHeartbeats 16000000
set_option maxRecDepth 100000
open Go.RowKit
theorem ol(h:dg t cost k=none):∀{n:Nat},k<=n->dg t cost n=none
 | n,hn=>by
   obtain⟨d,rfl⟩:∃d,n=k+d:=⟨n-k,by omega⟩;clear hn
   induction d with
   | zero=>exact h
   | succ d ih=>show(dg t cost (k+d)).bind _=none;rw[ih];rfl
theorem M6{A B r:j4}{k:j8}(h:Bl A k B=some r):r.length=A.length:=by
 unfold Bl at h;split at h
 ·exact dO h
 ·cases h
theorem kQ{t:Tb}{cost:j4}:∀{k:Nat} {cs:j4},dg t cost k=some cs->cs.length=cost.length+1
 | 0,cs,h=>by simp only[dg,bA]at h;rw[<-h];simp
 | k+1,cs,h=>by
   simp only[dg]at h;cases e:dg t cost k with
   | none=>rw[e]at h;cases h
   | some c0=>rw[e]at h;simp only[G3]at h;rw[M6 h,kQ e]
theorem gO{ra:j6}{rn rc:Nat}{ba:j6}{bn bc:Nat}(h:Hg w ra rn rc ba bn bc t)(ok:Cl t=true):
 ∃m:Nat,t.r7=m/\m<=1000/\bn=rn/\(∀i,i<rn->(t.row i).length=m+rn+1)/\∀i,i<rn->∃b:Nat,t.basis[i]?.getD 0=(b:Int)/\b<m+rn:=by
 have l1:=h.rows.hlen;have l2:=h.basis.hlen;unfold Cl at ok;simp only[xf,sw,Di,r9]at ok;obtain⟨⟨h1,h2⟩,h3,h4,h5⟩:=ok;refine⟨t.r7.toNat,by omega,by omega,by omega,fun i hi=>?_,fun i hi=>?_⟩
 ·have:=h5 _ (vl (l:=t.rows) (n:=i) e7);unfold Tb.row;rw[bk e7,l'];omega
 ·have:=h4 _ (vl (l:=t.basis) (n:=i) e7);rw[bk e7,l'];exact⟨t.basis[i].toNat,by omega,by omega⟩
section
variable{w:World}{ra:j6}{rn rc:Nat}{ba:j6}{bn bc:Nat}{t:Tb}
theorem xL(h:Hg w ra rn rc ba bn bc t)(CP:rn<=100000){Z:j6}{G U:Nat}{cost:j4}(hk:Rats w Z G U cost):
 Calls Tryz.prog 231 #[Gw ra rn rc ba bn bc t.r7,.slice Z G U] w fun e w'=>(∃v,e=.returned (.tuple #[v,.bool (cJ t cost).isSome])/\o0 w' w.heap.size v ((cJ t cost).getD []))/\Ext w w':=by
 have HF:=ae (iY (h.ext (Ext.alloc w (cj ra rn rc ba bn bc t.r7))) e7);have VG:=ae (fun ok=>gO h ok);obtain⟨rows,basis,x⟩:=t;have y9:=Ext.alloc w (cj ra rn rc ba bn bc x);have y7:=ae y9;have H:=ae (h.ext y9);have QC:=ae (hk.ext y9);have AX:=h.rows.l8;have B9:=h.rows.l9;have AS:=h.basis.l8;have AD:=h.basis.l9;have BR:=hk.l8;have k7:=hk.l9;have A1:=ae h.rows.hlen;have Ib:=ae hk.hlen
 have HE:=ae (show cJ ⟨rows,basis,x⟩ cost=if(Cl ⟨rows,basis,x⟩&&(decide ((G:Int)=x+(rn:Int))&&Bb cost))=true then dg ⟨rows,basis,x⟩ cost rn else none by
  unfold cJ oq;simp only;rw[h.rows.hlen,hk.hlen])
 clear h hk y9
 show Calls _ _ #[Gw ra rn rc ba bn bc x,.slice Z G U] w _;cases zO:Cl ⟨rows,basis,x⟩
 ·rw[zO]at HF;have HN:=ae (show cJ ⟨rows,basis,x⟩ cost=none by rw[HE.o,zO];rfl);clear zO;go_enter adq,ac8
  go_wp2_with fail;refine HF.o.mono ?_;rintro e w1 ⟨rfl,hx⟩;have X1:=ae (y7.o.trans hx);clear hx;go_wp2_with fail;refine bR (v:=.tuple #[.slice none 0 0,.bool false]) (by simp[results,abW,go_sem]) rfl ⟨⟨.slice none 0 0,by rw[HN.o];rfl,by rw[HN.o];exact o0.nil _ _⟩,X1.o⟩
 ·rw[zO]at HF;obtain⟨m,IV,hm,GC,Br,J'⟩:=VG.o zO;simp only at IV;subst IV GC;have Wo:=ae zO;replace Br:=ae Br;replace J':=ae J';clear zO;by_cases Ci:G=m+bn
  ·subst Ci;have Ha:((m+bn:Nat):Int)=(m:Int)+(bn:Int):=by simp
   have hne:(((m+bn:Nat):Int) != (m:Int)+(bn:Int))=false:=by simp
   have HV:=ae (fun(W:World) (hx:Ext (w.alloc (cj ra bn rc ba bn bc (m:Int))) W)=>oB (QC.o.ext hx));cases hv:Bb cost
   ·simp only[hv]at HV;have HN:=ae (show cJ ⟨rows,basis,(m:Int)⟩ cost=none by rw[HE.o,Wo.out,hv,Ha];simp);clear hv;go_enter adq,ac8
    go_wp2_with fail;refine HF.o.mono ?_;rintro e w1 ⟨rfl,hx⟩;have c0:w1.cell? ⟨w.heap.size,0,none⟩=some (.slice ra bn rc):=hx.j9 e8;have c2:w1.cell? ⟨w.heap.size,2,none⟩=some (.int .i64 (m:Int)):=hx.j9 e8;have X1:=ae hx;clear hx;go_wp2_with fail;refine(HV.o _ X1.o).mono ?_;rintro e w2 ⟨rfl,hx⟩;have X2:=ae ((y7.o.trans X1.o).trans hx);clear hx;go_wp2_with fail;refine bR (v:=.tuple #[.slice none 0 0,.bool false]) (by simp[results,abW,go_sem]) rfl ⟨⟨.slice none 0 0,by rw[HN.o];rfl,by rw[HN.o];exact o0.nil _ _⟩,X2.o⟩
   ·simp only[hv]at HV;have HV2:=ae (show cost.all o9=true from hv);have CU:=ae (show cJ ⟨rows,basis,(m:Int)⟩ cost=dg ⟨rows,basis,(m:Int)⟩ cost bn by rw[HE.o,Wo.out,hv,Ha];simp);clear hv;go_enter adq,ac8
    go_wp2_with fail;refine HF.o.mono ?_;rintro e w1 ⟨rfl,hx⟩;have c0:w1.cell? ⟨w.heap.size,0,none⟩=some (.slice ra bn rc):=hx.j9 e8;have c2:w1.cell? ⟨w.heap.size,2,none⟩=some (.int .i64 (m:Int)):=hx.j9 e8;have X1:=ae hx;clear hx;go_wp2_with fail;refine(HV.o _ X1.o).mono ?_;rintro e w2 ⟨rfl,hx⟩;have X2:=ae (X1.o.trans hx);clear hx c0 c2;have CV:=ae (og (QC.o.ext X2.o) e7);go_wp2_with fail;refine CV.o.mono ?_;rintro e w3 ⟨v3,rfl,Av,hx⟩;obtain⟨a3,n3,p3,rfl,Ia⟩:=Av.var;have X3:=ae (X2.o.trans hx);have zi:=ae (Av.mono (show w.heap.size+1<=w2.heap.size by have:=X2.o.size;simpa using this));clear hx Av;go_wp2_with fail;refine(cX 0 _).mono ?_;rintro e w4 ⟨rfl,hx⟩;have X4:=ae (X3.o.trans hx);have Ar:=ae (zi.o.ext hx);have Us:w.heap.size+1<=w4.heap.size:=by have:=X4.o.size;simpa using this
    clear hx
    go_wp2_with (first
     | (at_builtin;refine aM rfl _ _ rfl (w.heap.size+1) (.slice a3 n3 p3) _ rfl (Ar.o.ext (Ext.alloc _ _)) _ 1 _ [(0,1)] rfl (Rats.one' _ _ _ _ _ e8) (by rw[Ib.o];omega) (by simp;omega) ?_;intro v5 w5 ho hg k9;have X5:=ae (ak (X4.o.trans (Ext.alloc _ _)) hg (fun j hj=>by have:=(Ar.o.lt j hj).1;simpa using this));obtain⟨a5,n5,p5,rfl,CF⟩:=ho.var;have zW:=ae ho;clear ho hg k9;have c0:w5.cell? ⟨w.heap.size,0,none⟩=some (.slice ra bn rc):=X5.o.j9 e8))
    go_loopg [6,38] bn (fun gk o ii wr=>∃(k:Nat) (a1:j6) (J p1:Nat) (cs:j4),b7 (gk+k=bn)/\ii=.int .i64 (k:Int)/\o=.slice a1 J p1/\b7 (dg ⟨rows,basis,(m:Int)⟩ cost k=some cs)/\b7 (o0 wr (w.heap.size+1) (.slice a1 J p1) cs)/\b7 (Ext (w.alloc (cj ra bn rc ba bn bc (m:Int))) wr))
    case atStart=>exact⟨0,_,_,_,_,ae e7,rfl,rfl,ae rfl,zW,X5⟩
    case round =>
     obtain⟨g1,o7⟩:=b9 gk;subst o7;obtain⟨o6,o5⟩:=b9 wr;subst o5;obtain⟨k,a1,J,p1,cs,HK,rfl,rfl,HC,HO,HX⟩:=hrel;clear c0;by_cases hlt:k<bn
     ·obtain⟨zb,zL,za,zn,zc,Dp,AU,o8⟩:=(H.o.ext HX.o).rows.at hlt;subst Dp;have CA:=ae o8;obtain⟨b,H6,JE⟩:=J'.o k hlt;obtain⟨yb,zE,ET,BG⟩:=(H.o.ext HX.o).basis.at hlt;subst ET;simp only[H6]at BG;obtain⟨xb,MI,p,q,SO,zR,y9,zK⟩:=(QC.o.ext HX.o).at (show b<m+bn from JE);subst SO;have Ay:=ae zR;have HBK:=ae H6;have c1:o6.cell? ⟨w.heap.size,1,none⟩=some (.slice (some ⟨yb,zE,none⟩) bn bc):=HX.o.j9 e8;have FT:=ae (aQ (p:=(p,q)) (by rw[<-Ay.o,bk (by rw[Ib.o];exact JE),l'];exact(Di.1 HV2.o) _ (vl _)));have F7:-9223372036854775807<=p:=by have:=FT.o.2.2.1;simp only at this;omega
      have G9:p<=9223372036854775807:=by have:=FT.o.2.2.2;simp only at this;omega
      have BE:=ae (kQ HC.o);have hbl0:(b:Int)<((m+bn:Nat):Int):=by omega
      clear zR H6 o8;go_wp2_with fail;refine(eo p q _ F7 G9).mono ?_;rintro e w6 ⟨rfl,hx⟩;have X6:=ae (HX.o.trans hx);have I:=ae (mA (k1:=-p) (k2:=q) ((HO.o.ext hx).zj) (CA.o.ext hx) (by have:=(HO.o).zj.hlen;have:=BE.o;have:=Ib.o;omega));obtain⟨sv,IY⟩:=b9 (Bl cs (-p,q) (rows[k]?.getD []))
      have AT:=ae (show dg ⟨rows,basis,(m:Int)⟩ cost (k+1)=sv by
       rw[IY]
       show(dg ⟨rows,basis,(m:Int)⟩ cost k).bind _=_;rw[HC.o]
       show Bl cs (ze (cost[(basis[k]?.getD 0).toNat]?.getD (0,0))) (rows[k]?.getD [])=_
       rw[show basis[k]?.getD 0=(b:Int)from HBK.o,CI,Ay.o];rfl)
      rw[<-IY]at I;clear IY hx;cases sv with
      | none =>
        have HN:=ae (show cJ ⟨rows,basis,(m:Int)⟩ cost=none by rw[CU.o];exact ol AT.o hlt);go_wp2_with fail;refine I.o.mono ?_;rintro e w7 ⟨⟨v7,rfl,O⟩,hx⟩;have X7:=ae ((y7.o.trans X6.o).trans hx);clear O hx;go_wp2_with fail;refine bR (v:=.tuple #[.slice none 0 0,.bool false]) (by simp[results,abW,go_sem]) rfl ⟨⟨.slice none 0 0,by rw[HN.o];rfl,by rw[HN.o];exact o0.nil _ _⟩,X7.o⟩
      | some K =>
        go_wp2_with fail;refine I.o.mono ?_;rintro e w7 ⟨⟨v7,rfl,O⟩,hx⟩;obtain⟨a7,n7,p7,rfl,H9⟩:=O.var;have IJ:=ae (show o0 w7 (w.heap.size+1) (.slice a7 n7 p7) K from o0.mono O (by have:=X6.o.size;simpa using this));have X7:=ae (X6.o.trans hx);clear O hx;go_wp2_with fail
        go_roundg (g1-1)
        case measure=>have:=HK.o;omega
        case rel=>exact⟨k+1,a7,n7,p7,K,ae (j1 HK.o),by go_num,rfl,AT,IJ,X7⟩
     ·have zQ:bn=k:=by have:=HK.o;omega
      subst zQ;have HY:=ae (show cJ ⟨rows,basis,(m:Int)⟩ cost=some cs by rw[CU.o];exact HC.o);go_wp2_with fail;refine bR (v:=.tuple #[.slice a1 J p1,.bool true]) (by simp[results,abW,go_sem]) rfl ⟨⟨.slice a1 J p1,by rw[HY.o];rfl,by rw[HY.o];exact HO.o.mono (Cj _)⟩,y7.o.trans HX.o⟩
  ·have hne:((G:Int) != (m:Int)+(bn:Int))=true:=by simp;omega
   have HN:=ae (show cJ ⟨rows,basis,(m:Int)⟩ cost=none by rw[HE.o,u' (by omega:¬(G:Int)=(m:Int)+(bn:Int))];simp);go_enter adq,ac8
   go_wp2_with fail;refine HF.o.mono ?_;rintro e w1 ⟨rfl,hx⟩;have c0:w1.cell? ⟨w.heap.size,0,none⟩=some (.slice ra bn rc):=hx.j9 e8;have c2:w1.cell? ⟨w.heap.size,2,none⟩=some (.int .i64 (m:Int)):=hx.j9 e8;have X1:=ae (y7.o.trans hx);clear hx;go_wp2_with fail;refine bR (v:=.tuple #[.slice none 0 0,.bool false]) (by simp[results,abW,go_sem]) rfl ⟨⟨.slice none 0 0,by rw[HN.o];rfl,by rw[HN.o];exact o0.nil _ _⟩,X1.o⟩
end
theorem NN(x y:Int)(w:World):Calls Tryz.prog 252 #[Aj x y] w fun e w'=>e=.returned (.int .i64 (zV (x,y) (0,1)))/\Ext w w':=by
 obtain⟨W,hW⟩:=b9 (w.alloc (.cells #[.int .i64 x,.int .i64 y] 62));have HX:=ae (show Ext w W by rw[hW];exact Ext.alloc _ _);have c0:W.cell? ⟨w.heap.size,0,none⟩=some (.int .i64 x):=by rw[hW];simp
 have c1:W.cell? ⟨w.heap.size,1,none⟩=some (.int .i64 y):=by rw[hW];simp
 go_enter Tryz.func252,Tryz.ntmps252
 go_upto_region 1 with fail;rw[<-hW];clear hW;have k7:Ext W W.drew:=Ext.drew W;have G:=k7;have k8:=ae (fun(w':World) (h:Ext W w')=>(⟨h.j9 c0,h.j9 c1,h⟩:w'.cell? ⟨w.heap.size,0,none⟩=some (.int .i64 x)/\w'.cell? ⟨w.heap.size,1,none⟩=some (.int .i64 y)/\Ext W w'))
 go_region_held3 (fun w'=>w'.cell? ⟨w.heap.size,0,none⟩=some (.int .i64 x)/\w'.cell? ⟨w.heap.size,1,none⟩=some (.int .i64 y)/\Ext W w')
  (with_reducible exact k8.o _ k7)
  (first
    | (go_at_call 71
       (with_reducible refine(cX 0 _).mono ?_)
       rintro e w3 ⟨rfl,J⟩;have k7:Ext W w3:=k7.trans J
       have F5:=k7.size)
    | (go_at_call 73
       (with_reducible refine(iX x y 0 1 _).mono ?_)
       rintro e w4 ⟨rfl,I⟩;have k7:Ext W w4:=k7.trans I
       have Hv:=k7.size)
    | fail)
 clear k8 G;go_wp2_with fail;go_ret;exact⟨rfl,HX.o.trans k7⟩
theorem xF(h:costs.length<m):bz costs m=-1:=by unfold bz;rw[hI e7]
theorem qp{j:Nat}(h:m<=costs.length)(hj:j<m)(h0:(costs.take j).all (fun c=>!fw c)=true)(h1:fw (costs[j]?.getD (0,0))=true):bz costs m=j:=by
 unfold bz;rw[hD e7];refine eQ (d:=(0,0)) (by simp;omega) (by rw[CI,aa3,abw e7];exact h0) ?_;rw[CI,aao,hI hj];exact h1
theorem mt(h:m<=costs.length)(h0:(costs.take m).all (fun c=>!fw c)=true):bz costs m=-1:=by
 unfold bz;rw[hD e7,CI];exact dP h0
theorem ms{j:Nat}{c:j8}(hj:j<costs.length)(hc:costs[j]?.getD (0,0)=c)(h0:(costs.take j).all (fun c=>!fw c)=true)(h1:fw c=false):(costs.take (j+1)).all (fun c=>!fw c)=true:=by
 rw[gN hj,RN,h0,hc];simp[h1]
theorem ng{ra:j6}{rn rc:Nat}{ba:j6}{bn bc:Nat}{x:Int}{a:j6}{n cap:Nat}(h:Rats w a n cap costs)(m:Nat)(hm:m<=100000):
 Calls Tryz.prog 232 #[Gw ra rn rc ba bn bc x,.slice a n cap,.int .i64 (m:Int)] w fun e w'=>e=.returned (.int .i64 (bz costs m))/\Ext w w':=by
 have y9:=Ext.alloc w (cj ra rn rc ba bn bc x);have y7:=ae y9;have H:=ae (h.ext y9);have Ba:=h.l8;have CY:=h.l9;have HL:=ae h.hlen;clear h y9;by_cases G:n<m
 ·have HN:=ae (show bz costs m=-1 from xF (by rw[HL.o];exact G));have CQ:(m:Int) > (n:Int):=by omega
  go_enter Tryz.func232,Tryz.ntmps232
  go_wp2_with fail;go_ret;exact⟨ap HN.o.symm,y7.o⟩
 ·have hle:¬(m:Int) > (n:Int):=by omega
  go_enter Tryz.func232,Tryz.ntmps232
  go_wp2_with fail
  go_loopg [7] m (fun gk ii wr=>∃k:Nat,b7 (gk+k=m)/\ii=.int .i64 (k:Int)/\b7 ((costs.take k).all (fun c=>!fw c)=true)/\b7 (Ext (w.alloc (cj ra rn rc ba bn bc x)) wr))
  case atStart=>exact⟨0,ae e7,rfl,ae rfl,ae (Ext.refl _)⟩
  case round =>
   obtain⟨g1,Z⟩:=b9 gk;subst Z;obtain⟨o6,o5⟩:=b9 wr;subst o5;obtain⟨k,I,rfl,HA,HX⟩:=hrel;by_cases hlt:k<m
   ·have O:k<n:=by omega
    obtain⟨zb,zL,p,q,Dp,K,AU,Fq⟩:=(H.o.ext HX.o).at O;subst Dp;have Ay:=ae K;have HS:=ae (NN p q o6);obtain⟨U,J⟩:=b9 (zV (p,q) (0,1));have Eh:=ae (show fw (p,q)=decide (U<0)by rw[J];rfl);rw[<-J]at HS;clear K J;by_cases DR:U<0
    ·have HR:=ae (show bz costs m=k from qp (by rw[HL.o];omega) hlt HA.o (by rw[Ay.o,Eh.o,z' DR]));go_wp2_with fail;refine HS.o.mono ?_;rintro e w3 ⟨rfl,hx⟩;have X3:=ae (HX.o.trans hx);clear hx;go_wp2_with fail;go_ret;exact⟨ap HR.o.symm,y7.o.trans X3.o⟩
    ·have HT:=ae (ms (by rw[HL.o];exact O) Ay.o HA.o (by rw[Eh.o,u' DR]));go_wp2_with fail;refine HS.o.mono ?_;rintro e w3 ⟨rfl,hx⟩;have X3:=ae (HX.o.trans hx);clear hx;go_wp2_with fail
     go_roundg (g1-1)
     case measure=>have:=I.o;omega
     case rel=>exact⟨k+1,ae (j1 I.o),by go_num,HT,X3⟩
   ·have Cr:m=k:=by have:=I.o;omega
    subst Cr;have HR:=ae (show bz costs m=-1 from mt (by rw[HL.o];omega) HA.o);go_wp2_with fail;go_ret;exact⟨ap HR.o.symm,y7.o.trans HX.o⟩
section
variable{P:Program}{ops:Array Oper}{Q:Exit->Act->World->Prop}{md:Region.Mode}{S:World->Prop}{M:List Nat}
def fC(M:List Nat)(listed:Array Bool):Prop:=∀j∈M,listed.getD j true=false
theorem fC.set{M:List Nat}{listed:Array Bool}{i:Nat}(h:fC M listed)(hi:i∉M):fC M (listed.setIfInBounds i true):=fun j hj=>by
 rw[aeS true (show i≠j from fun e=>hi (by rw[e];exact hj))];exact h j hj
theorem fC.SE{M:List Nat}{listed:Array Bool}{i:Nat}(h:fC M (listed.setIfInBounds i true))(hi:i∉M):fC M listed:=fun j hj=>by
 have:=h j hj
 rwa [aeS true (show i≠j from fun e=>hi (by rw[e];exact hj))]at this
def cG(P:Program)(md:Region.Mode)(ops:Array Oper)(Q:Exit->Act->World->Prop)(M:List Nat)(S:World->Prop):Nat->Array Bool->Act->World->Prop
 | 0,listed,a,w=>Region.ready md ops listed=[]/\Q .normal a w
 | f+1,listed,a,w=>(Region.ready md ops listed=[]->Q .normal a w) /\
   ∀i∈Region.ready md ops listed,wpOp P ops Q i (fun a' w'=>(fC M (listed.setIfInBounds i true)->S w')/\cG P md ops Q M S f (listed.setIfInBounds i true) a' w') a w
theorem cG.any:∀{f:Nat} {listed:Array Bool} {a:Act} {w:World},cG P md ops Q M S f listed a w->wpAny P md ops Q f listed a w
 | 0,_,_,_,h=>h
 | f+1,_,_,_,h=>⟨h.1,fun i hi=>wpOp_mono (fun a' w' h'=>cG.any h'.2) (h.2 i hi)⟩
theorem kj{i:Nat}{oi:Oper}{v:Value}{T:World->Prop}(hi:ops[i]?=some oi)(J:∀(j:Nat) (o:Oper) cs b,ops[j]?=some o->o.op≠.select cs b)
 (hQ:∀c a w,Q (.panic c) (a.put oi.dst v) w->Q (.panic c) a w) (I:i∉M)
 (hT:(∀w,T w)∨((∀w,S w->T w)/\∀j∈M,∀G,ops[j]?=some G->∃e∈G.after,Region.binds md e=true/\e.on=i)) :
 ∀(f:Nat) (listed:Array Bool) (a:Act) (w:World),
   (∀j G,ops[j]?=some G->j≠i->listed.getD j true=false->(∀e∈G.after,Region.binds md e=true->e.on≠i)->oi.apart ops G=true) ->
   i∈Region.ready md ops listed->YieldsIf P ops T oi v a->(fC M listed->S w)->((∀w,T w)∨fC M listed) ->
   cG P md ops Q M S f (listed.setIfInBounds i true) (a.put oi.dst v) w->cG P md ops Q M S (f+1) listed a w:=by
 have now:∀{listed:Array Bool} {w:World},(fC M listed->S w)->((∀w,T w)∨fC M listed)->T w:=fun{listed w} h1 h2=>by
  rcases h2 with h2|h2
  ·exact h2 w
  ·rcases hT with h3|h3
   ·exact h3 w
   ·exact h3.1 w (h1 h2)
 intro f
 induction f with
 | zero =>
   intro listed a w _ hr hy hS hF H;refine⟨fun h=>absurd hr (by rw[h];exact aaz),fun j hj=>?_⟩;by_cases K:j=i
   ·subst K;exact hy.wpOp hi (now hS hF) ⟨fun h=>hS (h.SE I),H⟩
   ·exact absurd (ready_mono hj K) (by rw[H.1];exact aaz)
 | succ f ih =>
   intro listed a w hfree hr hy hS hF H;refine⟨fun h=>absurd hr (by rw[h];exact aaz),fun j hj=>?_⟩;by_cases K:j=i
   ·subst K;exact hy.wpOp hi (now hS hF) ⟨fun h=>hS (h.SE I),H⟩
   ·obtain⟨YO,G,Z,Ap⟩:=mem_ready.1 hj;have UA:∀e∈G.after,Region.binds md e=true->e.on≠i:=fun e he hb heq=>by
     have h1:=Ap e he hb;have h0:=(mem_ready.1 hr).1;rw[heq]at h1
     rcases ab5 i listed.size with h'|h'
     ·simp[h']at h0 h1;rw[h0]at h1;cases h1
     ·simp[Array.getElem?_eq_none h']at h1
    have step:=wpOp_putIf Z (hfree j G Z K YO UA) (fun cs b=>J i oi cs b hi) (fun cs b=>J j G cs b Z) hQ hy (H.2 j (ready_mono hj K));have UL:∀k ok,ops[k]?=some ok->k≠i->(listed.setIfInBounds j true).getD k true=false ->
     (∀e∈ok.after,Region.binds md e=true->e.on≠i)->oi.apart ops ok=true:=fun k ok hk CX EJ hno=>by
     refine hfree k ok hk CX ?_ hno;by_cases U:j=k
     ·rw[<-U];exact YO
     ·rwa [aeS true U]at EJ
    have hF':(∀w,T w)∨fC M (listed.setIfInBounds j true):=by
     rcases hF with h2|h2
     ·exact .inl h2
     ·rcases hT with h3|h3
      ·exact .inl h3
      ·refine .inr (h2.set fun hjM=>?_);obtain⟨e,he,hb,ho⟩:=h3.2 j hjM G Z;exact UA e he hb ho
    have e1:(listed.setIfInBounds i true).setIfInBounds j true=(listed.setIfInBounds j true).setIfInBounds i true:=Array.setIfInBounds_comm _ _ (aax K);rw[e1]at step;exact wpOp_mono (fun a' w' h3=>⟨fun O=>h3.2.1 (O.set I),ih (listed.setIfInBounds j true) a' w' UL (ready_mono hr (aax K)) h3.1 (fun O=>h3.2.1 (O.set I)) hF' h3.2.2⟩) step
def MJ(md:Region.Mode)(ops:Array Oper)(M:List Nat)(i:Nat):Bool:=M.all fun j=>Region.waitsFor md ops j i
theorem xS{i:Nat}{oi:Oper}{v:Value}{f:Nat}{listed:Array Bool}{a:Act}{w:World}(hi:ops[i]?=some oi)
 (hs:Region.noSelect ops=true) (hf:Region.free md ops listed i=true) (hr:(Region.ready md ops listed).contains i=true) (G:M.contains i=false) (hw:MJ md ops M i=true) (J:M.all (fun j=>!listed.getD j true)=true)
 (I:∀c a w,Q (.panic c) (a.put oi.dst v) w->Q (.panic c) a w) (hy:YieldsIf P ops S oi v a) (hS:S w)
 (h:cG P md ops Q M S f (listed.setIfInBounds i true) (a.put oi.dst v) w):cG P md ops Q M S (f+1) listed a w:=by
 refine kj (T:=S) hi (acG hs) I (by intro h';rw[acy,aay]at G;exact G h') (.inr ⟨fun _ h=>h,fun j hj oj Ws=>?_⟩) f listed a w (adr hi hf) (by simpa using hr) hy (fun _=>hS) (.inr fun j hj=>?_) h
 ·have h1:=Di.1 hw j hj;obtain⟨oj',h2,e,he,hb,ho⟩:=Region.waitsFor_spec h1;rw[Ws]at h2;cases h2;exact⟨e,he,hb,ho⟩
 ·have:=Di.1 J j hj
  simpa using this
theorem xT{i:Nat}{oi:Oper}{v:Value}{f:Nat}{listed:Array Bool}{a:Act}{w:World}(hi:ops[i]?=some oi)
 (hs:Region.noSelect ops=true) (hf:Region.free md ops listed i=true) (hr:(Region.ready md ops listed).contains i=true) (G:M.contains i=false)
 (I:∀c a w,Q (.panic c) (a.put oi.dst v) w->Q (.panic c) a w) (hy:YieldsIf P ops (fun _=>True) oi v a) (hS:S w)
 (h:cG P md ops Q M S f (listed.setIfInBounds i true) (a.put oi.dst v) w):cG P md ops Q M S (f+1) listed a w :=
 kj (T:=fun _=>True) hi (acG hs) I (by intro h';rw[acy,aay]at G;exact G h') (.inl fun _=>trivial) f listed a w (adr hi hf) (by simpa using hr) hy (fun _=>hS) (.inl fun _=>trivial) h
theorem oK{i:Nat}{oi:Oper}{v:Value}{f:Nat}{listed:Array Bool}{a:Act}{w:World}(hi:ops[i]?=some oi)
 (hs:Region.noSelect ops=true) (hf:Region.free md ops listed i=true) (hr:(Region.ready md ops listed).contains i=true) (G:M.contains i=false)
 (I:∀c a w,Q (.panic c) (a.put oi.dst v) w->Q (.panic c) a w) (hy:YieldsIf P ops (fun _=>True) oi v a) (J:M.any (fun j=>listed.getD j true)=true)
 (h:cG P md ops Q M S f (listed.setIfInBounds i true) (a.put oi.dst v) w):cG P md ops Q M S (f+1) listed a w :=
 kj (T:=fun _=>True) hi (acG hs) I (by intro h';rw[acy,aay]at G;exact G h') (.inl fun _=>trivial) f listed a w (adr hi hf) (by simpa using hr) hy (fun hF=>by
  obtain⟨j,hj,h2⟩:=abp.1 J;rw[hF j hj]at h2
  cases h2) (.inl fun _=>trivial) h
theorem dM{i:Nat}{oi:Oper}{f:Nat}{listed:Array Bool}{a:Act}{w w':World}(hi:ops[i]?=some oi)(hr:Region.ready md ops listed=[i])(G:M.contains i=true)(hl:i<listed.size)
 (hw:Region.wanted oi (yielded ops a.tmps)=true) (hrun:(execOp a.eval oi).run P w=.ok .skip w')
 (h:cG P md ops Q M S f (listed.setIfInBounds i true) (a.put oi.dst undef) w'):cG P md ops Q M S (f+1) listed a w:=by
 refine⟨fun h0=>absurd (hr.symm.trans h0) e8,fun j hj=>?_⟩;rw[hr]at hj;obtain rfl:j=i:=by simpa using hj
 unfold wpOp;simp only[hi,hw,abk];refine .inl ?_;unfold Oper.wp;rw[hrun];refine⟨fun hF=>absurd (hF j (by simpa using G)) ?_,h⟩;simp[hl]
theorem bg{i:Nat}{oi:Oper}{f:Nat}{listed:Array Bool}{a:Act}{w:World}(hi:ops[i]?=some oi)(hr:Region.ready md ops listed=[i])(hw:Region.wanted oi (yielded ops a.tmps)=true)
 (h:∀G:Act->World->Prop,Shut (∀a w,(fC M (listed.setIfInBounds i true)->S w)->cG P md ops Q M S f (listed.setIfInBounds i true) a w->G a w)->Oper.wp P oi a w G Q):cG P md ops Q M S (f+1) listed a w:=by
 refine⟨fun h0=>absurd (hr.symm.trans h0) e8,fun j hj=>?_⟩;rw[hr]at hj;obtain rfl:j=i:=by simpa using hj
 refine wpOp_step hi (fun G hK=>?_);rw[hI hw];exact h G (fun a w h1 h2=>hK a w ⟨h1,h2⟩)
theorem lp(i:Nat){oi:Oper}{v:Value}{f:Nat}{listed G:Array Bool}{a I:Act}{w:World}(h:cG P md ops Q M S f G I w)(hi:ops[i]?=some oi:=by simp only[gA,gB,gC];rfl)(hs:Region.noSelect ops=true:=by kernel_rfl)
 (hf:Region.free md ops listed i=true:=by kernel_rfl) (hr:(Region.ready md ops listed).contains i=true:=by kernel_rfl) (K:M.contains i=false:=by kernel_rfl) (J:∀c a w,Q (.panic c) (a.put oi.dst v) w->Q (.panic c) a w:=by exact fun _ _ _ h=>h)
 (hy:YieldsIf P ops (fun _=>True) oi v a:=by(refine aaJ ⟨by rfl,?_⟩;intro w hSw;(try dsimp only at hSw);go_simp;(try with_reducible rfl))) (hS:S w:=by assumption)
 (hl:listed.setIfInBounds i true=G:=by(try simp only[sA,sB,sC]);rfl) (ha:a.put oi.dst v=I:=by(try simp only[Act.put,sA,sB,sC]);rfl):cG P md ops Q M S (f+1) listed a w:=by subst hl ha;exact xT hi hs hf hr K J hy hS h
theorem ll(i:Nat){oi:Oper}{v:Value}{f:Nat}{listed G:Array Bool}{a I:Act}{w:World}(h:cG P md ops Q M S f G I w)(hi:ops[i]?=some oi:=by simp only[gA,gB,gC];rfl)(hs:Region.noSelect ops=true:=by kernel_rfl)
 (hf:Region.free md ops listed i=true:=by kernel_rfl) (hr:(Region.ready md ops listed).contains i=true:=by kernel_rfl) (K:M.contains i=false:=by kernel_rfl) (U:MJ md ops M i=true:=by kernel_rfl) (O:M.all (fun j=>!listed.getD j true)=true:=by kernel_rfl) (J:∀c a w,Q (.panic c) (a.put oi.dst v) w->Q (.panic c) a w:=by exact fun _ _ _ h=>h)
 (hy:YieldsIf P ops S oi v a:=by(refine aaJ ⟨by rfl,?_⟩;intro w hSw;(try dsimp only at hSw);go_simp;(try with_reducible rfl))) (hS:S w:=by assumption)
 (hl:listed.setIfInBounds i true=G:=by(try simp only[sA,sB,sC]);rfl) (ha:a.put oi.dst v=I:=by(try simp only[Act.put,sA,sB,sC]);rfl):cG P md ops Q M S (f+1) listed a w:=by subst hl ha;exact xS hi hs hf hr K U O J hy hS h
theorem dV{listed:Array Bool}{a:Act}{w:World}(hr:Region.ready md ops listed=[])(h:Q .normal a w):∀f,cG P md ops Q M S f listed a w
 | 0=>⟨hr,h⟩
 | _+1=>⟨fun _=>h,fun i hi=>absurd hi (by rw[hr];exact aaz)⟩
theorem dD{id:Nat}{a:Act}{w:World}(hm:P.follows .mixedOrders=true)(h:cG P .any ops Q M S ops.size (Array.replicate ops.size false) a w.drew):(Code.region id ops true).wp P Q a w :=
 wp_region_any hm h.any
end
def DM(st cc bi bb:Int):Bool:=decide (st<0)||(decide (cc<0)||(decide (cc=0)&&decide (bi<bb)))
theorem sO{st:Int×(Int×Int)}{p:j8}(hp:t.at k c=p)(h:zV p (0,1)<=0):dW t c st k=st:=by
 unfold dW;rw[hp,hI h]
theorem sP{st:Int×(Int×Int)}{u:Nat}{p q:j8}(hu:u=t.r7.toNat+t.rows.length)(hp:t.at k c=p)(hq:t.at k u=q)(h:¬zV p (0,1)<=0)(hd:(AW q p).2=false):dW t c st k=st:=by
 unfold dW;rw[hp,hD h,<-hu,hq,hI hd]
theorem sQ{st:Int}{l:j8}{u:Nat}{p q d:j8}(hu:u=t.r7.toNat+t.rows.length)(hp:t.at k c=p)(hq:t.at k u=q)(h:¬zV p (0,1)<=0)(hd:AW q p=(d,true)){bi G:Int}(hb:t.basis[k]?.getD 0=bi)(Bg:t.basis[st.toNat]?.getD 0=G):
 dW t c (st,l) k=if DM st (zV d l) bi G=true then((k:Int),d) else(st,l):=by
 unfold dW;rw[hp,hD h,<-hu,hq,hd,hD e8];simp only[hb,Bg,DM,Bool.or_eq_true,xf,sw]
theorem jz(t:Tb)(c:Nat):∀k,(cg t c k).1=-1∨(0<=(cg t c k).1/\(cg t c k).1<k)
 | 0=>.inl rfl
 | k+1=>by
   have ih:=jz t c k
   show(dW t c (cg t c k) k).1=-1∨(0<=(dW t c (cg t c k) k).1/\(dW t c (cg t c k) k).1<((k+1:Nat):Int));unfold dW
   split
   ·omega
   ·split
    ·omega
    ·split
     ·right;simp;omega
     ·omega
section
variable{w:World}{ra:j6}{rn rc:Nat}{ba:j6}{bn bc:Nat}{t:Tb}
theorem sy(h:Hg w ra rn rc ba bn bc t)(CP:rn<=100000)(zp:Int):
 Calls Tryz.prog 233 #[Gw ra rn rc ba bn bc t.r7,.int .i64 zp] w fun e w'=>e=.returned (.int .i64 (cW t zp))/\Ext w w':=by
 have HF:=ae (iY (h.ext (Ext.alloc w (cj ra rn rc ba bn bc t.r7))) e7);have VG:=ae (fun ok=>gO h ok);obtain⟨rows,basis,x⟩:=t;have y9:=Ext.alloc w (cj ra rn rc ba bn bc x);have y7:=ae y9;have H:=ae (h.ext y9);have AX:=h.rows.l8;have B9:=h.rows.l9;have AS:=h.basis.l8;have AD:=h.basis.l9;have A1:=ae h.rows.hlen
 have HE:=ae (show cW ⟨rows,basis,x⟩ zp=if(Cl ⟨rows,basis,x⟩&&r9 zp 0 (x+(rn:Int)-1))=true then(cg ⟨rows,basis,x⟩ zp.toNat rn).1 else -1 by
  unfold cW;simp only;rw[h.rows.hlen])
 clear h y9
 show Calls _ _ #[Gw ra rn rc ba bn bc x,.int .i64 zp] w _;cases zO:Cl ⟨rows,basis,x⟩
 ·rw[zO]at HF;have HN:=ae (show cW ⟨rows,basis,x⟩ zp=-1 by rw[HE.o,zO];rfl);clear zO;go_enter aez,aed
  go_wp2_with fail;refine HF.o.mono ?_;rintro e w1 ⟨rfl,hx⟩;have X1:=ae (y7.o.trans hx);clear hx;go_wp2_with fail;go_ret;exact⟨ap HN.o.symm,X1.o⟩
 ·rw[zO]at HF;obtain⟨m,IV,hm,GC,Br,J'⟩:=VG.o zO;simp only at IV;subst IV GC;have Wo:=ae zO;replace Br:=ae Br;replace J':=ae J';clear zO;have U:=ae (fun w=>aq zp 0 ((m:Int)+(bn:Int)-1) w);cases zU:r9 zp 0 ((m:Int)+(bn:Int)-1)
  ·have HN:=ae (show cW ⟨rows,basis,(m:Int)⟩ zp=-1 by rw[HE.o,zU];simp);simp only[zU]at U;clear zU;go_enter aez,aed
   go_wp2_with fail;refine HF.o.mono ?_;rintro e w1 ⟨rfl,hx⟩;have c0:w1.cell? ⟨w.heap.size,0,none⟩=some (.slice ra bn rc):=hx.j9 e8;have c2:w1.cell? ⟨w.heap.size,2,none⟩=some (.int .i64 (m:Int)):=hx.j9 e8;have X1:=ae (y7.o.trans hx);clear hx;go_wp2_with fail;refine(U.o _).mono ?_;rintro e w2 ⟨rfl,rfl⟩;go_wp2_with fail;go_ret;exact⟨ap HN.o.symm,X1.o⟩
  ·obtain⟨c,rfl⟩:∃c:Nat,zp=c:=⟨zp.toNat,by simp[r9]at zU;omega⟩;have hc:c<m+bn:=by simp[r9]at zU;omega
   have HR:=ae (show cW ⟨rows,basis,(m:Int)⟩ (c:Int)=(cg ⟨rows,basis,(m:Int)⟩ c bn).1 by rw[HE.o,Wo.out,zU];simp);simp only[zU]at U;clear zU;obtain⟨u,hu⟩:=b9 (m+bn);have HU:=ae (show u=(Tb.mk rows basis (m:Int)).r7.toNat+(Tb.mk rows basis (m:Int)).rows.length by show u=Int.toNat (m:Int)+rows.length;rw[show rows.length=bn from A1.o];omega);have WV:=ae hu;have Qn:c<u:=by omega
   have Wl:u<=200000:=by omega
   clear hu;go_enter aez,aed
   go_wp2_with fail;refine HF.o.mono ?_;rintro e w1 ⟨rfl,hx⟩;have c0:w1.cell? ⟨w.heap.size,0,none⟩=some (.slice ra bn rc):=hx.j9 e8;have c1:w1.cell? ⟨w.heap.size,1,none⟩=some (.slice ba bn bc):=hx.j9 e8;have c2:w1.cell? ⟨w.heap.size,2,none⟩=some (.int .i64 (m:Int)):=hx.j9 e8;have C1:=ae c1;have X1:=ae (y7.o.trans hx);have H1:=ae (H.o.ext hx);have DF:w.heap.size<w1.heap.size:=by have:=hx.size;simp at this;omega
   clear hx c1;go_wp2_with fail;refine(U.o _).mono ?_;rintro e w2 ⟨rfl,rfl⟩;have EO:=ae (ah.new (Ext.refl w1) 0 0);go_wp2_with fail
   go_loopg [5,30] bn (fun gk bst ii wr=>∃(k:Nat) (st l1 l2:Int),b7 (gk+k=bn)/\ii=.int .i64 (k:Int)/\bst=.int .i64 st/\b7 (cg ⟨rows,basis,(m:Int)⟩ c k=(st,(l1,l2)))/\b7 (ah w1 wr w1.heap.size l1 l2))
   case atStart=>exact⟨0,-1,0,0,ae e7,rfl,rfl,ae rfl,EO⟩
   case round =>
    obtain⟨g1,o7⟩:=b9 gk;subst o7;obtain⟨o6,o5⟩:=b9 wr;subst o5;obtain⟨k,st,l1,l2,O,rfl,rfl,HL,HB⟩:=hrel;clear c0 c2;by_cases hlt:k<bn
    ·obtain⟨zb,zL,za,zn,zc,Dp,AU,o8⟩:=(H1.o.ext HB.o.ext).rows.at hlt;subst Dp;have Lp:zn=u+1:=by rw[<-o8.hlen,WV.o];exact Br.o k hlt
     have HZN:=ae Lp;have Io:=o8.l8;have Yo:=o8.l9;have CA:=ae o8;obtain⟨yb,Z,p,q,ET,zR,BG,An⟩:=o8.at (show c<zn by omega);subst ET;have Ay:=ae (show Tb.at ⟨rows,basis,(m:Int)⟩ k c=(p,q)from zR);have HS:=ae (NN p q o6);obtain⟨sg,DQ⟩:=b9 (zV (p,q) (0,1));have Eh:=ae DQ;rw[<-DQ]at HS;have hcz:c<zn:=by omega
     clear zR DQ o8 Lp;by_cases DR:sg<=0
     ·have AT:=ae (show cg ⟨rows,basis,(m:Int)⟩ c (k+1)=(st,(l1,l2))by
       show dW _ c (cg _ c k) k=_
       rw[HL.o];exact sO Ay.o (by rw[<-Eh.o];exact DR))
      go_wp2_with fail;refine HS.o.mono ?_;rintro e w3 ⟨rfl,hx⟩;have A6:=ae (HB.o.grow hx);clear hx;go_wp2_with fail
      go_roundg (g1-1)
      case measure=>have:=O.o;omega
      case rel=>exact⟨k+1,st,l1,l2,ae (j1 O.o),by go_num,rfl,AT,A6⟩
     ·have J5:=ae DR;go_wp2_with fail;refine HS.o.mono ?_;rintro e w3 ⟨rfl,hx⟩;have A6:=ae (HB.o.grow hx);replace BG:=hx.j9 BG;replace An:=hx.j9 An;obtain⟨ub,Ka,p',q',hua,Oi,Lq,N1⟩:=(CA.o.ext hx).at (show u<zn by have:=HZN.o;omega);simp only[bA,mq,zz]at hua;obtain⟨rfl,rfl⟩:=hua;have Z4:=ae (show Tb.at ⟨rows,basis,(m:Int)⟩ k u=(p',q')from Oi);obtain⟨d1,d2,Fz,hdd⟩:∃x y ok,AW (p',q') (p,q)=((x,y),ok):=⟨_,_,_,rfl⟩;have EH:=ae hdd;clear Oi hdd hx AU;have Qf:IntKind.i64.wrap ((zn:Int)-1)=(u:Int):=by have:=HZN.o;rw[cn];omega
      have Mk:(0:Int)<=(u:Int):=by omega
      have GY:(u:Int)<(zn:Int):=by have:=HZN.o;omega
      have AB:(0:Int)<=(c:Int):=by omega
      have Ba:(c:Int)<(zn:Int):=by omega
      go_upto_region 9 with fail
      go_cut [9,10] (fun sx so wx=>∃g:Nat,sx=.pointer (some ⟨g,0,none⟩)/\so=.bool Fz/\b7 (ah w3 wx g d1 d2))
      case first =>
       have k7:Ext w3 w3.drew:=Ext.drew w3;have zw:Ext w3 (w3.alloc (.cells #[.int .i64 0,.int .i64 0] 62)).drew:=(Ext.alloc _ _).trans (Ext.drew _);have k8:=ae (fun(w':World) (h:Ext w3 w')=>(⟨h.j9 BG,h.j9 An,h.j9 Lq,h.j9 N1,h⟩:w'.cell? ⟨yb,Z+c*2,none⟩=some (.int .i64 p)/\w'.cell? ⟨yb,Z+c*2+1,none⟩=some (.int .i64 q)/\w'.cell? ⟨yb,Z+u*2,none⟩=some (.int .i64 p')/\w'.cell? ⟨yb,Z+u*2+1,none⟩=some (.int .i64 q')/\Ext w3 w'))
       go_region_held3 (fun w'=>w'.cell? ⟨yb,Z+c*2,none⟩=some (.int .i64 p)/\w'.cell? ⟨yb,Z+c*2+1,none⟩=some (.int .i64 q)/\w'.cell? ⟨yb,Z+u*2,none⟩=some (.int .i64 p')/\w'.cell? ⟨yb,Z+u*2+1,none⟩=some (.int .i64 q')/\Ext w3 w')
        (first
          | with_reducible exact k8.o _ k7
          | with_reducible exact k8.o _ zw
          | with_reducible exact k8.o _ ((k7.setCell (by first|(simp;done)|(simp;omega)) _).setCell (by first|(simp;done)|(simp;omega)) _)
          | with_reducible exact k8.o _ (k7.trans (Ext.alloc _ _))
          | with_reducible exact k8.o _ (q8.put _ _).ext)
        (first
          | (go_at_call 253
             (with_reducible refine(sl p' q' p q _).mono ?_)
             rw[EH.o];rintro e w5 ⟨rfl,zh⟩
             first|(with_reducible have q8:=ah.grow q8 zh)|(with_reducible have q8:=ah.zu zh)|(with_reducible have q8:=ah.zy k7 zh)|skip
             first|(have Dy:=q8.c0;have Dx:=q8.c1;have Ev:=q8.free)|skip
             have k7:Ext w3 w5:=by first|with_reducible exact k7.trans zh|with_reducible exact zw.trans zh|with_reducible exact(k7.trans (Ext.alloc _ _)).trans zh
             have A0:=k7.size)
          | fail)
       all_goals(go_wp2_with fail;go_meet;first|exact⟨_,rfl,rfl,ae (q8.put _ _)⟩|exact⟨_,rfl,rfl,ae (ah.new k7 _ _)⟩|exact⟨_,rfl,rfl,ae (ah.new' k7 _ _ e8)⟩)
      obtain⟨g,rfl,rfl,Ad⟩:=hcut;clear Qf Mk GY AB Ba BG An Lq N1;have DW:=ae (A6.o.grow Ad.o.ext);cases Fz
      ·have AT:=ae (show cg ⟨rows,basis,(m:Int)⟩ c (k+1)=(st,(l1,l2))by
        show dW _ c (cg _ c k) k=_
        rw[HL.o];exact sP HU.o Ay.o Z4.o (by rw[<-Eh.o];have:=J5.o;omega) (by rw[EH.o]))
       go_wp2_with fail
       go_roundg (g1-1)
       case measure=>have:=O.o;omega
       case rel=>exact⟨k+1,st,l1,l2,ae (j1 O.o),by go_num,rfl,AT,DW⟩
      ·have g0:=Ad.o.c0;have g1':=Ad.o.c1;have b0:=DW.o.c0;have b1:=DW.o.c1;have FI:=ae (iX d1 d2 l1 l2 wc);obtain⟨cc,I⟩:=b9 (zV (d1,d2) (l1,l2));have Ll:=ae I;rw[<-I]at FI;clear I;go_wp2_with fail;refine FI.o.mono ?_;rintro e w6 ⟨rfl,hx⟩;have Ie:=ae (DW.o.grow hx);have Tz:=ae (Ad.o.grow hx);clear hx g0 g1' b0 b1;have c1:=Ie.o.ext.j9 C1.o;obtain⟨K,J,DT,AV⟩:=(H1.o.ext Ie.o.ext).basis.at hlt;subst DT;obtain⟨bi,B3⟩:=b9 (basis[k]?.getD 0);have KP:=ae B3;rw[<-B3]at AV;clear B3;have FT:=ae (jz ⟨rows,basis,(m:Int)⟩ c k);have Fu:(0:Int)<=(k:Int):=by omega
       have BR:(k:Int)<(bn:Int):=by omega
       have HUP:=ae (fun G (Bg:basis[st.toNat]?.getD 0=G)=>show cg ⟨rows,basis,(m:Int)⟩ c (k+1)=if DM st cc bi G=true then((k:Int),(d1,d2)) else(st,(l1,l2))by
        show dW _ c (cg _ c k) k=_;rw[HL.o,Ll.o]
        exact sQ HU.o Ay.o Z4.o (by rw[<-Eh.o];have:=J5.o;omega) EH.o KP.o.symm Bg)
       go_upto_region 12 with fail
       go_cut [82] (fun s82 wx=>∃G:Int,s82=.bool (DM st cc bi G)/\b7 (basis[st.toNat]?.getD 0=G)/\b7 (Ext w6 wx))
       case first =>
        have k7:Ext w6 w6.drew:=Ext.drew w6;by_cases hst:st<0
        ·have FP:decide (st<0)=true:=z' hst;refine rN (S:=(fun w'=>w'.cell? ⟨w.heap.size,1,none⟩=some (.slice (some ⟨K,J,none⟩) bn bc)/\w'.cell? ⟨K,J+k,none⟩=some (.int .i64 bi)/\Ext w6 w')) e9 ?_ (fun l7=>?_)
         ·exact⟨k7.j9 c1,k7.j9 AV,k7⟩
         refine tk 0 ?_;refine tk 1 ?_;refine tk 2 ?_;refine sk 3 ?_;refine sk 4 ?_;refine tk 5 ?_;refine tk 6 ?_;refine sk 7 ?_;refine sk 8 ?_;refine sk 9 ?_;refine sk 10 ?_;refine sk 11 ?_;refine sk 12 ?_;refine sk 13 ?_;refine sk 14 ?_;refine sk 15 ?_;refine sk 16 ?_;refine sk 17 ?_;refine sk 18 ?_;refine sk 19 ?_;refine sk 20 ?_;refine sk 21 ?_;refine tk 22 ?_;refine Gh e9 ?_ _;go_wp2_with fail;go_meet;exact⟨_,by unfold DM;rw[FP];rfl,ae rfl,ae k7⟩
        ·have FP:decide (st<0)=false:=u' e7;obtain⟨sn,rfl⟩:∃sn:Nat,st=sn:=⟨st.toNat,by omega⟩;have Ob:sn<bn:=by have:=FT.o;rw[HL.o]at this;simp only at this;omega
         obtain⟨fb,Gj,UO,OE⟩:=(H1.o.ext Ie.o.ext).basis.at Ob;simp only[bA,mq,zz]at UO;obtain⟨rfl,rfl⟩:=UO;obtain⟨G,Bg⟩:=b9 (basis[sn]?.getD 0);have DC:=ae (show basis[Int.toNat (sn:Int)]?.getD 0=G by rw[CI,Bg]);rw[<-Bg]at OE;have hs0':(0:Int)<=(sn:Int):=by omega
         have Yl:(sn:Int)<(bn:Int):=by omega
         clear Bg;by_cases I:cc<0
         ·have Ir:decide (cc<0)=true:=z' I;refine rN (S:=(fun w'=>w'.cell? ⟨w.heap.size,1,none⟩=some (.slice (some ⟨K,J,none⟩) bn bc)/\w'.cell? ⟨K,J+k,none⟩=some (.int .i64 bi)/\Ext w6 w')) e9 ?_ (fun l7=>?_)
          ·exact⟨k7.j9 c1,k7.j9 AV,k7⟩
          refine tk 0 ?_;refine tk 1 ?_;refine tk 2 ?_;refine tk 3 ?_;refine tk 4 ?_;refine tk 5 ?_;refine tk 6 ?_;refine sk 7 ?_;refine sk 8 ?_;refine sk 9 ?_;refine sk 10 ?_;refine sk 11 ?_;refine sk 12 ?_;refine sk 13 ?_;refine sk 14 ?_;refine sk 15 ?_;refine sk 16 ?_;refine sk 17 ?_;refine sk 18 ?_;refine sk 19 ?_;refine sk 20 ?_;refine sk 21 ?_;refine tk 22 ?_;refine Gh e9 ?_ _;go_wp2_with fail;go_meet;exact⟨G,by unfold DM;rw[FP,Ir];rfl,DC,ae k7⟩
         ·have Ir:decide (cc<0)=false:=u' e7;by_cases AB:cc=0
          ·subst AB;refine rN (S:=(fun w'=>w'.cell? ⟨w.heap.size,1,none⟩=some (.slice (some ⟨K,J,none⟩) bn bc)/\w'.cell? ⟨K,J+k,none⟩=some (.int .i64 bi)/\w'.cell? ⟨K,J+sn,none⟩=some (.int .i64 G)/\Ext w6 w')) e9 ?_ (fun l7=>?_)
           ·exact⟨k7.j9 c1,k7.j9 AV,k7.j9 OE,k7⟩
           refine tk 0 ?_;refine tk 1 ?_;refine tk 2 ?_;refine tk 3 ?_;refine tk 4 ?_;refine tk 5 ?_;refine tk 6 ?_;refine tk 7 ?_;refine tk 8 ?_;refine tk 9 ?_;refine tk 10 ?_;refine tk 11 ?_;refine tk 12 ?_;refine tk 13 ?_;refine tk 14 ?_;refine tk 15 ?_;refine tk 16 ?_;refine tk 17 ?_;refine tk 18 ?_;refine tk 19 ?_;refine tk 20 ?_;refine tk 21 ?_;refine tk 22 ?_;refine Gh e9 ?_ _;go_wp2_with fail;go_meet;exact⟨G,by unfold DM;rw[FP];rfl,DC,ae k7⟩
          ·have RO:(cc == 0)=false:=by simp;omega
           refine rN (S:=(fun w'=>w'.cell? ⟨w.heap.size,1,none⟩=some (.slice (some ⟨K,J,none⟩) bn bc)/\w'.cell? ⟨K,J+k,none⟩=some (.int .i64 bi)/\Ext w6 w')) e9 ?_ (fun l7=>?_)
           ·exact⟨k7.j9 c1,k7.j9 AV,k7⟩
           refine tk 0 ?_;refine tk 1 ?_;refine tk 2 ?_;refine tk 3 ?_;refine tk 4 ?_;refine tk 5 ?_;refine tk 6 ?_;refine tk 7 ?_;refine tk 8 ?_;refine tk 9 ?_;refine sk 10 ?_;refine sk 11 ?_;refine sk 12 ?_;refine sk 13 ?_;refine sk 14 ?_;refine sk 15 ?_;refine sk 16 ?_;refine sk 17 ?_;refine sk 18 ?_;refine sk 19 ?_;refine sk 20 ?_;refine tk 21 ?_;refine tk 22 ?_;refine Gh e9 ?_ _;go_wp2_with fail;go_meet;exact⟨G,by unfold DM;rw[FP,Ir,u' AB];rfl,DC,ae k7⟩
       obtain⟨G,rfl,DC,Vz⟩:=hcut;have Fb:=ae (Ie.o.grow Vz.o);have PZ:=ae (Tz.o.grow Vz.o);have ZQ:=ae (HUP.o G DC.o);clear c1 AV;cases N6:DM st cc bi G
       ·have AT:=ae (show cg ⟨rows,basis,(m:Int)⟩ c (k+1)=(st,(l1,l2))by rw[ZQ.o,N6];rfl);go_wp2_with fail
        go_roundg (g1-1)
        case measure=>have:=O.o;omega
        case rel=>exact⟨k+1,st,l1,l2,ae (j1 O.o),by go_num,rfl,AT,Fb⟩
       ·have AT:=ae (show cg ⟨rows,basis,(m:Int)⟩ c (k+1)=((k:Int),(d1,d2))by rw[ZQ.o,N6];rfl);have g0:=PZ.o.c0;have g1':=PZ.o.c1;have b0:=Fb.o.c0;have b1:=Fb.o.c1;have bf:=Fb.o.free;have QJ:=ae ((Fb.o.grow (Ext.drew wc)).put d1 d2);go_upto_region 13 with fail
        go_still_tail 3,e9
        go_wp2_with fail
        go_roundg (g1-1)
        case measure=>have:=O.o;omega
        case rel=>exact⟨k+1,(k:Int),d1,d2,ae (j1 O.o),by go_num,rfl,AT,QJ⟩
    ·have zQ:bn=k:=by have:=O.o;omega
     subst zQ;have HY:=ae (show cW ⟨rows,basis,(m:Int)⟩ (c:Int)=st by rw[HR.o,HL.o]);go_wp2_with fail;go_ret;exact⟨ap HY.o.symm,X1.o.trans HB.o.ext⟩
end
