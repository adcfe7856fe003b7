import Derived.Test.YtalmoolkhcgmmaaGreatNqAltG10
import Derived.Test.YtalmoolkhcgmmaaGreatNqAltG0
import Derived.Deep.RegionHeld3
import Derived.Test.YtalmoolkhcgmmaaGreatNqAltG5
import Derived.Test.YtalmoolkhcgmmaaGreatNqAltG8
import Derived.Test.YtalmoolkhcgmmaaGreatNqAltG6
import Derived.Test.YtalmoolkhcgmmaaGreatNqAltG7
set_option linter.unusedVariables false
set_option linter.unusedSimpArgs false
namespace Go.Proofs.YtalmoolkhcgmmaaGreat
variable{X:j6}{V:j9}
set_option maxHeartbeats 16000000
set_option maxRecDepth 100000
open Go.RowKit
theorem cG(n:Int)(w:World):Calls Tryz.prog 18 #[.int .i64 n] w fun e w'=>e=.returned (xO n 1)/\Ext w w':=by
 have HX:=ae (Ext.alloc w (.cells #[.int .i64 n,.int .i64 1] 46));go_enter Tryz.func18,Tryz.ntmps18
 go_wp2
 refine bodyPost_ret (v:=xO n 1) (by simp[results,Tryz.results18,go_sem]) rfl ⟨rfl,HX.o⟩
theorem cl(n:Int)(w:World):Calls Tryz.prog 32 #[.int .i64 n] w fun e w'=>e=.returned (xO n 1)/\Ext w w':=by
 have HX:=ae (Ext.alloc w (.cells #[.int .i64 n,.int .i64 1] 46));go_enter Tryz.func32,Tryz.ntmps32
 go_wp2
 refine bodyPost_ret (v:=xO n 1) (by simp[results,Tryz.results32,go_sem]) rfl ⟨rfl,HX.o⟩
theorem K9(s:Int)(w:World):Calls Tryz.prog 155 #[.int .i64 s] w fun e w'=>e=.returned (.bool (wJ s 0 31))/\w=w':=by
 go_enter Tryz.func155,Tryz.ntmps155
 go_wp2_with (first|(go_at_call 74;refine(bG _ _ _ _).mono ?_;rintro e w' ⟨rfl,rfl⟩));go_ret;exact⟨rfl,rfl⟩
theorem su(s:Nat)(hs:s<32)(w:World):
 Calls Tryz.prog 122 #[.int .i64 (s:Int)] w fun e w'=>(∃v,e=.returned v/\o8 w' w.heap.size v (AI (s:Int) 5))/\Ext w w':=by
 have xR:wJ (s:Int) 0 31=true:=by unfold wJ;simp;omega
 have HG:=ae (fun w'=>K9 (s:Int) w');rw[xR]at HG;have HO:=ae (o8.yG w w.heap.size _ rfl (Nat.le_refl _));clear xR;go_enter Tryz.func122,Tryz.ntmps122
 go_wp2_with fail
 go_loopg [3,4] 5 (fun gk o i wr=>∃(k:Nat) (a1:j8) (n1 c1:Nat),b7 (gk+k=5)/\i=.int .i64 (k:Int)/\o=.slice a1 n1 c1/\b7 (o8 wr w.heap.size (.slice a1 n1 c1) (AI (s:Int) k))/\b7 (Ext w wr))
 case atStart=>exact⟨0,_,_,_,ae b9,rfl,rfl,HO,ae (Ext.alloc _ _)⟩
 case round =>
  obtain⟨g1,J⟩:=b8 gk;subst J;obtain⟨o7,K⟩:=b8 wr;subst K;obtain⟨k,a1,n1,c1,G,rfl,rfl,xC,xz⟩:=hrel;have hsz:=xz.o.size;by_cases hlt:k<5
  ·have HB:=ae (iw (s:Int) k b9 b9);cases zI:bit (s:Int) k
   ·rw[zI]at HB;have HS:=ae zI;clear zI;go_wp2_with (first|(go_at_call 155;refine(HG.o _).mono ?_;rintro e w3 ⟨rfl,rfl⟩)|(go_at_call 78;refine(ee _ _ _ b9).mono ?_;rw[HB.o];rintro e w3 ⟨rfl,rfl⟩))
    go_roundg (g1-1)
    case measure=>have:=G.o;omega
    case rel=>exact⟨k+1,a1,n1,c1,ae (j4 G.o),by go_num,rfl,ae (by rw[fN,HS.o];simpa using xC.o),xz⟩
   ·rw[zI]at HB;have HS:=ae zI;clear zI
    go_wp2_with (first
     | (go_at_call 155;refine(HG.o _).mono ?_;rintro e w3 ⟨rfl,rfl⟩)
     | (go_at_call 78;refine(ee _ _ _ b9).mono ?_;rw[HB.o];rintro e w3 ⟨rfl,rfl⟩)
     | (at_builtin;refine bm rfl _ _ rfl w.heap.size (.slice a1 n1 c1) _ rfl (xC.o.ext (Ext.alloc _ _)) _ 1 _ [(k:Int)] rfl (Ints.Ad _ _ _ _ e7) (j4 (qT (s:Int) k)) (by simp;omega) ?_;intro v2 w3 ho hg l7;have X5:=ae ((xz.o.trans (Ext.alloc _ _)).grown hg (fun j hj=>(xC.o.lt j hj).1));obtain⟨a2,n2,c2,rfl,Fa⟩:=ho.var;have I:=ae ho;clear ho hg l7))
    go_roundg (g1-1)
    case measure=>have:=G.o;omega
    case rel=>exact⟨k+1,a2,n2,c2,ae (j4 G.o),by go_num,rfl,ae (by rw[fN,HS.o];exact I.o),X5⟩
  ·have O:k=5:=by have:=G.o;omega
   subst O;go_wp2_with (first|(go_at_call 155;refine(HG.o _).mono ?_;rintro e w3 ⟨rfl,rfl⟩));go_ret;exact⟨⟨_,rfl,xC.o⟩,xz.o⟩
def zg(X:j6):j9->k5->Option (Int×Int)
 | [],a=>some a
 | k::l,a=>if(X.length:Int)<=k then none else if(xP a (X[k.toNat]?.getD (0,0))).2=true then zg X l (xP a (X[k.toNat]?.getD (0,0))).1 else none
theorem fC(X:j6):∀(l G:j9) (a:k5),zg X (l++G) a=(zg X l a).bind (zg X G)
 | [],G,a=>rfl
 | k::l,G,a=>by
   simp only[List.cons_append,zg]
   split
   ·rfl
   ·split
    ·exact fC X l G _
    ·rfl
def bH(X:j6)(s:Nat):Option (Int×Int):=zg X (AI (s:Int) 5) (0,1)
theorem jb{l:j9}{k:Nat}{a b:k5}(hk:k<l.length)(h:zg X (l.take k) a=some b)(hf:zg X [l[k]?.getD 0] b=none):zg X l a=none:=by
 have e:l=l.take k++(l[k]?.getD 0::l.drop (k+1)):=by
  rw[List.getElem?_eq_getElem hk,Option.getD_some,<-List.drop_eq_getElem_cons hk,List.take_append_drop]
 rw[e,fC,h]
 show zg X (l[k]?.getD 0::l.drop (k+1)) b=none;simp only[zg]at hf⊢
 split
 ·rfl
 ·next h1 =>
  rw[if_neg h1]at hf
  split
  ·next h2=>rw[if_pos h2]at hf;cases hf
  ·rfl
theorem pf{l:j9}{k:Nat}{a b c:k5}(hk:k<l.length)(h:zg X (l.take k) a=some b)(hf:zg X [l[k]?.getD 0] b=some c):zg X (l.take (k+1)) a=some c:=by
 rw[cW hk,fC,h];exact hf
theorem px{w:World}{a:j8}{n cap:Nat}(h:r8 w a n cap X)(s:Nat)(hs:s<32):
 Calls Tryz.prog 73 #[.slice a n cap,.int .i64 (s:Int)] w fun e w'=>e=.returned (BA ((bH X s).getD (0,0),(bH X s).isSome))/\Ext w w':=by
 have HL:=ae h.hlen;have o3:=h.o3;have l9:=h.l9;have wI:=Ext.alloc w (.cells #[.int .i64 0,.int .i64 0] 46);have HI:=ae (h.ext wI);have wM:=ae wI;have xU:=ae (show(w.alloc (.cells #[.int .i64 0,.int .i64 0] 46)).heap[w.heap.size]?=some (.cells #[.int .i64 0,.int .i64 0] 46 (0,0))from ak _ _ _ rfl);clear h wI;go_enter Tryz.func73,Tryz.ntmps73
 go_wp2_with fail;refine(cl 0 _).mono ?_;rintro e w1 ⟨rfl,wO⟩;have xz:=ae wO;have hs31:¬((s:Int) > 31):=by omega
 have B0:¬((s:Int)<0):=by omega
 clear wO;go_wp2_with fail;refine(su s hs _).mono ?_;rintro e w2 ⟨⟨v2,rfl,R⟩,xg⟩;obtain⟨am,K,cm,rfl,Oh⟩:=R.var;have Ko:=ae R;have Bh:=ae ((aj.new (Ext.refl w1) 0 1).grow xg);have NW:=ae Oh.out;have My:=R.ints.o3;have Mw:=R.ints.l9;clear R xg Oh;obtain⟨mem,H7⟩:=b8 (AI (s:Int) 5);have UD:=ae (fun i h=>sX (s:Int) i h);rw[<-H7]at Ko NW UD;have Fb:=ae (show bH X s=zg X mem (0,1)by unfold bH;rw[H7]);clear H7;have u:=ae (fun(w':World) (hx:Ext w1 w')=>(hx.block _ (by have:=lt_of_block xU.o;have:=xz.o.size;omega)).trans ((xz.o.block _ (lt_of_block xU.o)).trans xU.o));have Em:=ae (wM.o.trans xz.o);have Mg:w.heap.size<w1.heap.size:=by have:=lt_of_block xU.o;have:=xz.o.size;omega
 go_wp2_with fail
 go_loopg [8] K (fun gk ii wr=>∃(k:Nat) (p q:Int),b7 (gk+k=K)/\ii=.int .i64 (k:Int)/\b7 (aj w1 wr w1.heap.size p q)/\b7 (zg X (mem.take k) (0,1)=some (p,q))/\b7 (o8 wr w1.heap.size (.slice am K cm) mem))
 case atStart=>exact⟨0,0,1,ae b9,rfl,Bh,ae rfl,ae (Ko.o.mono e7)⟩
 case round =>
  obtain⟨g1,r7⟩:=b8 gk;subst r7;obtain⟨G,o6⟩:=b8 wr;subst o6;obtain⟨k,p,q,HK,rfl,HB,HT,HM⟩:=hrel;have AR:=HB.o.c0;have zN:=HB.o.c1;have I3:=HB.o.lt;have S5:=HB.o.ext.size;by_cases hlt:k<K
  ·have yQ:k<mem.length:=by rw[NW.o];exact hlt
   obtain⟨j,hj,hj5,_,_⟩:=UD.o k yQ;obtain⟨lb,Hq,hle,Rs⟩:=HM.o.ints.at hlt;subst hle;rw[hj]at Rs;by_cases Ah:j<n
   ·obtain⟨W,Z,x,y,SR,xW,Wb,SS⟩:=(HI.o.ext (xz.o.trans HB.o.ext)).at Ah;subst SR;have U:¬(X.length:Int)<=(j:Int):=by rw[HL.o];omega
    obtain⟨p2,I,ok,xk⟩:∃p2 I ok,xP (p,q) (x,y)=((p2,I),ok):=⟨_,_,_,rfl⟩;have yt:=ae xk
    have zW:=ae (show zg X [mem[k]?.getD 0] (p,q)=if ok=true then some (p2,I) else none by
     rw[hj];simp only[zg];rw[if_neg U,Int.toNat_natCast,xW,xk])
    have zD:=ae yQ;clear hj xk xW yQ U;go_upto_region 10 with fail
    go_cut [9,10] (fun sx so wx=>∃g:Nat,sx=.pointer (some ⟨g,0,none⟩)/\so=.bool ok/\b7 (aj G wx g p2 I))
    case first =>
     have k7:Ext G G.drew:=Ext.drew G;have xI:Ext G (G.alloc (.cells #[.int .i64 0,.int .i64 0] 46)).drew:=(Ext.alloc _ _).trans (Ext.drew _);have k8:=ae (fun(w':World) (h:Ext G w')=>(⟨h.k6 AR,h.k6 zN,h.k6 Rs,h.k6 Wb,h.k6 SS,h⟩:w'.cell? ⟨w1.heap.size,0,none⟩=some (.int .i64 p)/\w'.cell? ⟨w1.heap.size,1,none⟩=some (.int .i64 q)/\w'.cell? ⟨lb,Hq+k,none⟩=some (.int .i64 (j:Int))/\w'.cell? ⟨W,Z+j*2,none⟩=some (.int .i64 x)/\w'.cell? ⟨W,Z+j*2+1,none⟩=some (.int .i64 y)/\Ext G w'))
     go_region_held3 (fun w'=>w'.cell? ⟨w1.heap.size,0,none⟩=some (.int .i64 p)/\w'.cell? ⟨w1.heap.size,1,none⟩=some (.int .i64 q)/\w'.cell? ⟨lb,Hq+k,none⟩=some (.int .i64 (j:Int))/\w'.cell? ⟨W,Z+j*2,none⟩=some (.int .i64 x)/\w'.cell? ⟨W,Z+j*2+1,none⟩=some (.int .i64 y)/\Ext G w')
      (first
        | with_reducible exact k8.o _ k7
        | with_reducible exact k8.o _ xI
        | with_reducible exact k8.o _ ((k7.setCell (by first|(simp;done)|(simp;omega)) _).setCell (by first|(simp;done)|(simp;omega)) _)
        | with_reducible exact k8.o _ (k7.trans (Ext.alloc _ _))
        | with_reducible exact k8.o _ (r9.put _ _).ext)
      (first
        | (go_at_call 123
           (with_reducible refine(jP _ _ _ _ _).mono ?_)
           rw[yt.o];rintro e w5 ⟨rfl,J⟩
           first|(with_reducible have r9:=aj.grow r9 J)|(with_reducible have r9:=aj.xu J)|(with_reducible have r9:=aj.xA k7 J)|skip
           first|(have BQ:=r9.c0;have BP:=r9.c1;have C3:=r9.free)|skip
           have k7:Ext G w5:=by first|with_reducible exact k7.trans J|with_reducible exact xI.trans J|with_reducible exact(k7.trans (Ext.alloc _ _)).trans J
           have zr:=k7.size)
        | fail)
     all_goals(go_wp2_with fail;go_meet;first|exact⟨_,rfl,rfl,ae (r9.put _ _)⟩|exact⟨_,rfl,rfl,ae (aj.new k7 _ _)⟩|exact⟨_,rfl,rfl,ae (aj.new' k7 _ _ e7)⟩)
    obtain⟨g,rfl,rfl,zV⟩:=hcut;have g0:=zV.o.c0;have g1':=zV.o.c1;have O:=HB.o.grow zV.o.ext;have XU:=O.ext;have Xb:=HM.o.ext zV.o.ext;have Ii:=O.c0;have Ih:=O.c1;have Qd:=O.free;have zE:=ae O;have xj:=ae XU;have Ca:=ae Xb;clear AR zN Rs Wb SS O XU Xb;cases ok
    ·have HN:=ae (show bH X s=none by rw[Fb.o];exact jb zD.o HT.o (by rw[zW.o];rfl));have hr:=ah (u.o wc xj.o);obtain⟨yN,yC,CZ⟩:=hr;go_wp2_with fail;refine bodyPost_ret (v:=.tuple #[.agg #[.int .i64 0,.int .i64 0],.bool false]) (by simp[results,Tryz.results73,go_sem,yN,yC]) rfl ⟨by rw[HN.o];rfl,(((Em.o.trans xj.o).store 0 (Nat.le_refl _) _).store 1 (Nat.le_refl _) _)⟩
    ·have Bu:=ae (pf zD.o HT.o (by rw[zW.o];rfl))
     have CB:=ae (show o8 ((wc.setCell ⟨w1.heap.size,0,none⟩ (.int .i64 p2)).setCell ⟨w1.heap.size,1,none⟩ (.int .i64 I)) w1.heap.size (.slice (some ⟨lb,Hq,none⟩) K cm) mem from
      Ca.o.keep fun i hi=>by
       have:i≠w1.heap.size:=fun e=>av Ca.o zE.o.cell (by decide) (by rw[hi,e])
       rw[heap_setCell_other _ _ _ _ this,heap_setCell_other _ _ _ _ this])
     have AB:=ae (zE.o.put p2 I);go_wp2_with fail
     go_roundg (g1-1)
     case measure=>have:=HK.o;omega
     case rel=>exact⟨k+1,p2,I,ae (j4 HK.o),by go_num,AB,Bu,CB⟩
   ·have U:(X.length:Int)<=(j:Int):=by rw[HL.o];omega
    have HN:=ae (show bH X s=none by rw[Fb.o];exact jb yQ HT.o (by rw[hj];simp only[zg];rw[if_pos U]));have hr:=ah (u.o G HB.o.ext);obtain⟨yN,yC,CZ⟩:=hr;have Ia:(j:Int)≥(n:Int):=by omega
    clear hj U;go_wp2_with fail;refine bodyPost_ret (v:=.tuple #[.agg #[.int .i64 0,.int .i64 0],.bool false]) (by simp[results,Tryz.results73,go_sem,yN,yC]) rfl ⟨by rw[HN.o];rfl,(((Em.o.trans HB.o.ext).store 0 (Nat.le_refl _) _).store 1 (Nat.le_refl _) _)⟩
  ·have xQ:K=k:=by have:=HK.o;omega
   subst xQ
   have HY:=ae (show bH X s=some (p,q)by
    rw[Fb.o];have h:=HT.o;rwa [List.take_of_length_le (by rw[NW.o];exact Nat.le_refl _)]at h)
   have hr:=ah (u.o G HB.o.ext);obtain⟨yN,yC,CZ⟩:=hr;go_wp2_with fail;refine bodyPost_ret (v:=.tuple #[.agg #[.int .i64 p,.int .i64 q],.bool true]) (by simp[results,Tryz.results73,go_sem,yN,yC]) rfl ⟨by rw[HY.o];rfl,(((Em.o.trans HB.o.ext).store 0 (Nat.le_refl _) _).store 1 (Nat.le_refl _) _)⟩
def ye(p:Int)(V:j9)(X:j6):Bool :=
 aZ p V&&(decide ((X.length:Int)=p)&&(yz X&&decide (bH X (V.length-1)=some (bD p V,1))))
theorem nl{w:World}{p:Int}{a:j8}{n cap:Nat}(h:Ints w a n cap V){b:j8}{m U:Nat}(hx:r8 w b m U X):
 Calls Tryz.prog 28 #[pair p a n cap,.slice b m U] w fun e w'=>e=.returned (.bool (ye p V X))/\Ext w w':=by
 have HX:=ae (Ext.alloc w (.cells #[.int .i64 p,.slice a n cap] 26));have HL:=ae h.hlen;have Z:=ae hx.hlen;have HI:=ae (h.ext HX.o);have HR:=ae (hx.ext HX.o);have Wa:=hx.o3;have V9:=hx.l9;have HV:=ae (ep (p:=p) HI.o);clear h hx;cases hv:aZ p V
 ·rw[hv]at HV;have HP:=ae (show ye p V X=false by unfold ye;rw[hv];rfl);clear hv;go_enter Tryz.func28,Tryz.ntmps28
  go_wp2_with fail;refine HV.o.mono ?_;rintro e w1 ⟨rfl,hx⟩;have X1:=ae (HX.o.trans hx);clear hx;go_wp2_with fail;go_ret;exact⟨ag HP.o.symm,X1.o⟩
 rw[hv]at HV;obtain⟨q,rfl,h1,h5,hlen,_,CO⟩:=aW hv;have It:=ae hv;have hN:=cu q h5;obtain⟨u,rfl⟩:∃u,n=u+1:=⟨n-1,by have:=HL.o;omega⟩;have S1:u<=31:=by have:=HL.o;omega
 have yA:=ae (show -500<=bD (q:Int) V/\bD (q:Int) V<=500 by rw[ez hv];exact dM CO _);clear hv hlen CO hN;by_cases ZI:m=q
 ·subst ZI;have R:=ae (fun(w':World) (hx:Ext (w.alloc (.cells #[.int .i64 (m:Int),.slice a (u+1) cap] 26)) w')=>ik (HR.o.ext hx));cases Ef:yz X
  ·have HP:=ae (show ye (m:Int) V X=false by unfold ye;rw[Ef];simp);rw[Ef]at R;clear Ef;go_enter Tryz.func28,Tryz.ntmps28
   go_wp2_with fail;refine HV.o.mono ?_;rintro e w1 ⟨rfl,hx⟩;have c0:w1.cell? ⟨w.heap.size,0,none⟩=some (.int .i64 (m:Int)):=hx.k6 e7;have IU:((m:Int) != (m:Int))=false:=by simp
   have US:=ae (R.o w1 hx);have X1:=ae (HX.o.trans hx);clear hx;go_wp2_with fail;refine US.o.mono ?_;rintro e w2 ⟨rfl,xg⟩;have X2:=ae (X1.o.trans xg);clear xg;go_wp2_with fail;go_ret;exact⟨ag HP.o.symm,X2.o⟩
  ·rw[Ef]at R;have UP:=ae Ef;clear Ef;go_enter Tryz.func28,Tryz.ntmps28
   go_wp2_with fail;refine HV.o.mono ?_;rintro e w1 ⟨rfl,hx⟩;have c0:w1.cell? ⟨w.heap.size,0,none⟩=some (.int .i64 (m:Int)):=hx.k6 e7;have c1:w1.cell? ⟨w.heap.size,1,none⟩=some (.slice a (u+1) cap):=hx.k6 e7;have IU:((m:Int) != (m:Int))=false:=by simp
   have US:=ae (R.o w1 hx);have X1:=ae hx;clear hx;go_wp2_with fail;refine US.o.mono ?_;rintro e w2 ⟨rfl,xg⟩;have X2:=ae (X1.o.trans xg);replace c0:=xg.k6 c0;replace c1:=xg.k6 c1;clear xg;have D7:((u+1:Nat):Int)-1=(u:Int):=by omega
   have Iw:=ae (px (HR.o.ext X2.o) u b9)
   have YL:=ae (show ye (m:Int) V X=decide (bH X u=some (bD (m:Int) V,1))by
    unfold ye;rw[It.o,UP.o,decide_eq_true (by rw[Z.o]),HL.o];rfl)
   cases DC:bH X u with
   | none =>
     have HF:=ae (show ye (m:Int) V X=false by rw[YL.o,DC];rfl);rw[DC]at Iw;clear DC;go_wp2_with fail;refine Iw.o.mono ?_;rintro e w3 ⟨rfl,I⟩;have X3:=ae ((HX.o.trans X2.o).trans I);clear I;go_wp2_with fail
     go_quiet (fail)
     go_wp2_with fail;go_ret;exact⟨ag HF.o.symm,(X3.o.trans (Ext.alloc _ _)).trans (yd.ext ⟨_,rfl⟩)⟩
   | some r =>
     obtain⟨r1,J⟩:=r
     have HF:=ae (show ye (m:Int) V X=(decide (r1=bD (m:Int) V)&&decide (J=1))by
      rw[YL.o,DC];simp)
     rw[DC]at Iw;clear DC;go_wp2_with fail;refine Iw.o.mono ?_;rintro e w3 ⟨rfl,I⟩;replace c0:=I.k6 c0;replace c1:=I.k6 c1;have X3:=ae (X2.o.trans I);clear I;obtain⟨E,K⟩:=b8 (w3.alloc (.cells #[.int .i64 r1,.int .i64 J] 46));have O:Ext w3 E:=by rw[K];exact Ext.alloc _ _
     have XE:=ae (X3.o.trans O);have e0:=O.k6 c0;have e1:=O.k6 c1;have b0:E.cell? ⟨w3.heap.size,0,none⟩=some (.int .i64 r1):=by rw[K];simp
     have b1:E.cell? ⟨w3.heap.size,1,none⟩=some (.int .i64 J):=by rw[K];simp
     have Ez:=ae (fun(w':World) (hx:Ext E w')=>iG (p:=(m:Int)) ((HI.o.ext XE.o).ext hx));obtain⟨G,W⟩:=b8 (bD (m:Int) V);rw[<-W]at HF Ez;clear W;go_upto_region 4 with fail;rw[<-K];clear K c0 c1 O;have k7:Ext E E.drew:=Ext.drew E;have k8:=ae (fun(w':World) (h:Ext E w')=>(⟨h.k6 e0,h.k6 e1,h.k6 b0,h.k6 b1,h⟩:w'.cell? ⟨w.heap.size,0,none⟩=some (.int .i64 (m:Int))/\w'.cell? ⟨w.heap.size,1,none⟩=some (.slice a (u+1) cap)/\w'.cell? ⟨w3.heap.size,0,none⟩=some (.int .i64 r1)/\w'.cell? ⟨w3.heap.size,1,none⟩=some (.int .i64 J)/\Ext E w'));cases wO:(r1 == G)
     all_goals
      cases xM:(J == 1)
     all_goals
      have UK:=ae (show ye (m:Int) V X=((r1 == G)&&(J == 1))by rw[HF.o];rw[Bool.eq_iff_iff];simp);rw[wO,xM]at UK
      go_region_held3 (fun w'=>w'.cell? ⟨w.heap.size,0,none⟩=some (.int .i64 (m:Int))/\w'.cell? ⟨w.heap.size,1,none⟩=some (.slice a (u+1) cap)/\w'.cell? ⟨w3.heap.size,0,none⟩=some (.int .i64 r1)/\w'.cell? ⟨w3.heap.size,1,none⟩=some (.int .i64 J)/\Ext E w')
       (first
         | with_reducible exact k8.o _ k7)
       (first
         | (go_at_call 33
            (with_reducible refine(Ez.o _ k7).mono ?_)
            rintro e w4 ⟨rfl,xG⟩
            have k7:Ext E w4:=k7.trans xG)
         | (go_at_call 32
            (with_reducible refine(cl _ _).mono ?_)
            rintro e w5 ⟨rfl,zh⟩
            have k7:Ext E w5:=k7.trans zh)
         | fail)
      all_goals
       go_wp2_with fail;go_ret;exact⟨ag (by rw[UK.o];rfl),HX.o.trans (XE.o.trans k7)⟩
 ·have HP:=ae (show ye (q:Int) V X=false by unfold ye;rw[decide_eq_false (by rw[Z.o];omega:¬(X.length:Int)=(q:Int))];simp);have IU:((m:Int) != (q:Int))=true:=by simp;omega
  go_enter Tryz.func28,Tryz.ntmps28
  go_wp2_with fail;refine HV.o.mono ?_;rintro e w1 ⟨rfl,hx⟩;have c0:w1.cell? ⟨w.heap.size,0,none⟩=some (.int .i64 (q:Int)):=hx.k6 e7;have X1:=ae (HX.o.trans hx);clear hx;go_wp2_with fail;go_ret;exact⟨ag HP.o.symm,X1.o⟩
def Dh(v:Int)(r:k5):Option (Int×Int):=if(xy (v,1) r).2=true then some (xy (v,1) r).1 else none
def yU(V:j9)(X:j6)(s:Nat):Option (Int×Int):=(bH X s).bind (Dh (V[s]?.getD 0))
def Di(V:j9)(X:j6)(lo m:Nat):Option (j6):=runT (fun k=>yU V X (lo+k)) m
def yj(p:Int)(V:j9)(X:j6):Option (j6):=if ye p V X=true then Di V X 1 (V.length-2) else none
theorem pS{p:Int}(h:ye p V X=false):yj p V X=none:=by unfold yj;rw[if_neg (by rw[h];simp)]
theorem ji{p:Int}(h:ye p V X=true):yj p V X=Di V X 1 (V.length-2):=by unfold yj;rw[if_pos h]
theorem cJ{p:Int}{l:j6}(h:yj p V X=some l):ye p V X=true/\l.length=V.length-2:=by
 unfold yj at h
 split at h
 ·next h1=>exact⟨h1,cU h⟩
 ·cases h
theorem dl{p:Int}(h:ye p V X=true):aZ p V=true:=by
 unfold ye at h;simp only[Bool.and_eq_true]at h;exact h.1
theorem gn{p:Int}(h:ye p V X=true):aZ p V=true/\(X.length:Int)=p/\yz X=true/\bH X (V.length-1)=some (bD p V,1):=by
 unfold ye at h;simp only[Bool.and_eq_true,decide_eq_true_eq]at h;exact h
end Go.Proofs.YtalmoolkhcgmmaaGreat
