import Derived.Test.YtalmoolkhcgmmaaGreatNqAltG12
import Derived.Test.YtalmoolkhcgmmaaGreatNqAltG8
import Derived.Test.YtalmoolkhcgmmaaGreatNqAltG34
import Derived.Test.YtalmoolkhcgmmaaGreatNqAltG5
import Derived.Test.YtalmoolkhcgmmaaGreatNqAltG4
import Derived.Test.YtalmoolkhcgmmaaGreatNqAltG18
import Derived.Test.YtalmoolkhcgmmaaGreatNqAltG14
import Derived.Test.YtalmoolkhcgmmaaGreatNqAltG48
import Derived.Test.YtalmoolkhcgmmaaGreatNqAltG43
set_option linter.unusedVariables false
set_option linter.unusedSimpArgs false
namespace Go.Proofs.YtalmoolkhcgmmaaGreat
variable{w:World}{a b:j8}{n m yF:Nat}{X:j6}{V:j9}
set_option maxHeartbeats 16000000
set_option maxRecDepth 100000
open Go.RowKit
theorem oO{cap:Nat}(h:r8 w a n cap X)(s:Nat)(hs:s<32):
 Calls Tryz.prog 95 #[.slice a n cap,.int .i64 (s:Int)] w fun e w'=>e=.returned (BA ((bH X s).getD (0,0),(bH X s).isSome))/\Ext w w':=by
 have HL:=ae h.hlen;have o3:=h.o3;have l9:=h.l9;have wI:=Ext.alloc w (.cells #[.int .i64 0,.int .i64 0] 46);have HI:=ae (h.ext wI);have wM:=ae wI;have xU:=ae (show(w.alloc (.cells #[.int .i64 0,.int .i64 0] 46)).heap[w.heap.size]?=some (.cells #[.int .i64 0,.int .i64 0] 46 (0,0))from ak _ _ _ rfl);have xR:wJ (s:Int) 0 31=true:=by unfold wJ;simp;omega
 clear h wI;go_enter Tryz.func95,Tryz.ntmps95
 go_wp2_with fail;refine(aK _ _ _ _).mono ?_;rw[xR];rintro e w0 ⟨rfl,rfl⟩;go_wp2_with fail;refine(cG 0 _).mono ?_;rintro e w1 ⟨rfl,wO⟩;have xz:=ae wO;have hs31:¬((s:Int) > 31):=by omega
 have B0:¬((s:Int)<0):=by omega
 clear wO;go_wp2_with fail;refine(sb s hs _).mono ?_;rintro e w2 ⟨v2,rfl,R,xg⟩;obtain⟨am,K,cm,rfl,Oh⟩:=R.var;have Ko:=ae R;have Bh:=ae ((aj.new (Ext.refl w1) 0 1).grow xg);have NW:=ae Oh.out;have My:=R.ints.o3;have Mw:=R.ints.l9;clear R xg Oh;obtain⟨mem,H7⟩:=b8 (AI (s:Int) 5);have UD:=ae (fun i h=>sX (s:Int) i h);rw[<-H7]at Ko NW UD;have Fb:=ae (show bH X s=zg X mem (0,1)by unfold bH;rw[H7]);clear H7;have u:=ae (fun(w':World) (hx:Ext w1 w')=>(hx.block _ (by have:=lt_of_block xU.o;have:=xz.o.size;omega)).trans ((xz.o.block _ (lt_of_block xU.o)).trans xU.o));have Em:=ae (wM.o.trans xz.o);have Mg:w.heap.size<w1.heap.size:=by have:=lt_of_block xU.o;have:=xz.o.size;omega
 go_wp2_with fail
 go_loopg [19] K (fun gk ii wr=>∃(k:Nat) (p q:Int),b7 (gk+k=K)/\ii=.int .i64 (k:Int)/\b7 (aj w1 wr w1.heap.size p q)/\b7 (zg X (mem.take k) (0,1)=some (p,q))/\b7 (o8 wr w1.heap.size (.slice am K cm) mem))
 case atStart=>exact⟨0,0,1,ae b9,rfl,Bh,ae rfl,ae (Ko.o.mono e7)⟩
 case round =>
  obtain⟨g1,r7⟩:=b8 gk;subst r7;obtain⟨G,o6⟩:=b8 wr;subst o6;obtain⟨k,p,q,HK,rfl,HB,HT,HM⟩:=hrel;have AR:=HB.o.c0;have zN:=HB.o.c1;have I3:=HB.o.lt;have S5:=HB.o.ext.size;by_cases hlt:k<K
  ·have yQ:k<mem.length:=by rw[NW.o];exact hlt
   obtain⟨j,hj,hj5,_,_⟩:=UD.o k yQ;obtain⟨lb,Hq,hle,Rs⟩:=HM.o.ints.at hlt;subst hle;rw[hj]at Rs;by_cases Ah:j<n
   ·obtain⟨W,Z,x,y,SR,xW,Wb,SS⟩:=(HI.o.ext (xz.o.trans HB.o.ext)).at Ah;subst SR;have U:¬(X.length:Int)<=(j:Int):=by rw[HL.o];omega
    obtain⟨p2,I,ok,xk⟩:∃p2 I ok,xP (p,q) (x,y)=((p2,I),ok):=⟨_,_,_,rfl⟩;have yt:=ae xk
    have zW:=ae (show zg X [mem[k]?.getD 0] (p,q)=if ok=true then some (p2,I) else none by
     rw[hj];simp only[zg];rw[if_neg U,Int.toNat_natCast,xW,xk])
    have zD:=ae yQ;clear hj xk xW yQ U;go_upto_region 9 with fail
    go_cut [9,10] (fun sx so wx=>∃g:Nat,sx=.pointer (some ⟨g,0,none⟩)/\so=.bool ok/\b7 (aj G wx g p2 I))
    case first =>
     have k7:Ext G G.drew:=Ext.drew G;have xI:Ext G (G.alloc (.cells #[.int .i64 0,.int .i64 0] 46)).drew:=(Ext.alloc _ _).trans (Ext.drew _);have k8:=ae (fun(w':World) (h:Ext G w')=>(⟨h.k6 AR,h.k6 zN,h.k6 Rs,h.k6 Wb,h.k6 SS,h⟩:w'.cell? ⟨w1.heap.size,0,none⟩=some (.int .i64 p)/\w'.cell? ⟨w1.heap.size,1,none⟩=some (.int .i64 q)/\w'.cell? ⟨lb,Hq+k,none⟩=some (.int .i64 (j:Int))/\w'.cell? ⟨W,Z+j*2,none⟩=some (.int .i64 x)/\w'.cell? ⟨W,Z+j*2+1,none⟩=some (.int .i64 y)/\Ext G w'))
     go_region_held3 (fun w'=>w'.cell? ⟨w1.heap.size,0,none⟩=some (.int .i64 p)/\w'.cell? ⟨w1.heap.size,1,none⟩=some (.int .i64 q)/\w'.cell? ⟨lb,Hq+k,none⟩=some (.int .i64 (j:Int))/\w'.cell? ⟨W,Z+j*2,none⟩=some (.int .i64 x)/\w'.cell? ⟨W,Z+j*2+1,none⟩=some (.int .i64 y)/\Ext G w')
      (first
        | with_reducible exact k8.o _ k7
        | with_reducible exact k8.o _ xI
        | with_reducible exact k8.o _ ((k7.setCell (by first|(simp;done)|(simp;omega)) _).setCell (by first|(simp;done)|(simp;omega)) _)
        | with_reducible exact k8.o _ (k7.trans (Ext.alloc _ _))
        | with_reducible exact k8.o _ (r9.put _ _).ext)
      (first
        | (go_at_call 144
           (with_reducible refine(lK _ _ _ _ _).mono ?_)
           rw[yt.o];rintro e w5 ⟨rfl,J⟩
           first|(with_reducible have r9:=aj.grow r9 J)|(with_reducible have r9:=aj.xu J)|(with_reducible have r9:=aj.xA k7 J)|skip
           first|(have BQ:=r9.c0;have BP:=r9.c1;have C3:=r9.free)|skip
           have k7:Ext G w5:=by first|with_reducible exact k7.trans J|with_reducible exact xI.trans J|with_reducible exact(k7.trans (Ext.alloc _ _)).trans J
           have zr:=k7.size)
        | fail)
     all_goals(go_wp2_with fail;go_meet;first|exact⟨_,rfl,rfl,ae (r9.put _ _)⟩|exact⟨_,rfl,rfl,ae (aj.new k7 _ _)⟩|exact⟨_,rfl,rfl,ae (aj.new' k7 _ _ e7)⟩)
    obtain⟨g,rfl,rfl,zV⟩:=hcut;have g0:=zV.o.c0;have g1':=zV.o.c1;have O:=HB.o.grow zV.o.ext;have XU:=O.ext;have Xb:=HM.o.ext zV.o.ext;have Ii:=O.c0;have Ih:=O.c1;have Qd:=O.free;have zE:=ae O;have xj:=ae XU;have Ca:=ae Xb;clear AR zN Rs Wb SS O XU Xb;cases ok
    ·have HN:=ae (show bH X s=none by rw[Fb.o];exact jb zD.o HT.o (by rw[zW.o];rfl));have hr:=ah (u.o wc xj.o);obtain⟨yN,yC,CZ⟩:=hr;go_wp2_with fail;refine bodyPost_ret (v:=.tuple #[.agg #[.int .i64 0,.int .i64 0],.bool false]) (by simp[results,Tryz.results95,go_sem,yN,yC]) rfl ⟨by rw[HN.o];rfl,(((Em.o.trans xj.o).store 0 (Nat.le_refl _) _).store 1 (Nat.le_refl _) _)⟩
    ·have Bu:=ae (pf zD.o HT.o (by rw[zW.o];rfl))
     have CB:=ae (show o8 ((wc.setCell ⟨w1.heap.size,0,none⟩ (.int .i64 p2)).setCell ⟨w1.heap.size,1,none⟩ (.int .i64 I)) w1.heap.size (.slice (some ⟨lb,Hq,none⟩) K cm) mem from
      Ca.o.keep fun i hi=>by
       have:i≠w1.heap.size:=fun e=>av Ca.o zE.o.cell (by decide) (by rw[hi,e])
       rw[heap_setCell_other _ _ _ _ this,heap_setCell_other _ _ _ _ this])
     have AB:=ae (zE.o.put p2 I);go_wp2_with fail
     go_roundg (g1-1)
     case measure=>have:=HK.o;omega
     case rel=>exact⟨k+1,p2,I,ae (j4 HK.o),by go_num,AB,Bu,CB⟩
   ·have U:(X.length:Int)<=(j:Int):=by rw[HL.o];omega
    have HN:=ae (show bH X s=none by rw[Fb.o];exact jb yQ HT.o (by rw[hj];simp only[zg];rw[if_pos U]));have hr:=ah (u.o G HB.o.ext);obtain⟨yN,yC,CZ⟩:=hr;have Ia:(j:Int)≥(n:Int):=by omega
    clear hj U;go_wp2_with fail;refine bodyPost_ret (v:=.tuple #[.agg #[.int .i64 0,.int .i64 0],.bool false]) (by simp[results,Tryz.results95,go_sem,yN,yC]) rfl ⟨by rw[HN.o];rfl,(((Em.o.trans HB.o.ext).store 0 (Nat.le_refl _) _).store 1 (Nat.le_refl _) _)⟩
  ·have xQ:K=k:=by have:=HK.o;omega
   subst xQ
   have HY:=ae (show bH X s=some (p,q)by
    rw[Fb.o];have h:=HT.o;rwa [List.take_of_length_le (by rw[NW.o];exact Nat.le_refl _)]at h)
   have hr:=ah (u.o G HB.o.ext);obtain⟨yN,yC,CZ⟩:=hr;go_wp2_with fail;refine bodyPost_ret (v:=.tuple #[.agg #[.int .i64 p,.int .i64 q],.bool true]) (by simp[results,Tryz.results95,go_sem,yN,yC]) rfl ⟨by rw[HY.o];rfl,(((Em.o.trans HB.o.ext).store 0 (Nat.le_refl _) _).store 1 (Nat.le_refl _) _)⟩
theorem uh{p:Int}{cap:Nat}(h:Ints w a n cap V)(hx:r8 w b m yF X):
 Calls Tryz.prog 45 #[pair p a n cap,.slice b m yF] w fun e w'=>e=.returned (.bool (ye p V X))/\Ext w w':=by
 have HX:=ae (Ext.alloc w (.cells #[.int .i64 p,.slice a n cap] 26));have HL:=ae h.hlen;have W:=ae hx.hlen;have HI:=ae (h.ext HX.o);have HR:=ae (hx.ext HX.o);have Wa:=hx.o3;have V9:=hx.l9;have HV:=ae (eV (p:=p) HI.o);clear h hx;cases hv:aZ p V
 ·rw[hv]at HV;have HP:=ae (show ye p V X=false by unfold ye;rw[hv];rfl);clear hv;go_enter Tryz.func45,Tryz.ntmps45
  go_wp2_with fail;refine HV.o.mono ?_;rintro e w1 ⟨rfl,hx⟩;have X1:=ae (HX.o.trans hx);clear hx;go_wp2_with fail;go_ret;exact⟨ag HP.o.symm,X1.o⟩
 rw[hv]at HV;obtain⟨q,rfl,h1,h5,hlen,_,CO⟩:=aW hv;have It:=ae hv;have hN:=cu q h5;obtain⟨u,rfl⟩:∃u,n=u+1:=⟨n-1,by have:=HL.o;omega⟩;have S1:u<=31:=by have:=HL.o;omega
 have yA:=ae (show -500<=bD (q:Int) V/\bD (q:Int) V<=500 by rw[ez hv];exact dM CO _);clear hv hlen CO hN;by_cases ZI:m=q
 ·subst ZI;have R:=ae (fun(w':World) (hx:Ext (w.alloc (.cells #[.int .i64 (m:Int),.slice a (u+1) cap] 26)) w')=>jA (HR.o.ext hx));cases Ef:yz X
  ·have HP:=ae (show ye (m:Int) V X=false by unfold ye;rw[Ef];simp);rw[Ef]at R;clear Ef;go_enter Tryz.func45,Tryz.ntmps45
   go_wp2_with fail;refine HV.o.mono ?_;rintro e w1 ⟨rfl,hx⟩;have c0:w1.cell? ⟨w.heap.size,0,none⟩=some (.int .i64 (m:Int)):=hx.k6 e7;have IU:((m:Int) != (m:Int))=false:=by simp
   have US:=ae (R.o w1 hx);have X1:=ae (HX.o.trans hx);clear hx;go_wp2_with fail;refine US.o.mono ?_;rintro e w2 ⟨rfl,xg⟩;have X2:=ae (X1.o.trans xg);clear xg;go_wp2_with fail;go_ret;exact⟨ag HP.o.symm,X2.o⟩
  ·rw[Ef]at R;have UP:=ae Ef;clear Ef;go_enter Tryz.func45,Tryz.ntmps45
   go_wp2_with fail;refine HV.o.mono ?_;rintro e w1 ⟨rfl,hx⟩;have c0:w1.cell? ⟨w.heap.size,0,none⟩=some (.int .i64 (m:Int)):=hx.k6 e7;have c1:w1.cell? ⟨w.heap.size,1,none⟩=some (.slice a (u+1) cap):=hx.k6 e7;have IU:((m:Int) != (m:Int))=false:=by simp
   have US:=ae (R.o w1 hx);have X1:=ae hx;clear hx;go_wp2_with fail;refine US.o.mono ?_;rintro e w2 ⟨rfl,xg⟩;have X2:=ae (X1.o.trans xg);replace c0:=xg.k6 c0;replace c1:=xg.k6 c1;clear xg;have D7:((u+1:Nat):Int)-1=(u:Int):=by omega
   have Iw:=ae (oO (HR.o.ext X2.o) u b9)
   have YL:=ae (show ye (m:Int) V X=decide (bH X u=some (bD (m:Int) V,1))by
    unfold ye;rw[It.o,UP.o,decide_eq_true (by rw[W.o]),HL.o];rfl)
   cases DC:bH X u with
   | none =>
     have HF:=ae (show ye (m:Int) V X=false by rw[YL.o,DC];rfl);rw[DC]at Iw;clear DC;go_wp2_with fail;refine Iw.o.mono ?_;rintro e w3 ⟨rfl,I⟩;have X3:=ae ((HX.o.trans X2.o).trans I);clear I;go_wp2_with fail
     go_quiet (fail)
     go_wp2_with fail;go_ret;exact⟨ag HF.o.symm,(X3.o.trans (Ext.alloc _ _)).trans (yd.ext ⟨_,rfl⟩)⟩
   | some r =>
     obtain⟨r1,J⟩:=r
     have HF:=ae (show ye (m:Int) V X=(decide (r1=bD (m:Int) V)&&decide (J=1))by
      rw[YL.o,DC];simp)
     rw[DC]at Iw;clear DC;go_wp2_with fail;refine Iw.o.mono ?_;rintro e w3 ⟨rfl,I⟩;replace c0:=I.k6 c0;replace c1:=I.k6 c1;have X3:=ae (X2.o.trans I);clear I;obtain⟨E,K⟩:=b8 (w3.alloc (.cells #[.int .i64 r1,.int .i64 J] 46));have O:Ext w3 E:=by rw[K];exact Ext.alloc _ _
     have XE:=ae (X3.o.trans O);have e0:=O.k6 c0;have e1:=O.k6 c1;have b0:E.cell? ⟨w3.heap.size,0,none⟩=some (.int .i64 r1):=by rw[K];simp
     have b1:E.cell? ⟨w3.heap.size,1,none⟩=some (.int .i64 J):=by rw[K];simp
     have Ez:=ae (fun(w':World) (hx:Ext E w')=>ko (p:=(m:Int)) ((HI.o.ext XE.o).ext hx));obtain⟨G,U⟩:=b8 (bD (m:Int) V);rw[<-U]at HF Ez;clear U;go_upto_region 4 with fail;rw[<-K];clear K c0 c1 O;have k7:Ext E E.drew:=Ext.drew E;have k8:=ae (fun(w':World) (h:Ext E w')=>(⟨h.k6 e0,h.k6 e1,h.k6 b0,h.k6 b1,h⟩:w'.cell? ⟨w.heap.size,0,none⟩=some (.int .i64 (m:Int))/\w'.cell? ⟨w.heap.size,1,none⟩=some (.slice a (u+1) cap)/\w'.cell? ⟨w3.heap.size,0,none⟩=some (.int .i64 r1)/\w'.cell? ⟨w3.heap.size,1,none⟩=some (.int .i64 J)/\Ext E w'));cases wO:(r1 == G)
     all_goals
      cases xM:(J == 1)
     all_goals
      have UK:=ae (show ye (m:Int) V X=((r1 == G)&&(J == 1))by rw[HF.o];rw[Bool.eq_iff_iff];simp);rw[wO,xM]at UK
      go_region_held3 (fun w'=>w'.cell? ⟨w.heap.size,0,none⟩=some (.int .i64 (m:Int))/\w'.cell? ⟨w.heap.size,1,none⟩=some (.slice a (u+1) cap)/\w'.cell? ⟨w3.heap.size,0,none⟩=some (.int .i64 r1)/\w'.cell? ⟨w3.heap.size,1,none⟩=some (.int .i64 J)/\Ext E w')
       (first
         | with_reducible exact k8.o _ k7)
       (first
         | (go_at_call 19
            (with_reducible refine(Ez.o _ k7).mono ?_)
            rintro e w4 ⟨rfl,xG⟩
            have k7:Ext E w4:=k7.trans xG)
         | (go_at_call 18
            (with_reducible refine(cG _ _).mono ?_)
            rintro e w5 ⟨rfl,Z⟩
            have k7:Ext E w5:=k7.trans Z)
         | fail)
      all_goals
       go_wp2_with fail;go_ret;exact⟨ag (by rw[UK.o];rfl),HX.o.trans (XE.o.trans k7)⟩
 ·have HP:=ae (show ye (q:Int) V X=false by unfold ye;rw[decide_eq_false (by rw[W.o];omega:¬(X.length:Int)=(q:Int))];simp);have IU:((m:Int) != (q:Int))=true:=by simp;omega
  go_enter Tryz.func45,Tryz.ntmps45
  go_wp2_with fail;refine HV.o.mono ?_;rintro e w1 ⟨rfl,hx⟩;have c0:w1.cell? ⟨w.heap.size,0,none⟩=some (.int .i64 (q:Int)):=hx.k6 e7;have X1:=ae (HX.o.trans hx);clear hx;go_wp2_with fail;go_ret;exact⟨ag HP.o.symm,X1.o⟩
def Ej(p:Int)(V:j9)(X:j6)(lo c:Nat):Option (j6):=if ye p V X=true then Di V X lo c else none
theorem ug{p:Int}{cap:Nat}(h:Ints w a n cap V)(hx:r8 w b m yF X)(hg:aZ p V=true){s:Nat}(hs:s<n):
 Calls Tryz.prog 46 #[pair p a n cap,.slice b m yF,.int .i64 (s:Int)] w fun e w'=>e=.returned (BA ((yU V X s).getD (0,0),(yU V X s).isSome))/\Ext w w':=by
 obtain⟨W,hW⟩:=b8 ((w.alloc (.cells #[.int .i64 p,.slice a n cap] 26)).alloc (.cells #[.int .i64 0,.int .i64 0] 46));have yI:=ae (show W.heap.size=w.heap.size+2 by rw[hW];simp);have hX:Ext w W:=by rw[hW];exact(Ext.alloc _ _).trans (Ext.alloc _ _)
 have xU:=ae (show W.heap[w.heap.size+1]?=some (.cells #[.int .i64 0,.int .i64 0] 46 (0,0))by rw[hW];exact ak _ _ _ e7);have Ev:=ae (show W.cell? ⟨w.heap.size,0,none⟩=some (.int .i64 p)by rw[hW];exact Ext.k6 (Ext.alloc _ _) e7);have FQ:=ae (show W.cell? ⟨w.heap.size,1,none⟩=some (.slice a n cap)by rw[hW];exact Ext.k6 (Ext.alloc _ _) e7);have HI:=ae (h.ext hX);have HR:=ae (hx.ext hX);have HX:=ae hX;have HV:=ae (eV (p:=p) HI.o);rw[hg,hW]at HV;have HL:=ae h.hlen;obtain⟨q,rfl,Au,Dq,TD,_,I5⟩:=aW hg;have hc:=cu q Dq;have CH:n<=32:=by have:=HL.o;omega
 have Ha:=ae (fun i=>dM I5 i);have o3:=h.o3;have l9:=h.l9;have xR:wJ (s:Int) 0 ((n:Int)-1)=true:=by unfold wJ;simp;omega
 clear h hx hX hg TD I5;go_enter Tryz.func46,Tryz.ntmps46
 go_wp2_with fail;refine HV.o.mono ?_;rw[<-hW];rintro e w1 ⟨rfl,wO⟩;have X1:=ae wO;have b0:=wO.k6 Ev.o;have b1:=wO.k6 FQ.o;clear wO hW HV;go_wp2_with fail;refine(aK _ _ _ _).mono ?_;rw[xR];rintro e w2 ⟨rfl,rfl⟩;clear xR;go_wp2_with fail;refine(oO (HR.o.ext X1.o) s b9).mono ?_;obtain⟨r1,I,one,hr⟩:∃r1 I one,((bH X s).getD (0,0),(bH X s).isSome)=(((r1,I):k5),one):=⟨_,_,_,rfl⟩;rw[hr];have Iw:=ae hr;rintro e w3 ⟨rfl,U⟩;obtain⟨G,B7⟩:=b8 (w3.alloc (.cells #[.int .i64 r1,.int .i64 I] 46));have R:Ext w3 G:=by rw[B7];exact Ext.alloc _ _
 have X4:=ae ((X1.o.trans U).trans R);have c0:=(U.trans R).k6 b0;have c1:=(U.trans R).k6 b1;have d0:G.cell? ⟨w3.heap.size,0,none⟩=some (.int .i64 r1):=by rw[B7];simp
 have d1:G.cell? ⟨w3.heap.size,1,none⟩=some (.int .i64 I):=by rw[B7];simp
 obtain⟨u,Z,rfl,DB⟩:=(HI.o.ext X4.o).at hs;obtain⟨v,hv⟩:=b8 (V[s]?.getD 0);rw[<-hv]at DB;obtain⟨p2,O,ok,xk⟩:∃p2 O ok,xy (v,1) (r1,I)=((p2,O),ok):=⟨_,_,_,rfl⟩;have yt:=ae xk;have It:=ae hv;clear hr U R b0 b1 hv xk;go_upto_region 4 with fail;rw[<-B7];clear B7;have hr:=ah ((X4.o.block _ (j4 yI.o)).trans xU.o);obtain⟨yN,yC,CZ⟩:=hr;have XF:=ae (HX.o.trans X4.o);cases one
 ·have HN:=ae (show yU V X s=none by
   have:=Iw.o;simp only[Prod.mk.injEq]at this;unfold yU;cases DC:bH X s with
   | none=>rfl
   | some r=>rw[DC]at this;simp at this)
  go_wp2_with fail;refine bodyPost_ret (v:=.tuple #[.agg #[.int .i64 0,.int .i64 0],.bool false]) (by simp[results,Tryz.results46,go_sem,yN,yC]) rfl ⟨by rw[HN.o];rfl,(XF.o.store 0 b9 _).store 1 b9 _⟩
 ·have HN:=ae (show yU V X s=if ok=true then some (p2,O) else none by
   have:=Iw.o;simp only[Prod.mk.injEq]at this;unfold yU;cases DC:bH X s with
   | none=>rw[DC]at this;simp at this
   | some r =>
     rw[DC]at this;simp only[Option.getD_some]at this;rw[this.1]
     show Dh (V[s]?.getD 0) (r1,I)=_;unfold Dh
     rw[<-It.o,yt.o])
  have HZ:=ae (show ok=false->p2=0/\O=0 by
   intro xq;have h1:=yt.o;have h2:=kC (a:=(v,1)) (b:=(r1,I)) (by rw[h1];exact xq);rw[h1]at h2;simp only[Prod.mk.injEq]at h2
   exact h2)
  have yJ:Ext G G.drew:=Ext.drew G;have k8:=ae (fun(w':World) (h:Ext G w')=>(⟨h.k6 c1,h.k6 DB,h.k6 d0,h.k6 d1,h⟩:w'.cell? ⟨w.heap.size,1,none⟩=some (.slice (some ⟨u,Z,none⟩) n cap)/\w'.cell? ⟨u,Z+s,none⟩=some (.int .i64 v)/\w'.cell? ⟨w3.heap.size,0,none⟩=some (.int .i64 r1)/\w'.cell? ⟨w3.heap.size,1,none⟩=some (.int .i64 I)/\Ext G w'));clear yN yC CZ;go_wp2_with fail;refine du (M:=[10]) (S:=fun w'=>w'.cell? ⟨w.heap.size,1,none⟩=some (.slice (some ⟨u,Z,none⟩) n cap)/\w'.cell? ⟨u,Z+s,none⟩=some (.int .i64 v)/\w'.cell? ⟨w3.heap.size,0,none⟩=some (.int .i64 r1)/\w'.cell? ⟨w3.heap.size,1,none⟩=some (.int .i64 I)/\Ext G w') e8 ?_;have k9:=k8.o _ yJ;obtain⟨wd,J⟩:=b8 G.drew;rw[<-J]at yJ k9;rw[<-J];clear J;refine lp 0 ?_;refine ll 1 ?_;refine lp 2 ?_;refine lp 3 ?_;refine ll 4 ?_;refine ll 6 ?_;refine bh (i:=5) (oi:=?_) ?_ ?_ ?_ (fun K hK=>?_);rotate_left
  ·simp only[gA,gB,gC];rfl
  ·kernel_rfl
  ·kernel_rfl
  go_simp;go_at_call 18;refine(cG _ _).mono ?_;rintro e w5 ⟨rfl,zh⟩;have yJ:Ext G w5:=yJ.trans zh;clear zh;go_wp2_with fail;refine hK.out _ _ (fun _=>k8.o _ yJ) ?_;have k9:=k8.o _ yJ;clear hK K
  try simp only[Act.put,sA,sB,sC]
  refine bh (i:=7) (oi:=?_) ?_ ?_ ?_ (fun K hK=>?_);rotate_left
  ·simp only[gA,gB,gC];rfl
  ·kernel_rfl
  ·kernel_rfl
  go_simp;go_at_call 58;refine(jB _ _ _ _ _).mono ?_;rw[yt.o];rintro e w6 ⟨rfl,Oc⟩;have yJ:Ext G w6:=yJ.trans Oc;clear Oc;have hr6:=ah (((X4.o.trans yJ).block _ (j4 yI.o)).trans xU.o);obtain⟨yN,yC,CZ⟩:=hr6;go_wp2_with fail;refine hK.out _ _ (fun _=>k8.o _ yJ) ?_;have k9:=k8.o _ yJ;clear hK K
  try simp only[Act.put,sA,sB,sC]
  refine lp 8 ?_;refine lp 9 ?_;refine dH (i:=10) (oi:=?_) (w':=?_) ?_ ?_ ?_ ?_ ?_ ?_ ?_;rotate_left 2
  ·simp only[gA,gB,gC];rfl
  ·kernel_rfl
  ·kernel_rfl
  ·exact of_decide_eq_true e8
  ·rfl
  ·go_simp;(try with_reducible rfl)
  try simp only[Act.put,sA,sB,sC]
  refine jD (i:=11) (oi:=?_) (v:=?_) ?_ ?_ ?_ ?_ ?_ ?_ ?_ ?_ ?_;rotate_left 2
  ·simp only[gA,gB,gC];rfl
  ·kernel_rfl
  ·kernel_rfl
  ·kernel_rfl
  ·kernel_rfl
  ·exact fun _ _ _ h=>h
  ·refine Or.inl ⟨by rfl,?_⟩;intro w G8;(try dsimp only at G8);go_simp;(try with_reducible rfl)
  ·kernel_rfl
  try simp only[Act.put,sA,sB,sC]
  refine dL e8 ?_ _;have XG:=ae (HX.o.trans (X4.o.trans yJ));go_wp2_with fail;refine bodyPost_ret (v:=.tuple #[.agg #[.int .i64 p2,.int .i64 O],.bool ok]) (by simp[results,Tryz.results46,go_sem,yN,yC]) rfl ⟨?_,(XG.o.store 0 b9 _).store 1 b9 _⟩;rw[HN.o];cases ok
  ·obtain⟨z1,z2⟩:=HZ.o rfl;rw[z1,z2];rfl
  ·rfl
theorem jC{p:Int}{cap:Nat}(h:Ints w a n cap V)(hx:r8 w b m yF X)(lo c:Nat)(hi:Int)(hh:aZ p V=true->hi+1=(lo:Int)+c/\lo+c<=n):
 Calls Tryz.prog 15 #[pair p a n cap,.slice b m yF,.int .i64 (lo:Int),.int .i64 hi] w fun e w'=>(∃v,e=.returned (.tuple #[v,.bool (Ej p V X lo c).isSome])/\l8 w' w.heap.size v ((Ej p V X lo c).getD []))/\Ext w w':=by
 have HX:=ae (Ext.alloc w (.cells #[.int .i64 p,.slice a n cap] 26));have HI:=ae (h.ext HX.o);have HR:=ae (hx.ext HX.o);have HL:=ae h.hlen;have o3:=h.o3;have l9:=h.l9;have HP:=ae (uh (p:=p) HI.o HR.o);have k0:(w.alloc (.cells #[.int .i64 p,.slice a n cap] 26)).cell? ⟨w.heap.size,0,none⟩=some (.int .i64 p):=by simp
 have k1:(w.alloc (.cells #[.int .i64 p,.slice a n cap] 26)).cell? ⟨w.heap.size,1,none⟩=some (.slice a n cap):=by simp
 obtain⟨W,hW⟩:=b8 (w.alloc (.cells #[.int .i64 p,.slice a n cap] 26));rw[<-hW]at HX HI HR HP k0 k1;have yI:=ae (show W.heap.size=w.heap.size+1 by rw[hW];simp);have HH:=ae hh;clear h hx hh;cases hp:ye p V X
 ·have HN:=ae (show Ej p V X lo c=none by unfold Ej;rw[if_neg (by rw[hp];simp)]);rw[hp]at HP;clear hp;go_enter Tryz.func15,Tryz.ntmps15
  go_upto_region 1 with fail;rw[<-hW];clear hW;go_wp2_with fail;refine HP.o.mono ?_;rintro e w1 ⟨rfl,wO⟩;have X1:=ae wO;clear wO;go_wp2_with fail
  go_ret2
  exact⟨⟨_,gM (by rw[HN.o];rfl),by rw[HN.o];exact l8.nil _ _⟩,HX.o.trans X1.o⟩
 rw[hp]at HP;have HA:=ae (show Ej p V X lo c=Di V X lo c by unfold Ej;rw[if_pos hp]);have HG:=ae (dl hp);obtain⟨q,U,Au,Dq,u,_,I5⟩:=aW HG.o;have EH:=cu q Dq;have CH:n<=32:=by have:=HL.o;omega
 obtain⟨Xo,Vd⟩:=HH.o HG.o;clear hp U u I5;go_enter Tryz.func15,Tryz.ntmps15
 go_upto_region 1 with fail;rw[<-hW];clear hW;go_wp2_with fail;refine HP.o.mono ?_;rintro e w1 ⟨rfl,wO⟩;have xC:=ae (l8.Gl w1 W.heap.size _ rfl wO.size);have X1:=ae (wO.trans (Ext.alloc w1 (.cells #[] 46)));clear wO;go_wp2_with fail
 go_loopg [10,11] c (fun gk oo ii wr=>∃(k s:Nat) (a1:j8) (n1 p1:Nat) (r:j6),b7 (gk+k=c)/\b7 (s=lo+k)/\oo=.slice a1 n1 p1/\ii=.int .i64 (s:Int)/\b7 (runT (fun k=>yU V X (lo+k)) k=some r)/\b7 (l8 wr W.heap.size (.slice a1 n1 p1) r)/\b7 (Ext W wr))
 case atStart=>exact⟨0,lo,_,_,_,[],ae b9,ae rfl,rfl,rfl,ae rfl,xC,X1⟩
 case round =>
  obtain⟨g1,Z⟩:=b8 gk;subst Z;obtain⟨wr,Eg⟩:=b8 wr;subst Eg;obtain⟨k,s,a1,n1,p1,r,K,HS,rfl,rfl,Bv,HO,G⟩:=hrel;have c0:=G.o.k6 k0;have c1:=G.o.k6 k1;have hsz:=G.o.size;by_cases hlt:k<c
  ·have hle:(s:Int)<=hi:=by have:=HS.o;omega
   have IP:s<n:=by have:=HS.o;omega
   have HE:=ae (ug (p:=p) (HI.o.ext G.o) (HR.o.ext G.o) HG.o (s:=s) IP);obtain⟨x,y,ok,J⟩:∃x y ok,((yU V X s).getD (0,0),(yU V X s).isSome)=(((x,y):k5),ok):=⟨_,_,_,rfl⟩;rw[J]at HE;have R:=ae J;clear J;go_wp2_with fail;refine HE.o.mono ?_;rintro e w3 ⟨rfl,I⟩;have X4:=ae ((G.o.trans I).trans (Ext.alloc w3 (.cells #[.int .i64 x,.int .i64 y] 46)));have O:=ae ((HO.o.ext I).ext (Ext.alloc w3 (.cells #[.int .i64 x,.int .i64 y] 46)));have CY:=(G.o.trans I).size;clear I;cases ok
   ·have HN:=ae (show Ej p V X lo c=none by
     rw[HA.o];unfold Di;refine fj Bv.o ?_ hlt;rw[<-HS.o];have:=R.o;simp only[Prod.mk.injEq]at this;cases hq:yU V X s with
     | none=>rfl
     | some z=>rw[hq]at this;simp at this)
    go_wp2_with fail
    go_ret2
    exact⟨⟨_,gM (by rw[HN.o];rfl),by rw[HN.o];exact l8.nil _ _⟩,HX.o.trans X4.o⟩
   ·have Eu:=ae (dB (x:=(x,y)) Bv.o (by
     rw[<-HS.o];have:=R.o;simp only[Prod.mk.injEq]at this;cases hq:yU V X s with
     | none=>rw[hq]at this;simp at this
     | some z=>rw[hq]at this;simp at this;rw[this]))
    have zy:=ae (cU Bv.o);have hk32:k<=32:=by have:=HS.o;omega
    go_wp2_with (first
     | (at_builtin;refine aG rfl _ _ rfl W.heap.size (.slice a1 n1 p1) _ rfl (O.o.ext (Ext.alloc _ _)) _ 1 _ [(x,y)] rfl (r8.one' _ _ _ _ _ e7) (by rw[zy.o];omega) (by simp;omega) ?_;intro v2 w5 ho hg l7;obtain⟨a2,n2,c2,rfl,Fa⟩:=ho.var;have xL:=ae ho;have X5:=ae (al (X4.o.trans (Ext.alloc _ _)) hg (fun j hj=>(O.o.lt j hj).1));clear ho hg l7))
    go_roundg (g1-1)
    case measure=>have:=K.o;omega
    case rel=>exact⟨k+1,s+1,a2,n2,c2,_,ae (j4 K.o),ae (j4 HS.o),rfl,by go_num,Eu,xL,X5⟩
  ·have k7:k=c:=by have:=K.o;omega
   have WT:¬(s:Int)<=hi:=by have:=HS.o;omega
   subst k7;go_wp2_with fail
   go_ret2
   exact⟨⟨_,gM (by rw[HA.o];unfold Di;rw[Bv.o];rfl),by rw[HA.o];unfold Di;rw[Bv.o];exact HO.o.mono (by rw[yI.o];omega)⟩,HX.o.trans G.o⟩
end Go.Proofs.YtalmoolkhcgmmaaGreat
namespace Go.Proofs.YtalmoolkhcgmmaaGreat
variable{V:j9}{X:j6}{n yF:Nat}{w:World}
set_option maxHeartbeats 16000000
set_option maxRecDepth 100000
open Go.RowKit
theorem qk{p:Int}(h:V.length=n):Ej p V X 1 (n-2)=yj p V X:=by unfold Ej yj;rw[h]
theorem qq{p:Int}(hl:V.length=n)(h:aZ p V=true):(n:Int)-2+1=((1:Nat):Int)+((n-2:Nat):Int)/\1+(n-2)<=n:=by
 obtain⟨q,_,h1,h5,hlen,_,_⟩:=aW h;have:∀q:Fin 6,1<=q.val->2<=cN q.val:=by decide
 have:=this ⟨q,by omega⟩ h1;simp only at this;omega
theorem l8.AM{w':World}{base base':Nat}{v G:Value}{l:j6}{I:List Value}(h:l8 w base v l)(hv:xe w base' G I)(hg:w.grownBy w' G.ownBlock):l8 w' base v l :=
 h.keep fun q hq=>hg.block q (h.lt q hq).2 fun e=>aY (show(46:Nat)≠24 by decide) h hv q hq e.symm
theorem nU{p:Int}{a:j8}{cap:Nat}(h:Ints w a n cap V){b:j8}{m:Nat}(hx:r8 w b m yF X){l:j6}(hA:yj p V X=some l)(zq:0<l.length):
 Calls Tryz.prog 97 #[pair p a n cap,.slice b m yF] w fun e w'=>(∃v,e=.returned v/\l8 w' w.heap.size v (Ak l))/\Ext w w':=by
 have HX:=ae (Ext.alloc w (.cells #[.int .i64 p,.slice a n cap] 26));have HE:=jC (p:=p) (h.ext HX.o) (hx.ext HX.o) 1 (n-2) ((n:Int)-2) (qq h.hlen);rw[qk h.hlen,hA]at HE;have HE:=ae HE;have o3:=h.o3;have l9:=h.l9;have H6:2<n:=by
  have h1:=(cJ hA).2;have h2:=h.hlen;omega
 have CH:n<=32:=by
  obtain⟨q,_,h1,h5,hlen,_,_⟩:=aW (dl (cJ hA).1);have:=cu q h5;have h2:=h.hlen;omega
 have HV:=ae (pT hA);have G:=ae zq;have Fv:=ae (show l.length<=1000000 by have h1:=(cJ hA).2;have h2:=h.hlen;omega);clear h hx hA zq;go_enter Tryz.func97,Tryz.ntmps97
 go_wp2_with fail;refine HE.o.mono ?_;rintro e w1 ⟨⟨v,rfl,ho⟩,wO⟩;obtain⟨a1,n1,c1,rfl,HN⟩:=ho.var;have ho:l8 w1 _ (.slice a1 n1 c1) l:=ho;have Bj:0<n1:=by have h1:=HN.o;have h2:=G.o;change l.length=n1 at h1;omega
 obtain⟨g,rfl,J,_,_⟩:=ho.block Bj;have HS:=ae (PA ho HV.o (by have h1:=ho.wK.hlen;have:=Fv.o;omega));have X1:=ae wO;clear ho wO HN;go_wp2_with fail;refine HS.o.mono ?_;rintro e w2 ⟨rfl,I,xg⟩;have yE:=ae I;have X2:=ae (HX.o.trans (xg _ X1.o J));clear I xg;go_wp2_with fail;go_ret;exact⟨⟨_,rfl,yE.o.mono e7⟩,X2.o⟩
theorem ui{p:Int}{a:j8}{cap:Nat}(h:Ints w a n cap V){b:j8}{m:Nat}(hx:r8 w b m yF X):
 Calls Tryz.prog 47 #[pair p a n cap,.slice b m yF] w fun e w'=>(∃v,e=.returned v/\dI w' w.heap.size v (Cd p V X))/\Ext w w':=by
 obtain⟨W,hW⟩:=b8 (w.alloc (.cells #[.int .i64 p,.slice a n cap] 26));have hX:Ext w W:=by rw[hW];exact Ext.alloc _ _
 have yI:=ae (show W.heap.size=w.heap.size+1 by rw[hW];simp);have k0:W.cell? ⟨w.heap.size,0,none⟩=some (.int .i64 p):=by rw[hW];simp
 have k1:W.cell? ⟨w.heap.size,1,none⟩=some (.slice a n cap):=by rw[hW];simp
 have HX:=ae hX;have HI:=ae (h.ext hX);have HR:=ae (hx.ext hX);have o3:=h.o3;have l9:=h.l9;have Fc:=jC (p:=p) HI.o HR.o 1 (n-2) ((n:Int)-2) (qq h.hlen);rw[qk h.hlen]at Fc;have HE:=ae Fc;have yD:=ae h.hlen;clear h hx hX Fc;go_enter Tryz.func47,Tryz.ntmps47
 go_upto_region 1 with fail;rw[<-hW];clear hW;cases hA:yj p V X with
 | none =>
   have HN:=ae (oU hA);rw[hA]at HE;clear hA;go_wp2_with fail;refine HE.o.mono ?_;rintro e w1 ⟨⟨v,rfl,ho⟩,wO⟩;obtain⟨a1,n1,c1,rfl,He⟩:=ho.var;have X1:=ae (HX.o.trans wO);clear ho wO;go_wp2_with fail;go_ret;exact⟨⟨_,rfl,by rw[HN.o];exact dI.nil _ _⟩,X1.o⟩
 | some l =>
   rw[hA]at HE;have UR:=ae hA;clear hA;go_wp2_with fail;refine HE.o.mono ?_;rintro e w1 ⟨⟨v,rfl,ho⟩,wO⟩;obtain⟨a1,n1,c1,rfl,HN0⟩:=ho.var;have He:=ae (show l.length=n1 from HN0.o);clear HN0;have HO:=ae (show l8 w1 W.heap.size (.slice a1 n1 c1) l from ho);have X1:=ae wO;have c0:=wO.k6 k0;have c1':=wO.k6 k1;clear ho wO;by_cases hz:n1=0
   ·subst hz;have HN:=ae (show Cd p V X=[]by rw[iZ UR.o,List.eq_nil_of_length_eq_zero He.o];rfl);go_wp2_with fail;go_ret;exact⟨⟨_,rfl,by rw[HN.o];exact dI.nil _ _⟩,HX.o.trans X1.o⟩
   ·have CE:((n1:Int) == 0)=false:=by simp;omega
    have AQ:=ae (show 0<l.length by rw[He.o];omega);have U:=ae (X1.o.trans (Ext.alloc w1 (.cells #[] 24)));have HEV:=ae (nU (p:=p) (HI.o.ext U.o) (HR.o.ext U.o) UR.o AQ.o);have V0:=(Ext.alloc w1 (.cells #[] 24)).k6 c0;have k1':=(Ext.alloc w1 (.cells #[] 24)).k6 c1';have Ft:=ae (xe.yG w1 W.heap.size _ rfl X1.o.size);have CH:n1<=32:=by
     obtain⟨q,_,h1,h5,hlen,_,_⟩:=aW (dl (cJ UR.o).1);have:=cu q h5;have h2:=yD.o;have h3:=(cJ UR.o).2;have h4:=He.o;omega
    go_wp2_with fail;refine HEV.o.mono ?_;rintro e w2 ⟨⟨v2,rfl,zY⟩,xg⟩;obtain⟨a2,n2,c2,rfl,Fa⟩:=zY.var;have H6:n2=n1:=by have h1:=Fa.o;rw[fk]at h1;have:=He.o;omega
    subst H6;obtain⟨g,rfl,Oo,_,_⟩:=zY.block (k:=0) b9;have Zh:=ae (uj xg (Nat.le_refl _) zY b9 b9);clear zY xg Oo Fa V0 k1' c0 c1';go_wp2_with fail;refine Zh.o.mono ?_;rintro e w3 ⟨⟨mc,rfl,zS⟩,wS⟩;obtain⟨C,hC⟩:=b8 (Af (Ak l) n2);rw[<-hC]at zS;have HLS:=ae (show Cd p V X=C.map (fun e=>zp l e n2)by rw[iZ UR.o,hC];unfold C9 CD;rw[He.o]);have xp:=ae zS;have Z:=ae (HO.o.ext ((Ext.alloc w1 (.cells #[] 24)).trans wS));have Vv:=ae (Ft.o.ext wS);have X3:=ae (U.o.trans wS);have B6:=ae zS.wK.hlen;have U':mc<=32:=by have h1:=B6.o;have h2:=lB (Ak l) n2;rw[<-hC]at h2;omega
    have XJ:=zS.wK.o3;have XH:=zS.wK.l9;have hlcap:=Z.o.wK.o3;have hlmax:=Z.o.wK.l9;have D3:=X3.o.size;clear zS wS hC;go_wp2_with fail
    go_loopg [7,36] mc (fun gk oo ii wr=>∃(k:Nat) (a1':j8) (n1' p1:Nat) (vs:List Value),b7 (gk+k=mc)/\oo=.slice a1' n1' p1/\ii=.int .i64 (k:Int)/\b7 (xe wr W.heap.size (.slice a1' n1' p1) vs)/\b7 (bC wr W.heap.size vs ((C.take k).map fun e=>zp l e n2))/\b7 (l8 wr W.heap.size (.slice a1 n2 c1) l)/\b7 (l8 wr W.heap.size (.slice (some ⟨g,0,none⟩) mc c2) C)/\b7 (Ext W wr))
    case atStart=>exact⟨0,_,_,_,[],ae b9,rfl,rfl,Vv,ae (bC.nil _ _),Z,ae (xp.o.mono (by have:=X1.o.size;simp;omega)),X3⟩
    case round =>
     obtain⟨g1,r7⟩:=b8 gk;subst r7;obtain⟨J,o6⟩:=b8 wr;subst o6;obtain⟨k,a3,n3,p3,vs,HK,rfl,rfl,HV,zQ,YP,YT,CT⟩:=hrel;have Db:=CT.o.size;by_cases hlt:k<mc
     ·obtain⟨ex,G,xW⟩:=M4 C k;obtain⟨y5,yq⟩:=YT.o.AW.2.2.2 k hlt;rw[xW]at y5 yq;have CS:=ae (show C.take (k+1)=C.take k++[(ex,G)]by rw[dV (by rw[B6.o];exact hlt),xW]);clear xW;have EI:=ae (show vs.length=k by rw[zQ.o.len,List.length_map,List.length_take,B6.o];omega);have HXE:=ae (Ext.alloc J (.cells #[.int .i64 ex,.int .i64 G] 46));have yW:=ae (o8.yG (J.alloc (.cells #[.int .i64 ex,.int .i64 G] 46)) (J.heap.size+1) (J.heap.size+1) e7 e7);go_wp2_with fail
      go_loopg [10,43] n2 (fun gk row ii wr=>∃(j:Nat) (a4:j8) (n4 p4:Nat),b7 (gk+j=n2)/\row=.slice a4 n4 p4/\ii=.int .i64 (j:Int)/\b7 (o8 wr (J.heap.size+1) (.slice a4 n4 p4) (zp l (ex,G) j))/\b7 (Ext (J.alloc (.cells #[.int .i64 ex,.int .i64 G] 46)) wr))
      case atStart=>exact⟨0,_,_,_,ae b9,rfl,rfl,yW,ae (Ext.alloc _ _)⟩
      case round =>
       obtain⟨g2,xK⟩:=b8 gk;subst xK;obtain⟨I,wT⟩:=b8 wr;subst wT;obtain⟨j,a4,n4,p4,HJ,rfl,rfl,Vw,u⟩:=hrel;have hszj:J.heap.size+1<=I.heap.size:=by have:=u.o.size;simpa using this
       by_cases Ah:j<n2
       ·obtain⟨yb,yo,yx,yy,hye,FA,AJ,xM⟩:=(YP.o.ext (HXE.o.trans u.o)).wK.at Ah;subst hye;have ce0:I.cell? ⟨J.heap.size,0,none⟩=some (.int .i64 ex):=u.o.k6 e7;have ce1:I.cell? ⟨J.heap.size,1,none⟩=some (.int .i64 G):=u.o.k6 e7;have ZW:=Ext.alloc I (.cells #[.int .i64 yx,.int .i64 yy] 46);have ce0':=ZW.k6 ce0;have ce1':=ZW.k6 ce1;have xZ:=ae ZW;obtain⟨K,hK⟩:=b8 (wU (yx,yy) (ex,G));have Bg:=ae (show wU (l[j]?.getD (0,0)) (ex,G)=K by rw[FA,hK]);have Cr:=ix yx yy ex G (I.alloc (.cells #[.int .i64 yx,.int .i64 yy] 46));rw[<-hK]at Cr;have Cr:=ae Cr;clear ZW FA hK;by_cases yP:K<0
        ·have Eo:=ae (iX (l:=l) (e:=(ex,G)) (k:=j) (by rw[Bg.o];exact yP));have hng:¬K≥0:=by omega
         go_wp2_with fail;refine Cr.o.mono ?_;rintro e w4 ⟨rfl,R⟩;have xL:=ae ((Vw.o.ext xZ.o).ext R);have Br:=ae ((u.o.trans xZ.o).trans R);clear R;go_wp2_with fail
         go_roundg (g2-1)
         case measure=>have:=HJ.o;omega
         case rel=>exact⟨j+1,a4,n4,p4,ae (j4 HJ.o),rfl,by go_num,ae (by rw[Eo.o];exact xL.o),Br⟩
        ·have OC:=ae (show zp l (ex,G) (j+1)=zp l (ex,G) j++[(j:Int)+1]from(iY (l:=l) (e:=(ex,G)) (k:=j) (by rw[Bg.o];exact yP)).trans (by norm_cast));have hng:K≥0:=by omega
         have zR:=ae (iB l (ex,G) j);go_wp2_with fail;refine Cr.o.mono ?_;rintro e w4 ⟨rfl,R⟩;have xL:=ae ((Vw.o.ext xZ.o).ext R);have Br:=ae ((u.o.trans xZ.o).trans R);have A8:=Br.o.size;clear R
         go_wp2_with (first
          | (at_builtin;refine bm rfl _ _ rfl (J.heap.size+1) (.slice a4 n4 p4) _ rfl (xL.o.ext (Ext.alloc _ _)) _ 1 _ [(j:Int)+1] rfl (Ints.Ad _ _ _ _ e7) (j4 zR.o) (by simp at A8;simp;omega) ?_;intro v6 w6 ho hg l7;obtain⟨a6,n6,p6,rfl,Jg⟩:=ho.var;have BU:=ae ho;have X6:=ae (al (Br.o.trans (Ext.alloc _ _)) hg (fun q hq=>by have:=(xL.o.lt q hq).1;simp;omega));clear ho hg l7))
         go_roundg (g2-1)
         case measure=>have:=HJ.o;omega
         case rel=>exact⟨j+1,a6,n6,p6,ae (j4 HJ.o),rfl,by go_num,ae (by rw[OC.o];exact BU.o),X6⟩
       ·have DE:j=n2:=by have:=HJ.o;omega
        subst DE;have O:=ae (HXE.o.trans u.o)
        go_wp2_with (first
         | (at_builtin
            refine eL rfl _ _ rfl W.heap.size (.slice a3 n3 p3) vs rfl ((HV.o.ext O.o).ext (Ext.alloc _ _)) _ _ 1 rfl (by simp;rfl) rfl (j4 EI.o) (by simp;omega) ?_;intro v6 w6 ho hg l7;obtain⟨a6,n6,p6,rfl,Jg⟩:=ho.var;have BU:=ae ho;have Ku:=ae ((YP.o.ext (O.o.trans (Ext.alloc _ _))).AM ((HV.o.ext O.o).ext (Ext.alloc _ _)) hg);have Sg:=ae ((YT.o.ext (O.o.trans (Ext.alloc _ _))).AM ((HV.o.ext O.o).ext (Ext.alloc _ _)) hg);have Et:=ae (((zQ.o.snoc O.o (Vw.o.mono b9) b9).ext (Ext.alloc _ _)).AM ((HV.o.ext O.o).ext (Ext.alloc _ _)) hg);have X6:=ae (al ((CT.o.trans O.o).trans (Ext.alloc _ _)) hg (fun q hq=>(HV.o.lt q hq).1))
            clear ho hg l7))
        go_roundg (g1-1)
        case measure=>have:=HK.o;omega
        case rel=>exact⟨k+1,a6,n6,p6,_,ae (j4 HK.o),rfl,by go_num,BU,ae (by rw[CS.o,List.map_append];exact Et.o),Ku,Sg,X6⟩
     ·have xQ:k=mc:=by have:=HK.o;omega
      subst xQ;have HF:=ae (show C.take k=C from List.take_of_length_le (by rw[B6.o];exact Nat.le_refl _));go_wp2_with fail;go_ret;exact⟨⟨_,rfl,by rw[HLS.o];refine dI.mono' ⟨vs,HV.o,?_⟩ (j4 yI.o);have:=zQ.o;rwa [HF.o]at this⟩,HX.o.trans CT.o⟩
end Go.Proofs.YtalmoolkhcgmmaaGreat
