import Derived.Test.YthjjfkeacobikaaGreatLeAllG11
import Derived.Test.YthjjfkeacobikaaGreatLeAllG10
set_option linter.unusedVariables false
set_option linter.unusedSimpArgs false
namespace Go.Proofs.YthjjfkeacobikaaGreat
open Go.RowKit
def excR (v:Int) (r:Int × Int):Option (Int × Int):=if (subR (v,1) r).2=true then some (subR (v,1) r).1 else none
def excS (V:List Int) (X:List (Int × Int)) (s:Nat):Option (Int × Int):=(cM X s).bind (excR (V[s]?.getD 0))
def excL (V:List Int) (X:List (Int × Int)) (lo m:Nat):Option (List (Int × Int)):=runT (fun k=>excS V X (lo+k)) m
def allX (p:Int) (V:List Int) (X:List (Int × Int)):Option (List (Int × Int)):=if payP p V X=true then excL V X 1 (V.length-2) else none
def et (p:Int) (V:List Int) (X:List (Int × Int)):Bool:=match allX p V X with
 | none=>false
 | some l=>l.all fun e=>decide (e.1<=0)
theorem allX_not {p:Int} {V:List Int} {X:List (Int × Int)} (h:payP p V X=false):allX p V X=none:=by unfold allX;rw [if_neg (by rw [h];simp)]
theorem jH {p:Int} {V:List Int} {X:List (Int × Int)} (h:payP p V X=true):allX p V X=excL V X 1 (V.length-2):=by unfold allX;rw [if_pos h]
theorem dQ {p:Int} {V:List Int} {X:List (Int × Int)} {l:List (Int × Int)} (h:allX p V X=some l):payP p V X=true/\l.length=V.length-2:=by
 unfold allX at h
 split at h
 ·next h1=>exact ⟨h1,cI h⟩
 ·cases h
theorem fs {p:Int} {V:List Int} {X:List (Int × Int)} (h:payP p V X=true):aN p V=true:=by
 unfold payP at h;simp only [Bool.and_eq_true] at h;exact h.1
theorem lE {p:Int} {V:List Int} {X:List (Int × Int)} (h:payP p V X=true):aN p V=true/\(X.length:Int)=p/\allV X=true/\cM X (V.length-1)=some (bz p V,1):=by
 unfold payP at h;simp only [Bool.and_eq_true,decide_eq_true_eq] at h;exact h
set_option maxRecDepth 100000
theorem kC {v:Value} {a b:Bool} (h:a=b):Ending.returned (.tuple #[v,.bool a])=.returned (.tuple #[v,.bool b]):=by rw [h]
theorem OwnR.madeE (w:World) (base n:Nat) (hn:n=w.heap.size) (hb:base<=w.heap.size):OwnR (w.alloc (.cells #[] 43)) base (.slice (some ⟨n,0,none⟩) 0 0) []:=by subst hn;exact OwnR.made w base hb
set_option maxHeartbeats 4000000 in
theorem rF {w:World} {p:Int} {a:Option Addr} {n cap:Nat} {V:List Int} (h:Ints w a n cap V) {b:Option Addr} {m mcap:Nat} {X:List (Int × Int)} (hx:Rats w b m mcap X) (hg:aN p V=true) {s:Nat} (hs:s<n) :
 Calls Tryz.prog 190 #[pair p a n cap,.slice b m mcap,.int .i64 (s:Int)] w fun e w'=>e=.returned (resR ((excS V X s).getD (0,0),(excS V X s).isSome))/\Ext w w':=by
 obtain ⟨W,hW⟩:∃ W,W=(w.alloc (.cells #[.int .i64 p,.slice a n cap] 29)).alloc (.cells #[.int .i64 0,.int .i64 0] 43):=⟨_,rfl⟩;have HWS:=ae (show W.heap.size=w.heap.size+2 by rw [hW];simp);have hX:Ext w W:=by rw [hW];exact (Ext.alloc _ _).trans (Ext.alloc _ _)
 have HRB:=ae (show W.heap[w.heap.size+1]?=some (.cells #[.int .i64 0,.int .i64 0] 43 (0,0)) by rw [hW];exact aj _ _ _ (by simp));have HP0:=ae (show W.cell? ⟨w.heap.size,0,none⟩=some (.int .i64 p) by rw [hW];exact Ext.cellSome (Ext.alloc _ _) (by simp));have HP1:=ae (show W.cell? ⟨w.heap.size,1,none⟩=some (.slice a n cap) by rw [hW];exact Ext.cellSome (Ext.alloc _ _) (by simp));have HI:=ae (h.ext hX);have HR:=ae (hx.ext hX);have HX:=ae hX;have HV:=ae (dA (p:=p) HI.out);rw [hg,hW] at HV;have HL:=ae h.hlen;obtain ⟨q,rfl,hq1,hq5,hVl,_,hVb⟩:=bd hg;have hc:=cX q hq5;have hn32:n<=32:=by have:=HL.out;omega
 have HVB:=ae (fun i=>ek hVb i);have hcap:=h.hcap;have hmax:=h.hmax;have hin:inB (s:Int) 0 ((n:Int)-1)=true:=by unfold inB;simp;omega
 clear h hx hX hg hVl hVb;go_enter Tryz.func190,Tryz.ntmps190
 go_wp2_with fail;refine HV.out.mono ?_;rw [<-hW];rintro e w1 ⟨rfl,hx1⟩;have X1:=ae hx1;have b0:=hx1.cellSome HP0.out;have b1:=hx1.cellSome HP1.out;clear hx1 hW HV;go_wp2_with fail;refine (bw _ _ _ _).mono ?_;rw [hin];rintro e w2 ⟨rfl,rfl⟩;clear hin;go_wp2_with fail;refine (nG (HR.out.ext X1.out) s (by omega)).mono ?_;obtain ⟨r1,r2,one,hr⟩:∃ r1 r2 one,((cM X s).getD (0,0),(cM X s).isSome)=(((r1,r2):Int × Int),one):=⟨_,_,_,rfl⟩;rw [hr];have HSH:=ae hr;rintro e w3 ⟨rfl,hx3⟩;obtain ⟨w4,hw4⟩:∃ E,E=w3.alloc (.cells #[.int .i64 r1,.int .i64 r2] 43):=⟨_,rfl⟩;have hx4:Ext w3 w4:=by rw [hw4];exact Ext.alloc _ _
 have X4:=ae ((X1.out.trans hx3).trans hx4);have c0:=(hx3.trans hx4).cellSome b0;have c1:=(hx3.trans hx4).cellSome b1;have d0:w4.cell? ⟨w3.heap.size,0,none⟩=some (.int .i64 r1):=by rw [hw4];simp
 have d1:w4.cell? ⟨w3.heap.size,1,none⟩=some (.int .i64 r2):=by rw [hw4];simp
 obtain ⟨vb,vo,rfl,hvc⟩:=(HI.out.ext X4.out).at hs;obtain ⟨v,hv⟩:∃ v,v=V[s]?.getD 0:=⟨_,rfl⟩;rw [<-hv] at hvc;obtain ⟨p2,q2,ok,hpq⟩:∃ p2 q2 ok,subR (v,1) (r1,r2)=((p2,q2),ok):=⟨_,_,_,rfl⟩;have HPQ:=ae hpq;have HVV:=ae hv;clear hr hx3 hx4 b0 b1 hv hpq;go_upto_region 4 with fail;rw [<-hw4];clear hw4;go_upto_region 4 with fail
 go_cut [10,11] (fun sx so wx=>∃ g:Nat,sx=.pointer (some ⟨g,0,none⟩)/\so=.bool ok/\Hid (ah w4 wx g p2 q2))
 case first =>
  have hk2:Ext w4 w4.drew:=Ext.drew w4;have hka:Ext w4 (w4.alloc (.cells #[.int .i64 0,.int .i64 0] 43)).drew:=(Ext.alloc _ _).trans (Ext.drew _);have HKEEP:=ae (fun (w':World) (h:Ext w4 w')=>(⟨h.cellSome c1,h.cellSome hvc,h.cellSome d0,h.cellSome d1,h⟩:w'.cell? ⟨w.heap.size,1,none⟩=some (.slice (some ⟨vb,vo,none⟩) n cap)/\w'.cell? ⟨vb,vo+s,none⟩=some (.int .i64 v)/\w'.cell? ⟨w3.heap.size,0,none⟩=some (.int .i64 r1)/\w'.cell? ⟨w3.heap.size,1,none⟩=some (.int .i64 r2)/\Ext w4 w'))
  go_region_held3 (fun w'=>w'.cell? ⟨w.heap.size,1,none⟩=some (.slice (some ⟨vb,vo,none⟩) n cap)/\w'.cell? ⟨vb,vo+s,none⟩=some (.int .i64 v)/\w'.cell? ⟨w3.heap.size,0,none⟩=some (.int .i64 r1)/\w'.cell? ⟨w3.heap.size,1,none⟩=some (.int .i64 r2)/\Ext w4 w')
   (first
     | with_reducible exact HKEEP.out _ hk2
     | with_reducible exact HKEEP.out _ hka
     | with_reducible exact HKEEP.out _ ((hk2.setCell (by first|(simp;done)|(simp;omega)) _).setCell (by first|(simp;done)|(simp;omega)) _)
     | with_reducible exact HKEEP.out _ (hk2.trans (Ext.alloc _ _))
     | with_reducible exact HKEEP.out _ (hBB.put _ _).ext)
   (first
     | (go_at_call 86
        (with_reducible refine (bJ _ _).mono ?_)
        rintro e w5 ⟨rfl,hx_w5⟩
        first|(with_reducible have hBB:=ah.grow hBB hx_w5)|(with_reducible have hBB:=ah.firstD hx_w5)|(with_reducible have hBB:=ah.laterD hk2 hx_w5)|skip
        first|(have b0_:=hBB.c0;have b1_:=hBB.c1;have fb_:=hBB.free)|skip
        have hk2:Ext w4 w5:=by first|with_reducible exact hk2.trans hx_w5|with_reducible exact hka.trans hx_w5|with_reducible exact (hk2.trans (Ext.alloc _ _)).trans hx_w5
        have hk2s:=hk2.size)
     | (go_at_call 184
        (with_reducible refine (kG _ _ _ _ _).mono ?_)
        rw [HPQ.out];rintro e w6 ⟨rfl,hx_w6⟩
        first|(with_reducible have hBB:=ah.grow hBB hx_w6)|(with_reducible have hBB:=ah.firstD hx_w6)|(with_reducible have hBB:=ah.laterD hk2 hx_w6)|skip
        first|(have b0_:=hBB.c0;have b1_:=hBB.c1;have fb_:=hBB.free)|skip
        have hk2:Ext w4 w6:=by first|with_reducible exact hk2.trans hx_w6|with_reducible exact hka.trans hx_w6|with_reducible exact (hk2.trans (Ext.alloc _ _)).trans hx_w6
        have hk2s:=hk2.size)
     | fail)
  all_goals (go_wp2_with fail;go_meet;first|exact ⟨_,rfl,rfl,ae (hBB.put _ _)⟩|exact ⟨_,rfl,rfl,ae (ah.new hk2 _ _)⟩|exact ⟨_,rfl,rfl,ae (ah.new' hk2 _ _ (by simp))⟩)
 obtain ⟨g,rfl,rfl,HB⟩:=hcut;have g0:=HB.out.c0;have g1:=HB.out.c1;have XC:=ae (X4.out.trans HB.out.ext);have hr:=ai ((XC.out.block _ (by have:=HWS.out;omega)).trans HRB.out);obtain ⟨hr0,hr1,hrf⟩:=hr;have XF:=ae (HX.out.trans XC.out);cases one
 ·have HN:=ae (show excS V X s=none by
   have:=HSH.out;simp only [Prod.mk.injEq] at this;unfold excS;cases hsh:cM X s with
   | none=>rfl
   | some r=>rw [hsh] at this;simp at this)
  go_wp2_with fail;refine bodyPost_ret (v:=.tuple #[.agg #[.int .i64 0,.int .i64 0],.bool false]) (by simp [results,Tryz.results190,go_sem,hr0,hr1]) rfl ⟨by rw [HN.out];rfl,(XF.out.store 0 (by omega) _).store 1 (by omega) _⟩
 ·have HN:=ae (show excS V X s=if ok=true then some (p2,q2) else none by
   have:=HSH.out;simp only [Prod.mk.injEq] at this;unfold excS;cases hsh:cM X s with
   | none=>rw [hsh] at this;simp at this
   | some r =>
     rw [hsh] at this;simp only [Option.getD_some] at this;rw [this.1]
     show excR (V[s]?.getD 0) (r1,r2)=_;unfold excR
     rw [<-HVV.out,HPQ.out])
  cases ok
  ·go_wp2_with fail;refine bodyPost_ret (v:=.tuple #[.agg #[.int .i64 0,.int .i64 0],.bool false]) (by simp [results,Tryz.results190,go_sem,hr0,hr1]) rfl ⟨by rw [HN.out];rfl,(XF.out.store 0 (by omega) _).store 1 (by omega) _⟩
  ·go_wp2_with fail;refine bodyPost_ret (v:=.tuple #[.agg #[.int .i64 p2,.int .i64 q2],.bool true]) (by simp [results,Tryz.results190,go_sem,hr0,hr1]) rfl ⟨by rw [HN.out];rfl,(XF.out.store 0 (by omega) _).store 1 (by omega) _⟩
set_option maxHeartbeats 4000000 in
theorem ph {w:World} {p:Int} {a:Option Addr} {n cap:Nat} {V:List Int} (h:Ints w a n cap V) {b:Option Addr} {m mcap:Nat} {X:List (Int × Int)} (hx:Rats w b m mcap X) :
 Calls Tryz.prog 128 #[pair p a n cap,.slice b m mcap] w fun e w'=>(∃ v,e=.returned (.tuple #[v,.bool (allX p V X).isSome])/\OwnR w' w.heap.size v ((allX p V X).getD []))/\Ext w w':=by
 have HX:=ae (Ext.alloc w (.cells #[.int .i64 p,.slice a n cap] 29));have HI:=ae (h.ext HX.out);have HR:=ae (hx.ext HX.out);have HL:=ae h.hlen;have hcap:=h.hcap;have hmax:=h.hmax;have HP:=ae (fun (w':World) (hx':Ext (w.alloc (.cells #[.int .i64 p,.slice a n cap] 29)) w')=>lR (p:=p) (HI.out.ext hx') (HR.out.ext hx'));have k0:(w.alloc (.cells #[.int .i64 p,.slice a n cap] 29)).cell? ⟨w.heap.size,0,none⟩=some (.int .i64 p):=by simp
 have k1:(w.alloc (.cells #[.int .i64 p,.slice a n cap] 29)).cell? ⟨w.heap.size,1,none⟩=some (.slice a n cap):=by simp
 obtain ⟨W,hW⟩:∃ W,W=w.alloc (.cells #[.int .i64 p,.slice a n cap] 29):=⟨_,rfl⟩;rw [<-hW] at HX HI HR HP k0 k1;have HWS:=ae (show W.heap.size=w.heap.size+1 by rw [hW];simp);have k0':=(Ext.alloc W (.cells #[] 43)).cellSome k0;have k1':=(Ext.alloc W (.cells #[] 43)).cellSome k1;clear h hx;go_enter Tryz.func128,Tryz.ntmps128
 go_upto_region 2 with fail;rw [<-hW];clear hW;go_wp2_with fail;refine (HP.out _ (Ext.alloc W (.cells #[] 43))).mono ?_;rintro e w1 ⟨rfl,hx1⟩;have X1:=ae ((Ext.alloc W (.cells #[] 43)).trans hx1);have HO1:=ae (show OwnR w1 W.heap.size (.slice (some ⟨w.heap.size+1,0,none⟩) 0 0) [] from HWS.out ▸ (OwnR.made W W.heap.size (Nat.le_refl _)).ext hx1);clear hx1 k0' k1';cases hp:payP p V X
 ·have HN:=ae (allX_not hp);clear hp;go_wp2_with fail
  go_ret2
  exact ⟨⟨_,kC (by rw [HN.out];rfl),by rw [HN.out];exact HO1.out.mono (by rw [HWS.out];omega)⟩,HX.out.trans X1.out⟩
 have HA:=ae (jH hp);have HG:=ae (fs hp);obtain ⟨q,hpq,hq1,hq5,hVl,_,hVb⟩:=bd HG.out;have hc:=cX q hq5;have hn32:n<=32:=by have:=HL.out;omega
 have hn2:2<=n:=by
  have:∀ q:Fin 6,1<=q.val->2<=cN q.val:=by decide
  have:=this ⟨q,by omega⟩ hq1;simp only at this;have:=HL.out;omega
 rw [HL.out] at HA;clear hp hpq hVl hVb;go_wp2_with fail
 go_loopg [6,7] (n-2) (fun gk oo ii wr=>∃ (k s:Nat) (a1:Option Addr) (n1 p1:Nat) (r:List (Int × Int)),Hid (gk+k=n-2)/\Hid (s=1+k)/\oo=.slice a1 n1 p1/\ii=.int .i64 (s:Int)/\Hid (runT (fun k=>excS V X (1+k)) k=some r)/\Hid (OwnR wr W.heap.size (.slice a1 n1 p1) r)/\Hid (Ext W wr))
 case atStart=>exact ⟨0,1,_,_,_,[],ae (by omega),ae rfl,rfl,rfl,ae rfl,HO1,X1⟩
 case round =>
  obtain ⟨g1,h_g1⟩:∃ x,x=gk:=⟨_,rfl⟩;subst h_g1;obtain ⟨wr,h_wr⟩:∃ x,x=wr:=⟨_,rfl⟩;subst h_wr;obtain ⟨k,s,a1,n1,p1,r,HK,HS,rfl,rfl,HRR,HO,XR⟩:=hrel;have c0:=XR.out.cellSome k0;have c1:=XR.out.cellSome k1;have hsz:=XR.out.size;have hs1:1<=s:=by have:=HS.out;omega
  by_cases hlt:s+1<n
  ·have HE:=ae (rF (p:=p) (HI.out.ext XR.out) (HR.out.ext XR.out) HG.out (s:=s) (by omega));obtain ⟨x,y,ok,hxy⟩:∃ x y ok,((excS V X s).getD (0,0),(excS V X s).isSome)=(((x,y):Int × Int),ok):=⟨_,_,_,rfl⟩;rw [hxy] at HE;have HXY:=ae hxy;clear hxy;go_wp2_with fail;refine HE.out.mono ?_;rintro e w3 ⟨rfl,hx3⟩;have X4:=ae ((XR.out.trans hx3).trans (Ext.alloc w3 (.cells #[.int .i64 x,.int .i64 y] 43)));have HO4:=ae ((HO.out.ext hx3).ext (Ext.alloc w3 (.cells #[.int .i64 x,.int .i64 y] 43)));have hs3:=(XR.out.trans hx3).size;clear hx3;cases ok
   ·have HN:=ae (show allX p V X=none by
     rw [HA.out];unfold excL;refine fu HRR.out ?_ (show k<n-2 by have:=HS.out;omega);rw [<-HS.out];have:=HXY.out;simp only [Prod.mk.injEq] at this;cases hq:excS V X s with
     | none=>rfl
     | some z=>rw [hq] at this;simp at this)
    go_wp2_with fail
    go_ret2
    exact ⟨⟨_,kC (by rw [HN.out];rfl),by rw [HN.out];exact OwnR.madeE _ _ _ (by simp) (by have:=X4.out.size;have:=HX.out.size;omega)⟩,(HX.out.trans X4.out).trans (Ext.alloc _ _)⟩
   ·have HR2:=ae (du (x:=(x,y)) HRR.out (by
     rw [<-HS.out];have:=HXY.out;simp only [Prod.mk.injEq] at this;cases hq:excS V X s with
     | none=>rw [hq] at this;simp at this
     | some z=>rw [hq] at this;simp at this;rw [this]))
    have HLR:=ae (cI HRR.out);have hk32:k<=32:=by have:=HS.out;omega
    go_wp2_with (first
     | (at_builtin;refine aG rfl _ _ rfl W.heap.size (.slice a1 n1 p1) _ rfl (HO4.out.ext (Ext.alloc _ _)) _ 1 _ [(x,y)] rfl (Rats.one' _ _ _ _ _ (by simp)) (by rw [HLR.out];omega) (by simp;omega) ?_;intro v2 w5 ho hg hnear;obtain ⟨a2,n2,c2,rfl,HN2⟩:=ho.var;have HO5:=ae ho;have X5:=ae (ak (X4.out.trans (Ext.alloc _ _)) hg (fun j hj=>(HO4.out.lt j hj).1));clear ho hg hnear))
    go_roundg (g1-1)
    case measure=>have:=HK.out;have:=HS.out;omega
    case rel=>exact ⟨k+1,s+1,a2,n2,c2,_,ae (by have:=HK.out;have:=HS.out;omega),ae (by have:=HS.out;omega),rfl,by go_num,HR2,HO5,X5⟩
  ·have hk2:k=n-2:=by have:=HK.out;have:=HS.out;omega
   subst hk2;go_wp2_with fail
   go_ret2
   exact ⟨⟨_,kC (by rw [HA.out];unfold excL;rw [HRR.out];rfl),by rw [HA.out];unfold excL;rw [HRR.out];exact HO.out.mono (by rw [HWS.out];omega)⟩,HX.out.trans XR.out⟩
set_option maxHeartbeats 4000000 in
theorem oZ {w:World} {p:Int} {a:Option Addr} {n cap:Nat} {V:List Int} (h:Ints w a n cap V) {b:Option Addr} {m mcap:Nat} {X:List (Int × Int)} (hx:Rats w b m mcap X) :
 Calls Tryz.prog 50 #[pair p a n cap,.slice b m mcap] w fun e w'=>e=.returned (.bool (et p V X))/\Ext w w':=by
 have HX:=ae (Ext.alloc w (.cells #[.int .i64 p,.slice a n cap] 29));have HA:=ae (ph (p:=p) (h.ext HX.out) (hx.ext HX.out));clear h hx;go_enter Tryz.func50,Tryz.ntmps50
 go_wp2_with fail;refine HA.out.mono ?_;rintro e w1 ⟨⟨v,rfl,ho⟩,hx1⟩;have X1:=ae (HX.out.trans hx1);obtain ⟨o,ho2⟩:∃ o,o=allX p V X:=⟨_,rfl⟩;rw [<-ho2] at ho;rw [<-ho2];obtain ⟨l,hl⟩:∃ l,l=o.getD []:=⟨_,rfl⟩;rw [<-hl] at ho;obtain ⟨al,nl,cl,rfl,HN⟩:=ho.var;have hq1:=ho.rats.hcap;have hq2:=ho.rats.hmax;have HO:=ae ho
 have HC:=ae (show et p V X=(o.isSome&&l.all fun e=>decide (e.1<=0)) by
  unfold et;rw [<-ho2,hl]
  cases o <;> rfl)
 clear ho ho2 hl hx1;go_wp2_with fail
 go_loopg [7] nl (fun gk ii wr=>∃ (k:Nat),Hid (gk+k=nl)/\ii=.int .i64 (k:Int)/\Hid ((l.take k).all (fun e=>decide (e.1<=0))=true)/\Hid (Ext w1 wr))
 case atStart=>exact ⟨0,ae (by omega),rfl,ae rfl,ae (Ext.refl _)⟩
 case round =>
  obtain ⟨g1,h_g1⟩:∃ x,x=gk:=⟨_,rfl⟩;subst h_g1;obtain ⟨wr,h_wr⟩:∃ x,x=wr:=⟨_,rfl⟩;subst h_wr;obtain ⟨k,HK,rfl,HT,XR⟩:=hrel;by_cases hlt:k<nl
  ·obtain ⟨xb,xo,x,y,rfl,hxy,hc0,hc1⟩:=(HO.out.rats.ext XR.out).at hlt;have HXY:=ae hxy;clear hxy;by_cases hpos:0<x
   ·have HN2:=ae (show et p V X=false by
     rw [HC.out,Bool.and_eq_false_iff];refine .inr ?_;rw [Bool.eq_false_iff];intro hall;have:=List.all_eq_true.1 hall (l[k]'(by rw [HN.out];exact hlt)) (List.getElem_mem _);have e:=HXY.out;rw [List.getElem?_eq_getElem (by rw [HN.out];exact hlt),Option.getD_some] at e;rw [e] at this;simp only [decide_eq_true_eq] at this
     omega)
    go_wp2_with fail;go_ret;exact ⟨ag HN2.out.symm,X1.out.trans XR.out⟩
   ·have HT2:=ae (show (l.take (k+1)).all (fun e=>decide (e.1<=0))=true by
     rw [ev (by rw [HN.out];exact hlt),List.all_append,HT.out,HXY.out];simp only [List.all_cons,List.all_nil,Bool.and_true,Bool.true_and,decide_eq_true_eq]
     omega)
    go_wp2_with fail
    go_roundg (g1-1)
    case measure=>have:=HK.out;omega
    case rel=>exact ⟨k+1,ae (by have:=HK.out;omega),by go_num,HT2,XR⟩
  ·have HC2:=ae (show et p V X=o.isSome by
    have h:=HT.out;rw [List.take_of_length_le (by rw [HN.out];omega)] at h
    rw [HC.out,h,Bool.and_true])
   go_wp2_with fail;go_ret;exact ⟨ag HC2.out.symm,X1.out.trans XR.out⟩
end Go.Proofs.YthjjfkeacobikaaGreat
