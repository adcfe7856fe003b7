import Derived.Test.YthjjfkeacobikaaGreatPuAllG12
import Derived.Test.YthjjfkeacobikaaGreatPuAllG0
import Derived.StillTail
import Derived.Deep.RegionHeld3
import Derived.StillTailTactics
set_option linter.unusedVariables false
set_option linter.unusedSimpArgs false
namespace Go.Proofs.YthjjfkeacobikaaGreat
set_option maxRecDepth 100000
open Go.RowKit
theorem jA {t:Tb} {cost:List (Int × Int)} {k:Nat} (h:cu t cost k=none):∀ {n:Nat},k<=n->cu t cost n=none
 | n,hn=>by
   obtain ⟨d,rfl⟩:∃ d,n=k+d:=⟨n-k,by omega⟩;clear hn
   induction d with
   | zero=>exact h
   | succ d ih=>show (cu t cost (k+d)).bind _=none;rw [ih];rfl
theorem sclL_len {A B r:List (Int × Int)} {k:Int × Int} (h:sclL A k B=some r):r.length=A.length:=by
 unfold sclL at h;split at h
 ·exact cW h
 ·cases h
theorem il {t:Tb} {cost:List (Int × Int)}:∀ {k:Nat} {cs:List (Int × Int)},cu t cost k=some cs->cs.length=cost.length+1
 | 0,cs,h=>by simp only [cu,Option.some.injEq] at h;rw [<-h];simp
 | k+1,cs,h=>by
   simp only [cu] at h;cases e:cu t cost k with
   | none=>rw [e] at h;cases h
   | some c0=>rw [e] at h;simp only [Option.bind_some] at h;rw [sclL_len h,il e]
theorem eP {w:World} {ra:Option Addr} {rn rc:Nat} {ba:Option Addr} {bn bc:Nat} {t:Tb} (h:TbC w ra rn rc ba bn bc t) (ok:tbOk t=true) :
 ∃ m:Nat,t.cols=m/\m<=1000/\bn=rn/\(∀ i,i<rn->(t.row i).length=m+rn+1)/\∀ i,i<rn->∃ b:Nat,t.basis[i]?.getD 0=(b:Int)/\b<m+rn:=by
 have l1:=h.rows.hlen;have l2:=h.basis.hlen;unfold tbOk at ok;simp only [Bool.and_eq_true,decide_eq_true_eq,List.all_eq_true,inB] at ok;obtain ⟨⟨h1,h2⟩,h3,h4,h5⟩:=ok;refine ⟨t.cols.toNat,by omega,by omega,by omega,fun i hi=>?_,fun i hi=>?_⟩
 ·have:=h5 _ (List.getElem_mem (l:=t.rows) (n:=i) (by omega));unfold Tb.row;rw [List.getElem?_eq_getElem (by omega),Option.getD_some];omega
 ·have:=h4 _ (List.getElem_mem (l:=t.basis) (n:=i) (by omega));rw [List.getElem?_eq_getElem (by omega),Option.getD_some];exact ⟨t.basis[i].toNat,by omega,by omega⟩
section
variable {w:World} {ra:Option Addr} {rn rc:Nat} {ba:Option Addr} {bn bc:Nat} {t:Tb}
set_option maxHeartbeats 8000000 in
theorem px (h:TbC w ra rn rc ba bn bc t) (hrn:rn<=100000) {ka:Option Addr} {kn kc:Nat} {cost:List (Int × Int)} (hk:Rats w ka kn kc cost) :
 Calls Tryz.prog 277 #[tbW ra rn rc ba bn bc t.cols,.slice ka kn kc] w fun e w'=>(∃ v,e=.returned (.tuple #[v,.bool (bX t cost).isSome])/\OwnR w' w.heap.size v ((bX t cost).getD []))/\Ext w w':=by
 have HF:=ae (fM (h.ext (Ext.alloc w (bp ra rn rc ba bn bc t.cols))) (by omega));have HTP:=ae (fun ok=>eP h ok);obtain ⟨rows,basis,x⟩:=t;have hx0:=Ext.alloc w (bp ra rn rc ba bn bc x);have HX0:=ae hx0;have H:=ae (h.ext hx0);have HK0:=ae (hk.ext hx0);have hr1:=h.rows.hcap;have hr2:=h.rows.hmax;have hb1:=h.basis.hcap;have hb2:=h.basis.hmax;have hk1:=hk.hcap;have hk2:=hk.hmax;have HLR:=ae h.rows.hlen;have HLK:=ae hk.hlen
 have HE:=ae (show bX ⟨rows,basis,x⟩ cost=if (tbOk ⟨rows,basis,x⟩&&(decide ((kn:Int)=x+(rn:Int))&&allV cost))=true then cu ⟨rows,basis,x⟩ cost rn else none by
  unfold bX jC;simp only;rw [h.rows.hlen,hk.hlen])
 clear h hk hx0
 show Calls _ _ #[tbW ra rn rc ba bn bc x,.slice ka kn kc] w _;cases hok:tbOk ⟨rows,basis,x⟩
 ·rw [hok] at HF;have HN:=ae (show bX ⟨rows,basis,x⟩ cost=none by rw [HE.out,hok];rfl);clear hok;go_enter Tryz.func277,Tryz.ntmps277
  go_wp2_with fail;refine HF.out.mono ?_;rintro e w1 ⟨rfl,hx⟩;have X1:=ae (HX0.out.trans hx);clear hx;go_wp2_with fail;refine bodyPost_ret (v:=.tuple #[.slice none 0 0,.bool false]) (by simp [results,Tryz.results277,go_sem]) rfl ⟨⟨.slice none 0 0,by rw [HN.out];rfl,by rw [HN.out];exact OwnR.nil _ _⟩,X1.out⟩
 ·rw [hok] at HF;obtain ⟨m,hxm,hm,hbr,HRL,HBS⟩:=HTP.out hok;simp only at hxm;subst hxm hbr;have hre:=ae hok;replace HRL:=ae HRL;replace HBS:=ae HBS;clear hok;by_cases hkl:kn=m+bn
  ·subst hkl;have hkk:((m+bn:Nat):Int)=(m:Int)+(bn:Int):=by simp
   have hne:(((m+bn:Nat):Int) != (m:Int)+(bn:Int))=false:=by simp
   have HV:=ae (fun (W:World) (hx:Ext (w.alloc (bp ra bn rc ba bn bc (m:Int))) W)=>jK (HK0.out.ext hx));cases hv:allV cost
   ·simp only [hv] at HV;have HN:=ae (show bX ⟨rows,basis,(m:Int)⟩ cost=none by rw [HE.out,hre.out,hv,hkk];simp);clear hv;go_enter Tryz.func277,Tryz.ntmps277
    go_wp2_with fail;refine HF.out.mono ?_;rintro e w1 ⟨rfl,hx⟩;have c0:w1.cell? ⟨w.heap.size,0,none⟩=some (.slice ra bn rc):=hx.cellSome (by simp);have c2:w1.cell? ⟨w.heap.size,2,none⟩=some (.int .i64 (m:Int)):=hx.cellSome (by simp);have X1:=ae hx;clear hx;go_wp2_with fail;refine (HV.out _ X1.out).mono ?_;rintro e w2 ⟨rfl,hx⟩;have X2:=ae ((HX0.out.trans X1.out).trans hx);clear hx;go_wp2_with fail;refine bodyPost_ret (v:=.tuple #[.slice none 0 0,.bool false]) (by simp [results,Tryz.results277,go_sem]) rfl ⟨⟨.slice none 0 0,by rw [HN.out];rfl,by rw [HN.out];exact OwnR.nil _ _⟩,X2.out⟩
   ·simp only [hv] at HV;have HV2:=ae (show cost.all valR=true from hv);have HE2:=ae (show bX ⟨rows,basis,(m:Int)⟩ cost=cu ⟨rows,basis,(m:Int)⟩ cost bn by rw [HE.out,hre.out,hv,hkk];simp);clear hv;go_enter Tryz.func277,Tryz.ntmps277
    go_wp2_with fail;refine HF.out.mono ?_;rintro e w1 ⟨rfl,hx⟩;have c0:w1.cell? ⟨w.heap.size,0,none⟩=some (.slice ra bn rc):=hx.cellSome (by simp);have c2:w1.cell? ⟨w.heap.size,2,none⟩=some (.int .i64 (m:Int)):=hx.cellSome (by simp);have X1:=ae hx;clear hx;go_wp2_with fail;refine (HV.out _ X1.out).mono ?_;rintro e w2 ⟨rfl,hx⟩;have X2:=ae (X1.out.trans hx);clear hx c0 c2;have HCL:=ae (jz (HK0.out.ext X2.out) (by omega));go_wp2_with fail;refine HCL.out.mono ?_;rintro e w3 ⟨v3,rfl,ho3,hx⟩;obtain ⟨a3,n3,p3,rfl,HN3⟩:=ho3.var;have X3:=ae (X2.out.trans hx);have HO3:=ae (ho3.mono (show w.heap.size+1<=w2.heap.size by have:=X2.out.size;simpa using this));clear hx ho3;go_wp2_with fail;refine (cz 0 _).mono ?_;rintro e w4 ⟨rfl,hx⟩;have X4:=ae (X3.out.trans hx);have HO4:=ae (HO3.out.ext hx);have hs4:w.heap.size+1<=w4.heap.size:=by have:=X4.out.size;simpa using this
    clear hx
    go_wp2_with (first
     | (at_builtin;refine aJ rfl _ _ rfl (w.heap.size+1) (.slice a3 n3 p3) _ rfl (HO4.out.ext (Ext.alloc _ _)) _ 1 _ [(0,1)] rfl (Rats.one' _ _ _ _ _ (by simp)) (by rw [HLK.out];omega) (by simp;omega) ?_;intro v5 w5 ho hg hnear;have X5:=ae (aq (X4.out.trans (Ext.alloc _ _)) hg (fun j hj=>by have:=(HO4.out.lt j hj).1;simpa using this));obtain ⟨a5,n5,p5,rfl,HN5⟩:=ho.var;have HO5:=ae ho;clear ho hg hnear;have c0:w5.cell? ⟨w.heap.size,0,none⟩=some (.slice ra bn rc):=X5.out.cellSome (by simp)))
    go_loopg [6,38] bn (fun gk o ii wr=>∃ (k:Nat) (a1:Option Addr) (n1 p1:Nat) (cs:List (Int × Int)),Hid (gk+k=bn)/\ii=.int .i64 (k:Int)/\o=.slice a1 n1 p1/\Hid (cu ⟨rows,basis,(m:Int)⟩ cost k=some cs)/\Hid (OwnR wr (w.heap.size+1) (.slice a1 n1 p1) cs)/\Hid (Ext (w.alloc (bp ra bn rc ba bn bc (m:Int))) wr))
    case atStart=>exact ⟨0,_,_,_,_,ae (by omega),rfl,rfl,ae rfl,HO5,X5⟩
    case round =>
     obtain ⟨g1,h_g1⟩:∃ x,x=gk:=⟨_,rfl⟩;subst h_g1;obtain ⟨wr1,h_wr1⟩:∃ x,x=wr:=⟨_,rfl⟩;subst h_wr1;obtain ⟨k,a1,n1,p1,cs,HK,rfl,rfl,HC,HO,HX⟩:=hrel;clear c0;by_cases hlt:k<bn
     ·obtain ⟨zb,zoff,za,zn,zc,hza,hz0,hrow⟩:=(H.out.ext HX.out).rows.at hlt;subst hza;have HROW:=ae hrow;obtain ⟨b,hbk,hbl⟩:=HBS.out k hlt;obtain ⟨yb,yoff,hya,hy0⟩:=(H.out.ext HX.out).basis.at hlt;subst hya;simp only [hbk] at hy0;obtain ⟨xb,xoff,p,q,hxa,hpq,hx0,hx1⟩:=(HK0.out.ext HX.out).at (show b<m+bn from hbl);subst hxa;have HPQ:=ae hpq;have HBK:=ae hbk;have c1:wr1.cell? ⟨w.heap.size,1,none⟩=some (.slice (some ⟨yb,yoff,none⟩) bn bc):=HX.out.cellSome (by simp);have HBD:=ae (bh (p:=(p,q)) (by rw [<-HPQ.out,List.getElem?_eq_getElem (by rw [HLK.out];exact hbl),Option.getD_some];exact (List.all_eq_true.1 HV2.out) _ (List.getElem_mem _)));have hp0:-9223372036854775807<=p:=by have:=HBD.out.2.2.1;simp only at this;omega
      have hp1:p<=9223372036854775807:=by have:=HBD.out.2.2.2;simp only at this;omega
      have HLC:=ae (il HC.out);have hbl0:(b:Int)<((m+bn:Nat):Int):=by omega
      clear hpq hbk hrow;go_wp2_with fail;refine (dM p q _ hp0 hp1).mono ?_;rintro e w6 ⟨rfl,hx⟩;have X6:=ae (HX.out.trans hx);have HAS:=ae (iR (k1:=-p) (k2:=q) ((HO.out.ext hx).rats) (HROW.out.ext hx) (by have:=(HO.out).rats.hlen;have:=HLC.out;have:=HLK.out;omega));obtain ⟨sv,hsv⟩:∃ s,s=sclL cs (-p,q) (rows[k]?.getD []):=⟨_,rfl⟩
      have HST:=ae (show cu ⟨rows,basis,(m:Int)⟩ cost (k+1)=sv by
       rw [hsv]
       show (cu ⟨rows,basis,(m:Int)⟩ cost k).bind _=_;rw [HC.out]
       show sclL cs (negR (cost[(basis[k]?.getD 0).toNat]?.getD (0,0))) (rows[k]?.getD [])=_
       rw [show basis[k]?.getD 0=(b:Int) from HBK.out,Int.toNat_natCast,HPQ.out];rfl)
      rw [<-hsv] at HAS;clear hsv hx;cases sv with
      | none =>
        have HN:=ae (show bX ⟨rows,basis,(m:Int)⟩ cost=none by rw [HE2.out];exact jA HST.out hlt);go_wp2_with fail;refine HAS.out.mono ?_;rintro e w7 ⟨⟨v7,rfl,ho7⟩,hx⟩;have X7:=ae ((HX0.out.trans X6.out).trans hx);clear ho7 hx;go_wp2_with fail;refine bodyPost_ret (v:=.tuple #[.slice none 0 0,.bool false]) (by simp [results,Tryz.results277,go_sem]) rfl ⟨⟨.slice none 0 0,by rw [HN.out];rfl,by rw [HN.out];exact OwnR.nil _ _⟩,X7.out⟩
      | some cs2 =>
        go_wp2_with fail;refine HAS.out.mono ?_;rintro e w7 ⟨⟨v7,rfl,ho7⟩,hx⟩;obtain ⟨a7,n7,p7,rfl,HN7⟩:=ho7.var;have HO7:=ae (show OwnR w7 (w.heap.size+1) (.slice a7 n7 p7) cs2 from OwnR.mono ho7 (by have:=X6.out.size;simpa using this));have X7:=ae (X6.out.trans hx);clear ho7 hx;go_wp2_with fail
        go_roundg (g1-1)
        case measure=>have:=HK.out;omega
        case rel=>exact ⟨k+1,a7,n7,p7,cs2,ae (by have:=HK.out;omega),by go_num,rfl,HST,HO7,X7⟩
     ·have hkn:bn=k:=by have:=HK.out;omega
      subst hkn;have HY:=ae (show bX ⟨rows,basis,(m:Int)⟩ cost=some cs by rw [HE2.out];exact HC.out);go_wp2_with fail;refine bodyPost_ret (v:=.tuple #[.slice a1 n1 p1,.bool true]) (by simp [results,Tryz.results277,go_sem]) rfl ⟨⟨.slice a1 n1 p1,by rw [HY.out];rfl,by rw [HY.out];exact HO.out.mono (Nat.le_succ _)⟩,HX0.out.trans HX.out⟩
  ·have hne:((kn:Int) != (m:Int)+(bn:Int))=true:=by simp;omega
   have HN:=ae (show bX ⟨rows,basis,(m:Int)⟩ cost=none by rw [HE.out,decide_eq_false (by omega:¬ (kn:Int)=(m:Int)+(bn:Int))];simp);go_enter Tryz.func277,Tryz.ntmps277
   go_wp2_with fail;refine HF.out.mono ?_;rintro e w1 ⟨rfl,hx⟩;have c0:w1.cell? ⟨w.heap.size,0,none⟩=some (.slice ra bn rc):=hx.cellSome (by simp);have c2:w1.cell? ⟨w.heap.size,2,none⟩=some (.int .i64 (m:Int)):=hx.cellSome (by simp);have X1:=ae (HX0.out.trans hx);clear hx;go_wp2_with fail;refine bodyPost_ret (v:=.tuple #[.slice none 0 0,.bool false]) (by simp [results,Tryz.results277,go_sem]) rfl ⟨⟨.slice none 0 0,by rw [HN.out];rfl,by rw [HN.out];exact OwnR.nil _ _⟩,X1.out⟩
end
end Go.Proofs.YthjjfkeacobikaaGreat
namespace Go.Proofs.YthjjfkeacobikaaGreat
set_option maxRecDepth 100000
open Go.RowKit
set_option maxHeartbeats 2000000 in
theorem i_sign (x y:Int) (w:World):Calls Tryz.prog 285 #[ratV x y] w fun e w'=>e=.returned (.int .i64 (cmpR (x,y) (0,1)))/\Ext w w':=by
 obtain ⟨W,hW⟩:∃ W,W=w.alloc (.cells #[.int .i64 x,.int .i64 y] 43):=⟨_,rfl⟩;have HX:=ae (show Ext w W by rw [hW];exact Ext.alloc _ _);have c0:W.cell? ⟨w.heap.size,0,none⟩=some (.int .i64 x):=by rw [hW];simp
 have c1:W.cell? ⟨w.heap.size,1,none⟩=some (.int .i64 y):=by rw [hW];simp
 go_enter Tryz.func285,Tryz.ntmps285
 go_upto_region 1 with fail;rw [<-hW];clear hW;have hk2:Ext W W.drew:=Ext.drew W;have hka:=hk2;have HKEEP:=ae (fun (w':World) (h:Ext W w')=>(⟨h.cellSome c0,h.cellSome c1,h⟩:w'.cell? ⟨w.heap.size,0,none⟩=some (.int .i64 x)/\w'.cell? ⟨w.heap.size,1,none⟩=some (.int .i64 y)/\Ext W w'))
 go_region_held3 (fun w'=>w'.cell? ⟨w.heap.size,0,none⟩=some (.int .i64 x)/\w'.cell? ⟨w.heap.size,1,none⟩=some (.int .i64 y)/\Ext W w')
  (with_reducible exact HKEEP.out _ hk2)
  (first
    | (go_at_call 112
       (with_reducible refine (cz 0 _).mono ?_)
       rintro e w3 ⟨rfl,hx_w3⟩;have hk2:Ext W w3:=hk2.trans hx_w3
       have hs_w3:=hk2.size)
    | (go_at_call 38
       (with_reducible refine (iq x y 0 1 _).mono ?_)
       rintro e w4 ⟨rfl,hx_w4⟩;have hk2:Ext W w4:=hk2.trans hx_w4
       have hs_w4:=hk2.size)
    | fail)
 clear HKEEP hka;go_wp2_with fail;go_ret;exact ⟨rfl,HX.out.trans hk2⟩
theorem pm {costs:List (Int × Int)} {m:Nat} (h:costs.length<m):aZ costs m=-1:=by unfold aZ;rw [if_pos (by omega)]
theorem kQ {costs:List (Int × Int)} {m j:Nat} (h:m<=costs.length) (hj:j<m) (h0:(costs.take j).all (fun c=>!ec c)=true) (h1:ec (costs[j]?.getD (0,0))=true):aZ costs m=j:=by
 unfold aZ;rw [if_neg (by omega)];refine ee (d:=(0,0)) (by simp;omega) (by rw [Int.toNat_natCast,List.take_take,Nat.min_eq_left (by omega)];exact h0) ?_;rw [Int.toNat_natCast,List.getElem?_take,if_pos hj];exact h1
theorem iO {costs:List (Int × Int)} {m:Nat} (h:m<=costs.length) (h0:(costs.take m).all (fun c=>!ec c)=true):aZ costs m=-1:=by
 unfold aZ;rw [if_neg (by omega),Int.toNat_natCast];exact dw h0
theorem iN {costs:List (Int × Int)} {j:Nat} {c:Int × Int} (hj:j<costs.length) (hc:costs[j]?.getD (0,0)=c) (h0:(costs.take j).all (fun c=>!ec c)=true) (h1:ec c=false):(costs.take (j+1)).all (fun c=>!ec c)=true:=by
 rw [eo hj,List.all_append,h0,hc];simp [h1]
set_option maxHeartbeats 4000000 in
theorem jd {w:World} {ra:Option Addr} {rn rc:Nat} {ba:Option Addr} {bn bc:Nat} {x:Int} {a:Option Addr} {n cap:Nat} {costs:List (Int × Int)} (h:Rats w a n cap costs) (m:Nat) (hm:m<=100000) :
 Calls Tryz.prog 278 #[tbW ra rn rc ba bn bc x,.slice a n cap,.int .i64 (m:Int)] w fun e w'=>e=.returned (.int .i64 (aZ costs m))/\Ext w w':=by
 have hx0:=Ext.alloc w (bp ra rn rc ba bn bc x);have HX0:=ae hx0;have H:=ae (h.ext hx0);have hc1:=h.hcap;have hc2:=h.hmax;have HL:=ae h.hlen;clear h hx0;by_cases hmn:n<m
 ·have HN:=ae (show aZ costs m=-1 from pm (by rw [HL.out];exact hmn));have hgt:(m:Int) > (n:Int):=by omega
  go_enter Tryz.func278,Tryz.ntmps278
  go_wp2_with fail;go_ret;exact ⟨aM HN.out.symm,HX0.out⟩
 ·have hle:¬ (m:Int) > (n:Int):=by omega
  go_enter Tryz.func278,Tryz.ntmps278
  go_wp2_with fail
  go_loopg [7] m (fun gk ii wr=>∃ k:Nat,Hid (gk+k=m)/\ii=.int .i64 (k:Int)/\Hid ((costs.take k).all (fun c=>!ec c)=true)/\Hid (Ext (w.alloc (bp ra rn rc ba bn bc x)) wr))
  case atStart=>exact ⟨0,ae (by omega),rfl,ae rfl,ae (Ext.refl _)⟩
  case round =>
   obtain ⟨g1,h_g1⟩:∃ x,x=gk:=⟨_,rfl⟩;subst h_g1;obtain ⟨wr1,h_wr1⟩:∃ x,x=wr:=⟨_,rfl⟩;subst h_wr1;obtain ⟨k,HK,rfl,HA,HX⟩:=hrel;by_cases hlt:k<m
   ·have hkn:k<n:=by omega
    obtain ⟨zb,zoff,p,q,hza,hpq,hz0,hz1⟩:=(H.out.ext HX.out).at hkn;subst hza;have HPQ:=ae hpq;have HS:=ae (i_sign p q wr1);obtain ⟨sg,hsg⟩:∃ s,s=cmpR (p,q) (0,1):=⟨_,rfl⟩;have HSG:=ae (show ec (p,q)=decide (sg<0) by rw [hsg];rfl);rw [<-hsg] at HS;clear hpq hsg;by_cases hs0:sg<0
    ·have HR:=ae (show aZ costs m=k from kQ (by rw [HL.out];omega) hlt HA.out (by rw [HPQ.out,HSG.out,decide_eq_true hs0]));go_wp2_with fail;refine HS.out.mono ?_;rintro e w3 ⟨rfl,hx⟩;have X3:=ae (HX.out.trans hx);clear hx;go_wp2_with fail;go_ret;exact ⟨aM HR.out.symm,HX0.out.trans X3.out⟩
    ·have HT:=ae (iN (by rw [HL.out];exact hkn) HPQ.out HA.out (by rw [HSG.out,decide_eq_false hs0]));go_wp2_with fail;refine HS.out.mono ?_;rintro e w3 ⟨rfl,hx⟩;have X3:=ae (HX.out.trans hx);clear hx;go_wp2_with fail
     go_roundg (g1-1)
     case measure=>have:=HK.out;omega
     case rel=>exact ⟨k+1,ae (by have:=HK.out;omega),by go_num,HT,X3⟩
   ·have hkm:m=k:=by have:=HK.out;omega
    subst hkm;have HR:=ae (show aZ costs m=-1 from iO (by rw [HL.out];omega) HA.out);go_wp2_with fail;go_ret;exact ⟨aM HR.out.symm,HX0.out.trans HX.out⟩
section
variable {P:Program} {ops:Array Oper} {Q:Exit->Act->World->Prop} {md:Region.Mode} {S:World->Prop} {M:List Nat}
def eg (M:List Nat) (listed:Array Bool):Prop:=∀ j ∈ M,listed.getD j true=false
theorem eg.set {M:List Nat} {listed:Array Bool} {i:Nat} (h:eg M listed) (hi:i ∉ M):eg M (listed.setIfInBounds i true):=fun j hj=>by
 rw [getD_set_ne true (show i ≠ j from fun e=>hi (by rw [e];exact hj))];exact h j hj
theorem eg.unset {M:List Nat} {listed:Array Bool} {i:Nat} (h:eg M (listed.setIfInBounds i true)) (hi:i ∉ M):eg M listed:=fun j hj=>by
 have:=h j hj
 rwa [getD_set_ne true (show i ≠ j from fun e=>hi (by rw [e];exact hj))] at this
def bW (P:Program) (md:Region.Mode) (ops:Array Oper) (Q:Exit->Act->World->Prop) (M:List Nat) (S:World->Prop):Nat->Array Bool->Act->World->Prop
 | 0,listed,a,w=>Region.ready md ops listed=[]/\Q .normal a w
 | f+1,listed,a,w=>(Region.ready md ops listed=[]->Q .normal a w) /\
   ∀ i ∈ Region.ready md ops listed,wpOp P ops Q i (fun a' w'=>(eg M (listed.setIfInBounds i true)->S w')/\bW P md ops Q M S f (listed.setIfInBounds i true) a' w') a w
theorem bW.any:∀ {f:Nat} {listed:Array Bool} {a:Act} {w:World},bW P md ops Q M S f listed a w->wpAny P md ops Q f listed a w
 | 0,_,_,_,h=>h
 | f+1,_,_,_,h=>⟨h.1,fun i hi=>wpOp_mono (fun a' w' h'=>bW.any h'.2) (h.2 i hi)⟩
theorem gV {i:Nat} {oi:Oper} {v:Value} {T:World->Prop} (hi:ops[i]?=some oi) (hsel:∀ (j:Nat) (o:Oper) cs b,ops[j]?=some o->o.op ≠ .select cs b)
 (hQ:∀ c a w,Q (.panic c) (a.put oi.dst v) w->Q (.panic c) a w) (hiM:i ∉ M)
 (hT:(∀ w,T w) ∨ ((∀ w,S w->T w)/\∀ j ∈ M,∀ oj,ops[j]?=some oj->∃ e ∈ oj.after,Region.binds md e=true/\e.on=i)) :
 ∀ (f:Nat) (listed:Array Bool) (a:Act) (w:World),
   (∀ j oj,ops[j]?=some oj->j ≠ i->listed.getD j true=false->(∀ e ∈ oj.after,Region.binds md e=true->e.on ≠ i)->oi.apart ops oj=true) ->
   i ∈ Region.ready md ops listed->YieldsIf P ops T oi v a->(eg M listed->S w)->((∀ w,T w) ∨ eg M listed) ->
   bW P md ops Q M S f (listed.setIfInBounds i true) (a.put oi.dst v) w->bW P md ops Q M S (f+1) listed a w:=by
 have now:∀ {listed:Array Bool} {w:World},(eg M listed->S w)->((∀ w,T w) ∨ eg M listed)->T w:=fun {listed w} h1 h2=>by
  rcases h2 with h2|h2
  ·exact h2 w
  ·rcases hT with h3|h3
   ·exact h3 w
   ·exact h3.1 w (h1 h2)
 intro f
 induction f with
 | zero =>
   intro listed a w _ hr hy hS hF H;refine ⟨fun h=>absurd hr (by rw [h];exact List.not_mem_nil),fun j hj=>?_⟩;by_cases hji:j=i
   ·subst hji;exact hy.wpOp hi (now hS hF) ⟨fun h=>hS (h.unset hiM),H⟩
   ·exact absurd (ready_mono hj hji) (by rw [H.1];exact List.not_mem_nil)
 | succ f ih =>
   intro listed a w hfree hr hy hS hF H;refine ⟨fun h=>absurd hr (by rw [h];exact List.not_mem_nil),fun j hj=>?_⟩;by_cases hji:j=i
   ·subst hji;exact hy.wpOp hi (now hS hF) ⟨fun h=>hS (h.unset hiM),H⟩
   ·obtain ⟨hjun,oj,hoj,hall⟩:=mem_ready.1 hj;have hnot:∀ e ∈ oj.after,Region.binds md e=true->e.on ≠ i:=fun e he hb heq=>by
     have h1:=hall e he hb;have h0:=(mem_ready.1 hr).1;rw [heq] at h1
     rcases Nat.lt_or_ge i listed.size with h'|h'
     ·simp [h'] at h0 h1;rw [h0] at h1;cases h1
     ·simp [Array.getElem?_eq_none h'] at h1
    have step:=wpOp_putIf hoj (hfree j oj hoj hji hjun hnot) (fun cs b=>hsel i oi cs b hi) (fun cs b=>hsel j oj cs b hoj) hQ hy (H.2 j (ready_mono hj hji));have hfree':∀ k ok,ops[k]?=some ok->k ≠ i->(listed.setIfInBounds j true).getD k true=false ->
     (∀ e ∈ ok.after,Region.binds md e=true->e.on ≠ i)->oi.apart ops ok=true:=fun k ok hk hki hun hno=>by
     refine hfree k ok hk hki ?_ hno;by_cases hjk:j=k
     ·rw [<-hjk];exact hjun
     ·rwa [getD_set_ne true hjk] at hun
    have hF':(∀ w,T w) ∨ eg M (listed.setIfInBounds j true):=by
     rcases hF with h2|h2
     ·exact .inl h2
     ·rcases hT with h3|h3
      ·exact .inl h3
      ·refine .inr (h2.set fun hjM=>?_);obtain ⟨e,he,hb,ho⟩:=h3.2 j hjM oj hoj;exact hnot e he hb ho
    have e1:(listed.setIfInBounds i true).setIfInBounds j true=(listed.setIfInBounds j true).setIfInBounds i true:=Array.setIfInBounds_comm _ _ (Ne.symm hji);rw [e1] at step;exact wpOp_mono (fun a' w' h3=>⟨fun hFr=>h3.2.1 (hFr.set hiM),ih (listed.setIfInBounds j true) a' w' hfree' (ready_mono hr (Ne.symm hji)) h3.1 (fun hFr=>h3.2.1 (hFr.set hiM)) hF' h3.2.2⟩) step
def waitsB (md:Region.Mode) (ops:Array Oper) (M:List Nat) (i:Nat):Bool:=M.all fun j=>Region.waitsFor md ops j i
theorem pE {i:Nat} {oi:Oper} {v:Value} {f:Nat} {listed:Array Bool} {a:Act} {w:World} (hi:ops[i]?=some oi)
 (hs:Region.noSelect ops=true) (hf:Region.free md ops listed i=true) (hr:(Region.ready md ops listed).contains i=true) (hM:M.contains i=false) (hw:waitsB md ops M i=true) (hfr:M.all (fun j=>!listed.getD j true)=true)
 (hQ:∀ c a w,Q (.panic c) (a.put oi.dst v) w->Q (.panic c) a w) (hy:YieldsIf P ops S oi v a) (hS:S w)
 (h:bW P md ops Q M S f (listed.setIfInBounds i true) (a.put oi.dst v) w):bW P md ops Q M S (f+1) listed a w:=by
 refine gV (T:=S) hi (Region.noSelect_spec hs) hQ (by intro h';rw [List.contains_eq_mem,decide_eq_false_iff_not] at hM;exact hM h') (.inr ⟨fun _ h=>h,fun j hj oj hoj=>?_⟩) f listed a w (Region.free_spec hi hf) (by simpa using hr) hy (fun _=>hS) (.inr fun j hj=>?_) h
 ·have h1:=List.all_eq_true.1 hw j hj;obtain ⟨oj',h2,e,he,hb,ho⟩:=Region.waitsFor_spec h1;rw [hoj] at h2;cases h2;exact ⟨e,he,hb,ho⟩
 ·have:=List.all_eq_true.1 hfr j hj
  simpa using this
theorem pF {i:Nat} {oi:Oper} {v:Value} {f:Nat} {listed:Array Bool} {a:Act} {w:World} (hi:ops[i]?=some oi)
 (hs:Region.noSelect ops=true) (hf:Region.free md ops listed i=true) (hr:(Region.ready md ops listed).contains i=true) (hM:M.contains i=false)
 (hQ:∀ c a w,Q (.panic c) (a.put oi.dst v) w->Q (.panic c) a w) (hy:YieldsIf P ops (fun _=>True) oi v a) (hS:S w)
 (h:bW P md ops Q M S f (listed.setIfInBounds i true) (a.put oi.dst v) w):bW P md ops Q M S (f+1) listed a w :=
 gV (T:=fun _=>True) hi (Region.noSelect_spec hs) hQ (by intro h';rw [List.contains_eq_mem,decide_eq_false_iff_not] at hM;exact hM h') (.inl fun _=>trivial) f listed a w (Region.free_spec hi hf) (by simpa using hr) hy (fun _=>hS) (.inl fun _=>trivial) h
theorem jO {i:Nat} {oi:Oper} {v:Value} {f:Nat} {listed:Array Bool} {a:Act} {w:World} (hi:ops[i]?=some oi)
 (hs:Region.noSelect ops=true) (hf:Region.free md ops listed i=true) (hr:(Region.ready md ops listed).contains i=true) (hM:M.contains i=false)
 (hQ:∀ c a w,Q (.panic c) (a.put oi.dst v) w->Q (.panic c) a w) (hy:YieldsIf P ops (fun _=>True) oi v a) (hfr:M.any (fun j=>listed.getD j true)=true)
 (h:bW P md ops Q M S f (listed.setIfInBounds i true) (a.put oi.dst v) w):bW P md ops Q M S (f+1) listed a w :=
 gV (T:=fun _=>True) hi (Region.noSelect_spec hs) hQ (by intro h';rw [List.contains_eq_mem,decide_eq_false_iff_not] at hM;exact hM h') (.inl fun _=>trivial) f listed a w (Region.free_spec hi hf) (by simpa using hr) hy (fun hF=>by
  obtain ⟨j,hj,h2⟩:=List.any_eq_true.1 hfr;rw [hF j hj] at h2
  cases h2) (.inl fun _=>trivial) h
theorem cq {i:Nat} {oi:Oper} {f:Nat} {listed:Array Bool} {a:Act} {w w':World} (hi:ops[i]?=some oi) (hr:Region.ready md ops listed=[i]) (hM:M.contains i=true) (hl:i<listed.size)
 (hw:Region.wanted oi (yielded ops a.tmps)=true) (hrun:(execOp a.eval oi).run P w=.ok .skip w')
 (h:bW P md ops Q M S f (listed.setIfInBounds i true) (a.put oi.dst undef) w'):bW P md ops Q M S (f+1) listed a w:=by
 refine ⟨fun h0=>absurd (hr.symm.trans h0) (by simp),fun j hj=>?_⟩;rw [hr] at hj;obtain rfl:j=i:=by simpa using hj
 unfold wpOp;simp only [hi,hw,if_true];refine .inl ?_;unfold Oper.wp;rw [hrun];refine ⟨fun hF=>absurd (hF j (by simpa using hM)) ?_,h⟩;simp [hl]
theorem aG {i:Nat} {oi:Oper} {f:Nat} {listed:Array Bool} {a:Act} {w:World} (hi:ops[i]?=some oi) (hr:Region.ready md ops listed=[i]) (hw:Region.wanted oi (yielded ops a.tmps)=true)
 (h:∀ K':Act->World->Prop,Shut (∀ a w,(eg M (listed.setIfInBounds i true)->S w)->bW P md ops Q M S f (listed.setIfInBounds i true) a w->K' a w)->Oper.wp P oi a w K' Q):bW P md ops Q M S (f+1) listed a w:=by
 refine ⟨fun h0=>absurd (hr.symm.trans h0) (by simp),fun j hj=>?_⟩;rw [hr] at hj;obtain rfl:j=i:=by simpa using hj
 refine wpOp_step hi (fun K' hK=>?_);rw [if_pos hw];exact h K' (fun a w h1 h2=>hK a w ⟨h1,h2⟩)
theorem lp (i:Nat) {oi:Oper} {v:Value} {f:Nat} {listed l':Array Bool} {a a':Act} {w:World} (h:bW P md ops Q M S f l' a' w) (hi:ops[i]?=some oi:=by simp only [gA,gB,gC];rfl) (hs:Region.noSelect ops=true:=by kernel_rfl)
 (hf:Region.free md ops listed i=true:=by kernel_rfl) (hr:(Region.ready md ops listed).contains i=true:=by kernel_rfl) (hM:M.contains i=false:=by kernel_rfl) (hQ:∀ c a w,Q (.panic c) (a.put oi.dst v) w->Q (.panic c) a w:=by exact fun _ _ _ h=>h)
 (hy:YieldsIf P ops (fun _=>True) oi v a:=by (refine Or.inl ⟨by rfl,?_⟩;intro w hSw;(try dsimp only at hSw);go_simp;(try with_reducible rfl))) (hS:S w:=by assumption)
 (hl:listed.setIfInBounds i true=l':=by (try simp only [sA,sB,sC]);rfl) (ha:a.put oi.dst v=a':=by (try simp only [Act.put,sA,sB,sC]);rfl):bW P md ops Q M S (f+1) listed a w:=by subst hl ha;exact pF hi hs hf hr hM hQ hy hS h
theorem ll (i:Nat) {oi:Oper} {v:Value} {f:Nat} {listed l':Array Bool} {a a':Act} {w:World} (h:bW P md ops Q M S f l' a' w) (hi:ops[i]?=some oi:=by simp only [gA,gB,gC];rfl) (hs:Region.noSelect ops=true:=by kernel_rfl)
 (hf:Region.free md ops listed i=true:=by kernel_rfl) (hr:(Region.ready md ops listed).contains i=true:=by kernel_rfl) (hM:M.contains i=false:=by kernel_rfl) (hD:waitsB md ops M i=true:=by kernel_rfl) (hE:M.all (fun j=>!listed.getD j true)=true:=by kernel_rfl) (hQ:∀ c a w,Q (.panic c) (a.put oi.dst v) w->Q (.panic c) a w:=by exact fun _ _ _ h=>h)
 (hy:YieldsIf P ops S oi v a:=by (refine Or.inl ⟨by rfl,?_⟩;intro w hSw;(try dsimp only at hSw);go_simp;(try with_reducible rfl))) (hS:S w:=by assumption)
 (hl:listed.setIfInBounds i true=l':=by (try simp only [sA,sB,sC]);rfl) (ha:a.put oi.dst v=a':=by (try simp only [Act.put,sA,sB,sC]);rfl):bW P md ops Q M S (f+1) listed a w:=by subst hl ha;exact pE hi hs hf hr hM hD hE hQ hy hS h
theorem cv {listed:Array Bool} {a:Act} {w:World} (hr:Region.ready md ops listed=[]) (h:Q .normal a w):∀ f,bW P md ops Q M S f listed a w
 | 0=>⟨hr,h⟩
 | _+1=>⟨fun _=>h,fun i hi=>absurd hi (by rw [hr];exact List.not_mem_nil)⟩
theorem ci {id:Nat} {a:Act} {w:World} (hm:P.follows .mixedOrders=true) (h:bW P .any ops Q M S ops.size (Array.replicate ops.size false) a w.drew):(Code.region id ops true).wp P Q a w :=
 wp_region_any hm h.any
end
end Go.Proofs.YthjjfkeacobikaaGreat
namespace Go.Proofs.YthjjfkeacobikaaGreat
set_option maxRecDepth 100000
open Go.RowKit
def updB (st cc bi bb:Int):Bool:=decide (st<0)||(decide (cc<0)||(decide (cc=0)&&decide (bi<bb)))
theorem mc {t:Tb} {c:Nat} {st:Int × (Int × Int)} {k:Nat} {p:Int × Int} (hp:t.at k c=p) (h:cmpR p (0,1)<=0):di t c st k=st:=by
 unfold di;rw [hp,if_pos h]
theorem me {t:Tb} {c:Nat} {st:Int × (Int × Int)} {k u:Nat} {p q:Int × Int} (hu:u=t.cols.toNat+t.rows.length) (hp:t.at k c=p) (hq:t.at k u=q) (h:¬ cmpR p (0,1)<=0) (hd:(divR q p).2=false):di t c st k=st:=by
 unfold di;rw [hp,if_neg h,<-hu,hq,if_pos hd]
theorem mh {t:Tb} {c:Nat} {st:Int} {l:Int × Int} {k u:Nat} {p q d:Int × Int} (hu:u=t.cols.toNat+t.rows.length) (hp:t.at k c=p) (hq:t.at k u=q) (h:¬ cmpR p (0,1)<=0) (hd:divR q p=(d,true)) {bi bb:Int} (hb:t.basis[k]?.getD 0=bi) (hbb:t.basis[st.toNat]?.getD 0=bb) :
 di t c (st,l) k=if updB st (cmpR d l) bi bb=true then ((k:Int),d) else (st,l):=by
 unfold di;rw [hp,if_neg h,<-hu,hq,hd,if_neg (by simp)];simp only [hb,hbb,updB,Bool.or_eq_true,Bool.and_eq_true,decide_eq_true_eq]
theorem gj (t:Tb) (c:Nat):∀ k,(bP t c k).1=-1 ∨ (0<=(bP t c k).1/\(bP t c k).1<k)
 | 0=>.inl rfl
 | k+1=>by
   have ih:=gj t c k
   show (di t c (bP t c k) k).1=-1 ∨ (0<=(di t c (bP t c k) k).1/\(di t c (bP t c k) k).1<((k+1:Nat):Int));unfold di
   split
   ·omega
   ·split
    ·omega
    ·split
     ·right;simp;omega
     ·omega
section
variable {w:World} {ra:Option Addr} {rn rc:Nat} {ba:Option Addr} {bn bc:Nat} {t:Tb}
set_option maxHeartbeats 16000000 in
theorem lT (h:TbC w ra rn rc ba bn bc t) (hrn:rn<=100000) (col:Int) :
 Calls Tryz.prog 279 #[tbW ra rn rc ba bn bc t.cols,.int .i64 col] w fun e w'=>e=.returned (.int .i64 (cj t col))/\Ext w w':=by
 have HF:=ae (fM (h.ext (Ext.alloc w (bp ra rn rc ba bn bc t.cols))) (by omega));have HTP:=ae (fun ok=>eP h ok);obtain ⟨rows,basis,x⟩:=t;have hx0:=Ext.alloc w (bp ra rn rc ba bn bc x);have HX0:=ae hx0;have H:=ae (h.ext hx0);have hr1:=h.rows.hcap;have hr2:=h.rows.hmax;have hb1:=h.basis.hcap;have hb2:=h.basis.hmax;have HLR:=ae h.rows.hlen
 have HE:=ae (show cj ⟨rows,basis,x⟩ col=if (tbOk ⟨rows,basis,x⟩&&inB col 0 (x+(rn:Int)-1))=true then (bP ⟨rows,basis,x⟩ col.toNat rn).1 else -1 by
  unfold cj;simp only;rw [h.rows.hlen])
 clear h hx0
 show Calls _ _ #[tbW ra rn rc ba bn bc x,.int .i64 col] w _;cases hok:tbOk ⟨rows,basis,x⟩
 ·rw [hok] at HF;have HN:=ae (show cj ⟨rows,basis,x⟩ col=-1 by rw [HE.out,hok];rfl);clear hok;go_enter Tryz.func279,Tryz.ntmps279
  go_wp2_with fail;refine HF.out.mono ?_;rintro e w1 ⟨rfl,hx⟩;have X1:=ae (HX0.out.trans hx);clear hx;go_wp2_with fail;go_ret;exact ⟨aM HN.out.symm,X1.out⟩
 ·rw [hok] at HF;obtain ⟨m,hxm,hm,hbr,HRL,HBS⟩:=HTP.out hok;simp only at hxm;subst hxm hbr;have hre:=ae hok;replace HRL:=ae HRL;replace HBS:=ae HBS;clear hok;have HIW:=ae (fun w=>aU col 0 ((m:Int)+(bn:Int)-1) w);cases hin:inB col 0 ((m:Int)+(bn:Int)-1)
  ·have HN:=ae (show cj ⟨rows,basis,(m:Int)⟩ col=-1 by rw [HE.out,hin];simp);simp only [hin] at HIW;clear hin;go_enter Tryz.func279,Tryz.ntmps279
   go_wp2_with fail;refine HF.out.mono ?_;rintro e w1 ⟨rfl,hx⟩;have c0:w1.cell? ⟨w.heap.size,0,none⟩=some (.slice ra bn rc):=hx.cellSome (by simp);have c2:w1.cell? ⟨w.heap.size,2,none⟩=some (.int .i64 (m:Int)):=hx.cellSome (by simp);have X1:=ae (HX0.out.trans hx);clear hx;go_wp2_with fail;refine (HIW.out _).mono ?_;rintro e w2 ⟨rfl,rfl⟩;go_wp2_with fail;go_ret;exact ⟨aM HN.out.symm,X1.out⟩
  ·obtain ⟨c,rfl⟩:∃ c:Nat,col=c:=⟨col.toNat,by simp [inB] at hin;omega⟩;have hc:c<m+bn:=by simp [inB] at hin;omega
   have HR:=ae (show cj ⟨rows,basis,(m:Int)⟩ (c:Int)=(bP ⟨rows,basis,(m:Int)⟩ c bn).1 by rw [HE.out,hre.out,hin];simp);simp only [hin] at HIW;clear hin;obtain ⟨u,hu⟩:∃ u,u=m+bn:=⟨_,rfl⟩;have HU:=ae (show u=(Tb.mk rows basis (m:Int)).cols.toNat+(Tb.mk rows basis (m:Int)).rows.length by show u=Int.toNat (m:Int)+rows.length;rw [show rows.length=bn from HLR.out];omega);have HUM:=ae hu;have hcu:c<u:=by omega
   have hub:u<=200000:=by omega
   clear hu;go_enter Tryz.func279,Tryz.ntmps279
   go_wp2_with fail;refine HF.out.mono ?_;rintro e w1 ⟨rfl,hx⟩;have c0:w1.cell? ⟨w.heap.size,0,none⟩=some (.slice ra bn rc):=hx.cellSome (by simp);have c1:w1.cell? ⟨w.heap.size,1,none⟩=some (.slice ba bn bc):=hx.cellSome (by simp);have c2:w1.cell? ⟨w.heap.size,2,none⟩=some (.int .i64 (m:Int)):=hx.cellSome (by simp);have C1:=ae c1;have X1:=ae (HX0.out.trans hx);have H1:=ae (H.out.ext hx);have hs1:w.heap.size<w1.heap.size:=by have:=hx.size;simp at this;omega
   clear hx c1;go_wp2_with fail;refine (HIW.out _).mono ?_;rintro e w2 ⟨rfl,rfl⟩;have HB0:=ae (ah.new (Ext.refl w1) 0 0);go_wp2_with fail
   go_loopg [5,30] bn (fun gk bst ii wr=>∃ (k:Nat) (st l1 l2:Int),Hid (gk+k=bn)/\ii=.int .i64 (k:Int)/\bst=.int .i64 st/\Hid (bP ⟨rows,basis,(m:Int)⟩ c k=(st,(l1,l2)))/\Hid (ah w1 wr w1.heap.size l1 l2))
   case atStart=>exact ⟨0,-1,0,0,ae (by omega),rfl,rfl,ae rfl,HB0⟩
   case round =>
    obtain ⟨g1,h_g1⟩:∃ x,x=gk:=⟨_,rfl⟩;subst h_g1;obtain ⟨wr1,h_wr1⟩:∃ x,x=wr:=⟨_,rfl⟩;subst h_wr1;obtain ⟨k,st,l1,l2,HK,rfl,rfl,HL,HB⟩:=hrel;clear c0 c2;by_cases hlt:k<bn
    ·obtain ⟨zb,zoff,za,zn,zc,hza,hz0,hrow⟩:=(H1.out.ext HB.out.ext).rows.at hlt;subst hza;have hzn:zn=u+1:=by rw [<-hrow.hlen,HUM.out];exact HRL.out k hlt
     have HZN:=ae hzn;have hrc:=hrow.hcap;have hrm:=hrow.hmax;have HROW:=ae hrow;obtain ⟨yb,yoff,p,q,hya,hpq,hy0,hy1⟩:=hrow.at (show c<zn by omega);subst hya;have HPQ:=ae (show Tb.at ⟨rows,basis,(m:Int)⟩ k c=(p,q) from hpq);have HS:=ae (i_sign p q wr1);obtain ⟨sg,hsg⟩:∃ s,s=cmpR (p,q) (0,1):=⟨_,rfl⟩;have HSG:=ae hsg;rw [<-hsg] at HS;have hcz:c<zn:=by omega
     clear hpq hsg hrow hzn;by_cases hs0:sg<=0
     ·have HST:=ae (show bP ⟨rows,basis,(m:Int)⟩ c (k+1)=(st,(l1,l2)) by
       show di _ c (bP _ c k) k=_
       rw [HL.out];exact mc HPQ.out (by rw [<-HSG.out];exact hs0))
      go_wp2_with fail;refine HS.out.mono ?_;rintro e w3 ⟨rfl,hx⟩;have HB3:=ae (HB.out.grow hx);clear hx;go_wp2_with fail
      go_roundg (g1-1)
      case measure=>have:=HK.out;omega
      case rel=>exact ⟨k+1,st,l1,l2,ae (by have:=HK.out;omega),by go_num,rfl,HST,HB3⟩
     ·have HS0:=ae hs0;go_wp2_with fail;refine HS.out.mono ?_;rintro e w3 ⟨rfl,hx⟩;have HB3:=ae (HB.out.grow hx);replace hy0:=hx.cellSome hy0;replace hy1:=hx.cellSome hy1;obtain ⟨ub,uoff,p',q',hua,hpq',hv0,hv1⟩:=(HROW.out.ext hx).at (show u<zn by have:=HZN.out;omega);simp only [Option.some.injEq,Addr.mk.injEq,and_true] at hua;obtain ⟨rfl,rfl⟩:=hua;have HQQ:=ae (show Tb.at ⟨rows,basis,(m:Int)⟩ k u=(p',q') from hpq');obtain ⟨d1,d2,dok,hdd⟩:∃ x y ok,divR (p',q') (p,q)=((x,y),ok):=⟨_,_,_,rfl⟩;have HDD:=ae hdd;clear hpq' hdd hx hz0;have hwr:IntKind.i64.wrap ((zn:Int)-1)=(u:Int):=by have:=HZN.out;rw [IntKind.wrap_i64];omega
      have hu0:(0:Int)<=(u:Int):=by omega
      have hu1:(u:Int)<(zn:Int):=by have:=HZN.out;omega
      have hc0:(0:Int)<=(c:Int):=by omega
      have hc1:(c:Int)<(zn:Int):=by omega
      go_upto_region 9 with fail
      go_cut [9,10] (fun sx so wx=>∃ g:Nat,sx=.pointer (some ⟨g,0,none⟩)/\so=.bool dok/\Hid (ah w3 wx g d1 d2))
      case first =>
       have hk2:Ext w3 w3.drew:=Ext.drew w3;have hka:Ext w3 (w3.alloc (.cells #[.int .i64 0,.int .i64 0] 43)).drew:=(Ext.alloc _ _).trans (Ext.drew _);have HKEEP:=ae (fun (w':World) (h:Ext w3 w')=>(⟨h.cellSome hy0,h.cellSome hy1,h.cellSome hv0,h.cellSome hv1,h⟩:w'.cell? ⟨yb,yoff+c*2,none⟩=some (.int .i64 p)/\w'.cell? ⟨yb,yoff+c*2+1,none⟩=some (.int .i64 q)/\w'.cell? ⟨yb,yoff+u*2,none⟩=some (.int .i64 p')/\w'.cell? ⟨yb,yoff+u*2+1,none⟩=some (.int .i64 q')/\Ext w3 w'))
       go_region_held3 (fun w'=>w'.cell? ⟨yb,yoff+c*2,none⟩=some (.int .i64 p)/\w'.cell? ⟨yb,yoff+c*2+1,none⟩=some (.int .i64 q)/\w'.cell? ⟨yb,yoff+u*2,none⟩=some (.int .i64 p')/\w'.cell? ⟨yb,yoff+u*2+1,none⟩=some (.int .i64 q')/\Ext w3 w')
        (first
          | with_reducible exact HKEEP.out _ hk2
          | with_reducible exact HKEEP.out _ hka
          | with_reducible exact HKEEP.out _ ((hk2.setCell (by first|(simp;done)|(simp;omega)) _).setCell (by first|(simp;done)|(simp;omega)) _)
          | with_reducible exact HKEEP.out _ (hk2.trans (Ext.alloc _ _))
          | with_reducible exact HKEEP.out _ (hBB.put _ _).ext)
        (first
          | (go_at_call 113
             (with_reducible refine (lP p' q' p q _).mono ?_)
             rw [HDD.out];rintro e w5 ⟨rfl,hx_w5⟩
             first|(with_reducible have hBB:=ah.grow hBB hx_w5)|(with_reducible have hBB:=ah.firstD hx_w5)|(with_reducible have hBB:=ah.laterD hk2 hx_w5)|skip
             first|(have b0_:=hBB.c0;have b1_:=hBB.c1;have fb_:=hBB.free)|skip
             have hk2:Ext w3 w5:=by first|with_reducible exact hk2.trans hx_w5|with_reducible exact hka.trans hx_w5|with_reducible exact (hk2.trans (Ext.alloc _ _)).trans hx_w5
             have hk2s:=hk2.size)
          | fail)
       all_goals (go_wp2_with fail;go_meet;first|exact ⟨_,rfl,rfl,ae (hBB.put _ _)⟩|exact ⟨_,rfl,rfl,ae (ah.new hk2 _ _)⟩|exact ⟨_,rfl,rfl,ae (ah.new' hk2 _ _ (by simp))⟩)
      obtain ⟨g,rfl,rfl,HB1⟩:=hcut;clear hwr hu0 hu1 hc0 hc1 hy0 hy1 hv0 hv1;have HB4:=ae (HB3.out.grow HB1.out.ext);cases dok
      ·have HST:=ae (show bP ⟨rows,basis,(m:Int)⟩ c (k+1)=(st,(l1,l2)) by
        show di _ c (bP _ c k) k=_
        rw [HL.out];exact me HU.out HPQ.out HQQ.out (by rw [<-HSG.out];have:=HS0.out;omega) (by rw [HDD.out]))
       go_wp2_with fail
       go_roundg (g1-1)
       case measure=>have:=HK.out;omega
       case rel=>exact ⟨k+1,st,l1,l2,ae (by have:=HK.out;omega),by go_num,rfl,HST,HB4⟩
      ·have g0:=HB1.out.c0;have g1':=HB1.out.c1;have b0:=HB4.out.c0;have b1:=HB4.out.c1;have HCM:=ae (iq d1 d2 l1 l2 wc);obtain ⟨cc,hcc⟩:∃ s,s=cmpR (d1,d2) (l1,l2):=⟨_,rfl⟩;have HCC:=ae hcc;rw [<-hcc] at HCM;clear hcc;go_wp2_with fail;refine HCM.out.mono ?_;rintro e w6 ⟨rfl,hx⟩;have HB6:=ae (HB4.out.grow hx);have HG6:=ae (HB1.out.grow hx);clear hx g0 g1' b0 b1;have c1:=HB6.out.ext.cellSome C1.out;obtain ⟨eb,eoff,hea,he0⟩:=(H1.out.ext HB6.out.ext).basis.at hlt;subst hea;obtain ⟨bi,hbi⟩:∃ b,b=basis[k]?.getD 0:=⟨_,rfl⟩;have HBI:=ae hbi;rw [<-hbi] at he0;clear hbi;have HBD:=ae (gj ⟨rows,basis,(m:Int)⟩ c k);have hk0:(0:Int)<=(k:Int):=by omega
       have hk1:(k:Int)<(bn:Int):=by omega
       have HUP:=ae (fun bb (hbb:basis[st.toNat]?.getD 0=bb)=>show bP ⟨rows,basis,(m:Int)⟩ c (k+1)=if updB st cc bi bb=true then ((k:Int),(d1,d2)) else (st,(l1,l2)) by
        show di _ c (bP _ c k) k=_;rw [HL.out,HCC.out]
        exact mh HU.out HPQ.out HQQ.out (by rw [<-HSG.out];have:=HS0.out;omega) HDD.out HBI.out.symm hbb)
       go_upto_region 12 with fail
       go_cut [82] (fun s82 wx=>∃ bb:Int,s82=.bool (updB st cc bi bb)/\Hid (basis[st.toNat]?.getD 0=bb)/\Hid (Ext w6 wx))
       case first =>
        have hk2:Ext w6 w6.drew:=Ext.drew w6;by_cases hst:st<0
        ·have hd0:decide (st<0)=true:=decide_eq_true hst;refine wp_region_held_drew (S:=(fun w'=>w'.cell? ⟨w.heap.size,1,none⟩=some (.slice (some ⟨eb,eoff,none⟩) bn bc)/\w'.cell? ⟨eb,eoff+k,none⟩=some (.int .i64 bi)/\Ext w6 w')) (by kernel_rfl) ?_ (fun hHeld=>?_)
         ·exact ⟨hk2.cellSome c1,hk2.cellSome he0,hk2⟩
         refine tk 0 ?_;refine tk 1 ?_;refine tk 2 ?_;refine sk 3 ?_;refine sk 4 ?_;refine tk 5 ?_;refine tk 6 ?_;refine sk 7 ?_;refine sk 8 ?_;refine sk 9 ?_;refine sk 10 ?_;refine sk 11 ?_;refine sk 12 ?_;refine sk 13 ?_;refine sk 14 ?_;refine sk 15 ?_;refine sk 16 ?_;refine sk 17 ?_;refine sk 18 ?_;refine sk 19 ?_;refine sk 20 ?_;refine sk 21 ?_;refine tk 22 ?_;refine wpAnyH_done (by kernel_rfl) ?_ _;go_wp2_with fail;go_meet;exact ⟨_,by unfold updB;rw [hd0];rfl,ae rfl,ae hk2⟩
        ·have hd0:decide (st<0)=false:=decide_eq_false (by omega);obtain ⟨sn,rfl⟩:∃ sn:Nat,st=sn:=⟨st.toNat,by omega⟩;have hsn:sn<bn:=by have:=HBD.out;rw [HL.out] at this;simp only at this;omega
         obtain ⟨fb,foff,hfa,hf0⟩:=(H1.out.ext HB6.out.ext).basis.at hsn;simp only [Option.some.injEq,Addr.mk.injEq,and_true] at hfa;obtain ⟨rfl,rfl⟩:=hfa;obtain ⟨bb,hbb⟩:∃ b,b=basis[sn]?.getD 0:=⟨_,rfl⟩;have HBB:=ae (show basis[Int.toNat (sn:Int)]?.getD 0=bb by rw [Int.toNat_natCast,hbb]);rw [<-hbb] at hf0;have hs0':(0:Int)<=(sn:Int):=by omega
         have hs1':(sn:Int)<(bn:Int):=by omega
         clear hbb;by_cases hcc:cc<0
         ·have hd1:decide (cc<0)=true:=decide_eq_true hcc;refine wp_region_held_drew (S:=(fun w'=>w'.cell? ⟨w.heap.size,1,none⟩=some (.slice (some ⟨eb,eoff,none⟩) bn bc)/\w'.cell? ⟨eb,eoff+k,none⟩=some (.int .i64 bi)/\Ext w6 w')) (by kernel_rfl) ?_ (fun hHeld=>?_)
          ·exact ⟨hk2.cellSome c1,hk2.cellSome he0,hk2⟩
          refine tk 0 ?_;refine tk 1 ?_;refine tk 2 ?_;refine tk 3 ?_;refine tk 4 ?_;refine tk 5 ?_;refine tk 6 ?_;refine sk 7 ?_;refine sk 8 ?_;refine sk 9 ?_;refine sk 10 ?_;refine sk 11 ?_;refine sk 12 ?_;refine sk 13 ?_;refine sk 14 ?_;refine sk 15 ?_;refine sk 16 ?_;refine sk 17 ?_;refine sk 18 ?_;refine sk 19 ?_;refine sk 20 ?_;refine sk 21 ?_;refine tk 22 ?_;refine wpAnyH_done (by kernel_rfl) ?_ _;go_wp2_with fail;go_meet;exact ⟨bb,by unfold updB;rw [hd0,hd1];rfl,HBB,ae hk2⟩
         ·have hd1:decide (cc<0)=false:=decide_eq_false (by omega);by_cases hc0:cc=0
          ·subst hc0;refine wp_region_held_drew (S:=(fun w'=>w'.cell? ⟨w.heap.size,1,none⟩=some (.slice (some ⟨eb,eoff,none⟩) bn bc)/\w'.cell? ⟨eb,eoff+k,none⟩=some (.int .i64 bi)/\w'.cell? ⟨eb,eoff+sn,none⟩=some (.int .i64 bb)/\Ext w6 w')) (by kernel_rfl) ?_ (fun hHeld=>?_)
           ·exact ⟨hk2.cellSome c1,hk2.cellSome he0,hk2.cellSome hf0,hk2⟩
           refine tk 0 ?_;refine tk 1 ?_;refine tk 2 ?_;refine tk 3 ?_;refine tk 4 ?_;refine tk 5 ?_;refine tk 6 ?_;refine tk 7 ?_;refine tk 8 ?_;refine tk 9 ?_;refine tk 10 ?_;refine tk 11 ?_;refine tk 12 ?_;refine tk 13 ?_;refine tk 14 ?_;refine tk 15 ?_;refine tk 16 ?_;refine tk 17 ?_;refine tk 18 ?_;refine tk 19 ?_;refine tk 20 ?_;refine tk 21 ?_;refine tk 22 ?_;refine wpAnyH_done (by kernel_rfl) ?_ _;go_wp2_with fail;go_meet;exact ⟨bb,by unfold updB;rw [hd0];rfl,HBB,ae hk2⟩
          ·have hd2:(cc == 0)=false:=by simp;omega
           refine wp_region_held_drew (S:=(fun w'=>w'.cell? ⟨w.heap.size,1,none⟩=some (.slice (some ⟨eb,eoff,none⟩) bn bc)/\w'.cell? ⟨eb,eoff+k,none⟩=some (.int .i64 bi)/\Ext w6 w')) (by kernel_rfl) ?_ (fun hHeld=>?_)
           ·exact ⟨hk2.cellSome c1,hk2.cellSome he0,hk2⟩
           refine tk 0 ?_;refine tk 1 ?_;refine tk 2 ?_;refine tk 3 ?_;refine tk 4 ?_;refine tk 5 ?_;refine tk 6 ?_;refine tk 7 ?_;refine tk 8 ?_;refine tk 9 ?_;refine sk 10 ?_;refine sk 11 ?_;refine sk 12 ?_;refine sk 13 ?_;refine sk 14 ?_;refine sk 15 ?_;refine sk 16 ?_;refine sk 17 ?_;refine sk 18 ?_;refine sk 19 ?_;refine sk 20 ?_;refine tk 21 ?_;refine tk 22 ?_;refine wpAnyH_done (by kernel_rfl) ?_ _;go_wp2_with fail;go_meet;exact ⟨bb,by unfold updB;rw [hd0,hd1,decide_eq_false hc0];rfl,HBB,ae hk2⟩
       obtain ⟨bb,rfl,HBB,HX7⟩:=hcut;have HB7:=ae (HB6.out.grow HX7.out);have HG7:=ae (HG6.out.grow HX7.out);have HU2:=ae (HUP.out bb HBB.out);clear c1 he0;cases hub2:updB st cc bi bb
       ·have HST:=ae (show bP ⟨rows,basis,(m:Int)⟩ c (k+1)=(st,(l1,l2)) by rw [HU2.out,hub2];rfl);go_wp2_with fail
        go_roundg (g1-1)
        case measure=>have:=HK.out;omega
        case rel=>exact ⟨k+1,st,l1,l2,ae (by have:=HK.out;omega),by go_num,rfl,HST,HB7⟩
       ·have HST:=ae (show bP ⟨rows,basis,(m:Int)⟩ c (k+1)=((k:Int),(d1,d2)) by rw [HU2.out,hub2];rfl);have g0:=HG7.out.c0;have g1':=HG7.out.c1;have b0:=HB7.out.c0;have b1:=HB7.out.c1;have bf:=HB7.out.free;have HB8:=ae ((HB7.out.grow (Ext.drew wc)).put d1 d2);go_upto_region 13 with fail
        go_still_tail 3,(by kernel_rfl)
        go_wp2_with fail
        go_roundg (g1-1)
        case measure=>have:=HK.out;omega
        case rel=>exact ⟨k+1,(k:Int),d1,d2,ae (by have:=HK.out;omega),by go_num,rfl,HST,HB8⟩
    ·have hkn:bn=k:=by have:=HK.out;omega
     subst hkn;have HY:=ae (show cj ⟨rows,basis,(m:Int)⟩ (c:Int)=st by rw [HR.out,HL.out]);go_wp2_with fail;go_ret;exact ⟨aM HY.out.symm,X1.out.trans HB.out.ext⟩
end
end Go.Proofs.YthjjfkeacobikaaGreat
