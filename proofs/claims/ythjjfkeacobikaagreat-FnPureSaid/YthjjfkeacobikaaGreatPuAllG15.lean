import Derived.Test.YthjjfkeacobikaaGreatPuAllG14
import Derived.Test.YthjjfkeacobikaaGreatPuAllG10
import Derived.Outline
set_option linter.unusedVariables false
set_option linter.unusedSimpArgs false
namespace Go.Proofs.YthjjfkeacobikaaGreat
set_option maxRecDepth 100000
open Go.RowKit
theorem jR {cost:List (Int × Int)} {t:Tb} (f:Nat) (h:bX t cost=none):aO cost f t=none:=by unfold aO;rw [h]
theorem iT {cost cs:List (Int × Int)} {t:Tb} (f:Nat) (h:bX t cost=some cs) (he:aZ cs t.cols<0):aO cost f t=some ⟨t,f,cs,-1⟩:=by unfold aO;rw [h];simp only [he,if_true]
theorem iU {cost cs:List (Int × Int)} {t:Tb} (f:Nat) (h:bX t cost=some cs) (he:¬ aZ cs t.cols<0) (hl:cj t (aZ cs t.cols)<0):aO cost f t=some ⟨t,f,cs,aZ cs t.cols⟩:=by
 unfold aO;rw [h];simp only [he,hl,if_true,if_false]
theorem iV {cost cs:List (Int × Int)} {t:Tb} {n:Nat} (hn:n<=1000) (h:bX t cost=some cs) (he:¬ aZ cs t.cols<0) (hl:¬ cj t (aZ cs t.cols)<0) :
 aO cost (1000-n) t=(pivS t n (cj t (aZ cs t.cols)) (aZ cs t.cols)).bind fun s=>aO cost (1000-s.2) s.1:=by
 unfold pivS;by_cases hn0:n=1000
 ·subst hn0;unfold aO;rw [h];simp only [he,hl,if_false,if_true];rfl
 ·rw [if_neg hn0];obtain ⟨f,hf⟩:∃ f,1000-n=f+1:=⟨999-n,by omega⟩;rw [hf];have e:1000-(n+1)=f:=by omega
  conv=>lhs;unfold aO
  rw [h];simp only [he,hl,if_false];cases aQ t (cj t (aZ cs t.cols)) (aZ cs t.cols) with
  | none=>rfl
  | some t'=>simp only [Option.map_some,Option.bind_some,e]
def RunP (S:Nat) (w:World) (e:Ending) (w':World) (o:Option Ph):Prop :=
 Mod S w w'/\∃ ra rn rc ba bn bc vs,match o with
  | some p=>∃ v,e=.returned (.tuple #[v,.int .i64 p.col])/\OwnR w' w.heap.size v p.costs/\cY w' S ra rn rc ba bn bc vs p.t (1000-p.left) false
  | none=>∃ v col t n,e=.returned (.tuple #[v,.int .i64 col])/\cY w' S ra rn rc ba bn bc vs t n true
structure Head (w wr:World) (S:Nat) (N m:Nat) (T0:Nat->Nat->Rat) (cost:List (Int × Int)) (o:Option Ph) (gk:Nat) (nn:Nat) (f:Bool) (tt:Tb) (ra:Option Addr) (rn rc:Nat) (ba:Option Addr) (bn bc:Nat) (vs:List Value):Prop where
 meas:gk=if f=true then 0 else 2*(1000-nn)+1
 mod:Mod S w wr
 st:cY wr S ra rn rc ba bn bc vs tt nn f
 go:f=false->TInv N m T0 tt/\nn<=1000/\aO cost (1000-nn) tt=o
 no:f=true->o=none
section
variable {w:World} {S:Nat} {ra:Option Addr} {rn rc:Nat} {ba:Option Addr} {bn bc:Nat} {vs:List Value} {t:Tb} {n:Nat}
set_option maxHeartbeats 16000000 in
theorem i_run (h:cY w S ra rn rc ba bn bc vs t n false) {N m:Nat} {T0:Nat->Nat->Rat} (hT:TInv N m T0 t) (hN:N<=1000) (hm:m<=1000) (hn:n<=1000) {ka:Option Addr} {kn kc b0:Nat} {cost:List (Int × Int)} (hc:OwnR w b0 (.slice ka kn kc) cost) :
 Calls Tryz.prog 249 #[.pointer (some ⟨S,0,none⟩),.slice ka kn kc] w fun e w'=>RunP S w e w' (aO cost (1000-n) t):=by
 obtain ⟨o,ho⟩:∃ o,o=aO cost (1000-n) t:=⟨_,rfl⟩;rw [<-ho];have H0:=ae (show Head w w S N m T0 cost o (2*(1000-n)+1) n false t ra rn rc ba bn bc vs from ⟨by simp,Mod.refl _ _,h,fun _=>⟨hT,hn,ho.symm⟩,fun e=>by cases e⟩);have HC:=ae hc;have HBX:=ae h.box;have hlt:=lt_of_block h.box;clear h hT ho hc;go_enter Tryz.func249,Tryz.ntmps249
 go_wp2_with fail
 go_loopg [8] (2*(1000-n)+1) (fun gk s8 wr=>∃ (nn:Nat) (f:Bool) (tt:Tb) (ra:Option Addr) (rn rc:Nat) (ba:Option Addr) (bn bc:Nat) (vs:List Value),Hid (Head w wr S N m T0 cost o gk nn f tt ra rn rc ba bn bc vs))
 case atStart=>exact ⟨n,false,t,_,_,_,_,_,_,_,H0⟩
 case round =>
  obtain ⟨g1,h_g1⟩:∃ x,x=gk:=⟨_,rfl⟩;subst h_g1;obtain ⟨wr1,h_wr1⟩:∃ x,x=wr:=⟨_,rfl⟩;subst h_wr1;obtain ⟨nn,f,tt,ra,rn,rc,ba,bn,bc,vs,HH⟩:=hrel;clear H0;obtain ⟨c0,c1,c2,c3,c4,cf⟩:=HH.out.st.cells;have hl1:=lt_of_block HH.out.st.box;have hs1:=HH.out.mod.size;cases f
  ·obtain ⟨hT,hn1,hph⟩:=HH.out.go rfl;have HT:=ae hT;have HPH:=ae hph;have hcols:=hT.cols;have HCR:=ae (px HH.out.st.tb.tbc (by rw [<-HH.out.st.tb.tbc.rows.hlen,hT.len];omega) ((HC.out.mod HH.out.mod HBX.out).rats));rw [hcols] at c2 HCR;have HCO:=ae hcols;clear hT hph hcols;cases hcs:bX tt cost with
   | none =>
     have HO:=ae (show o=none by rw [<-HPH.out];exact jR _ hcs);rw [hcs] at HCR;go_wp2_with fail;refine HCR.out.mono ?_;simp only [Option.getD_none,Option.isSome_none];rintro e w2 ⟨⟨v2,rfl,ho2⟩,hx⟩;have HS:=ae (HH.out.st.ext hx);have HM:=ae (HH.out.mod.trans (Mod.of hx));clear ho2 hx c0 c1 c2 c3 c4 cf hcs;obtain ⟨c0,c1,c2,c3,c4,cf⟩:=HS.out.cells;go_wp2_with fail
     go_ret2
     refine ⟨HM.out.trans (Mod.set _ _ _ _),?_⟩;rw [HO.out];exact ⟨_,_,_,_,_,_,_,_,_,_,_,rfl,HS.out.fail⟩
   | some cs =>
     rw [hcs] at HCR;have HCS:=ae hcs;go_wp2_with fail;refine HCR.out.mono ?_;simp only [Option.getD_some,Option.isSome_some];rintro e w2 ⟨⟨v2,rfl,ho2⟩,hx⟩;obtain ⟨a2,n2,p2,rfl,HN2⟩:=ho2.var;have HS:=ae (HH.out.st.ext hx);have HM:=ae (HH.out.mod.trans (Mod.of hx));have HO2:=ae (show OwnR w2 w.heap.size (.slice a2 n2 p2) cs from OwnR.mono ho2 hs1);clear ho2 hx c0 c1 c2 c3 c4 cf hcs;obtain ⟨c0,c1,c2,c3,c4,cf⟩:=HS.out.cells;rw [HCO.out] at c2;obtain ⟨col,hcol⟩:∃ c,c=aZ cs (N:Int):=⟨_,rfl⟩;have HCL:=ae hcol;clear hcol;go_upto_region 5 with fail;have hk2:Ext w2 w2.drew:=Ext.drew w2;have hka:=hk2;have HKEEP:=ae (fun (w':World) (h:Ext w2 w')=>(⟨h.cellSome c0,h.cellSome c1,h.cellSome c2,h⟩:w'.cell? ⟨S,0,none⟩=some (.slice ra rn rc)/\w'.cell? ⟨S,1,none⟩=some (.slice ba bn bc)/\w'.cell? ⟨S,2,none⟩=some (.int .i64 (N:Int))/\Ext w2 w'))
     go_region_held3 (fun w'=>w'.cell? ⟨S,0,none⟩=some (.slice ra rn rc)/\w'.cell? ⟨S,1,none⟩=some (.slice ba bn bc)/\w'.cell? ⟨S,2,none⟩=some (.int .i64 (N:Int))/\Ext w2 w')
      (with_reducible exact HKEEP.out _ hk2)
      (first
        | (go_at_call 278
           (with_reducible refine (jd (ra:=ra) (rn:=rn) (rc:=rc) (ba:=ba) (bn:=bn) (bc:=bc) (x:=(N:Int)) (HO2.out.rats.ext (by first|with_reducible exact hk2|with_reducible exact hka|with_reducible exact hk2.trans (Ext.alloc _ _))) N (by omega)).mono ?_)
           rw [<-HCL.out];rintro e w3 ⟨rfl,hx_w3⟩;have hk2:Ext w2 w3:=hk2.trans hx_w3
           have hs_w3:=hk2.size)
        | fail)
     clear HKEEP hka;have HS3:=ae (HS.out.ext hk2);have HM3:=ae (HM.out.trans (Mod.of hk2));have HO3:=ae (HO2.out.ext hk2);clear hk2 c0 c1 c2 c3 c4 cf;have HCE:=ae (show aZ cs tt.cols=col by rw [HCO.out,HCL.out]);by_cases hc0:col<0
     ·have HO:=ae (show o=some ⟨tt,1000-nn,cs,-1⟩ by rw [<-HPH.out];exact iT _ HCS.out (by rw [HCE.out];exact hc0));go_wp2_with fail
      go_ret2
      refine ⟨HM3.out,?_⟩;rw [HO.out];exact ⟨_,_,_,_,_,_,_,_,rfl,HO3.out,by rw [show 1000-(1000-nn)=nn by omega];exact HS3.out⟩
     ·obtain ⟨c0,c1,c2,c3,c4,cf⟩:=HS3.out.cells;rw [HCO.out] at c2;have HC0:=ae hc0;have HLV:=ae (lT HS3.out.tb.tbc (by rw [<-HS3.out.tb.tbc.rows.hlen,HT.out.len];omega) col);rw [HCO.out] at HLV;obtain ⟨row,hrow⟩:∃ r,r=cj tt col:=⟨_,rfl⟩;have HRW:=ae (show cj tt (aZ cs tt.cols)=row by rw [HCE.out,hrow]);rw [<-hrow] at HLV;clear hrow;go_wp2_with fail;refine HLV.out.mono ?_;rintro e w4 ⟨rfl,hx⟩;have HS4:=ae (HS3.out.ext hx);have HM4:=ae (HM3.out.trans (Mod.of hx));have HO4:=ae (HO3.out.ext hx);clear hx c0 c1 c2 c3 c4 cf;by_cases hr0:row<0
      ·have HO:=ae (show o=some ⟨tt,1000-nn,cs,col⟩ by
        rw [<-HPH.out,iU _ HCS.out (by rw [HCE.out];have:=HC0.out;omega) (by rw [HRW.out];exact hr0),HCE.out])
       go_wp2_with fail
       go_ret2
       refine ⟨HM4.out,?_⟩;rw [HO.out];exact ⟨_,_,_,_,_,_,_,_,rfl,HO4.out,by rw [show 1000-(1000-nn)=nn by omega];exact HS4.out⟩
      ·have HOP:=ae (show o=(pivS tt nn row col).bind fun s=>aO cost (1000-s.2) s.1 by
        rw [<-HPH.out,iV hn1 HCS.out (by rw [HCE.out];have:=HC0.out;omega) (by rw [HRW.out];omega),HRW.out,HCE.out])
       have HPV:=ae (nM HS4.out HT.out hN hm hn1 row col);have HME:=ae (show g1=2*(1000-nn)+1 from HH.out.meas);go_wp2_with fail;refine HPV.out.mono ?_;rintro e w5 ⟨rfl,hm5,ra5,rn5,rc5,ba5,bn5,bc5,vs5,hleft⟩;cases hps:pivS tt nn row col with
       | none =>
         rw [hps] at hleft;obtain ⟨t5,n5,hs5⟩:=hleft;have HO:=ae (show o=none by rw [HOP.out,hps];rfl);have HH5:=ae (show Head w w5 S N m T0 cost o 0 n5 true t5 ra5 rn5 rc5 ba5 bn5 bc5 vs5 from ⟨rfl,HM4.out.trans hm5,hs5,fun e=>(by cases e),fun _=>HO.out⟩);clear hs5 hps hm5;go_wp2_with fail
         go_roundg 0
         case measure=>have:=HME.out;omega
         case rel=>exact ⟨n5,true,t5,_,_,_,_,_,_,_,HH5⟩
       | some st =>
         obtain ⟨t5,n5⟩:=st;rw [hps] at hleft;have hn5:n5=nn+1/\nn<1000/\aQ tt row col=some t5:=by
          unfold pivS at hps
          split at hps
          ·cases hps
          ·rw [Option.map_eq_some_iff] at hps;obtain ⟨t6,h6,h7⟩:=hps;simp only [Prod.mk.injEq] at h7;obtain ⟨rfl,rfl⟩:=h7;exact ⟨rfl,by omega,h6⟩
         obtain ⟨rfl,hlt5,hpt⟩:=hn5;have HO:=ae (show aO cost (1000-(nn+1)) t5=o by rw [HOP.out,hps];rfl);have HH5:=ae (show Head w w5 S N m T0 cost o (2*(1000-(nn+1))+1) (nn+1) false t5 ra5 rn5 rc5 ba5 bn5 bc5 vs5 from ⟨rfl,HM4.out.trans hm5,hleft,fun _=>⟨dQ HT.out hpt,by omega,HO.out⟩,fun e=>(by cases e)⟩);clear hleft hps hm5 hpt;go_wp2_with fail
         go_roundg (2*(1000-(nn+1))+1)
         case measure=>have:=HME.out;omega
         case rel=>exact ⟨nn+1,false,t5,_,_,_,_,_,_,_,HH5⟩
  ·have HO:=ae (HH.out.no rfl);go_wp2_with fail
   go_ret2
   refine ⟨HH.out.mod,?_⟩;rw [HO.out];exact ⟨_,_,_,_,_,_,_,_,_,_,_,rfl,HH.out.st⟩
end
end Go.Proofs.YthjjfkeacobikaaGreat
namespace Go.Proofs.YthjjfkeacobikaaGreat
set_option maxRecDepth 100000
open Go.RowKit
set_option maxHeartbeats 4000000 in
theorem kV {w:World} {a:Option Addr} {n cap:Nat} {front:List (Int × Int)} (h:Rats w a n cap front) (rest:Int) (m:Nat) (hn:n<=100000) (hm:m<=100000) :
 Calls Tryz.prog 250 #[.slice a n cap,.int .i64 rest,.int .i64 (m:Int)] w fun e w'=>(∃ v,e=.returned v/\OwnR w' w.heap.size v (front++List.replicate m (rest,1)))/\Ext w w':=by
 have HL:=ae h.hlen;have hc1:=h.hcap;have hc2:=h.hmax;have HI:=ae (h.ext (Ext.alloc w (.cells #[] 43)));have HO:=ae (OwnR.made w w.heap.size (Nat.le_refl _));clear h;go_enter Tryz.func250,Tryz.ntmps250
 go_wp2_with (first
  | (at_builtin;refine aJ rfl _ _ rfl w.heap.size (.slice (some ⟨w.heap.size,0,none⟩) 0 0) [] rfl HO.out a n cap front rfl HI.out (by simp;omega) (by simp) ?_;intro v5 w5 ho hg hnear;have X5:=ae (aq (Ext.alloc w (.cells #[] 43)) hg (fun j hj=>Nat.le_of_eq (Option.some.inj (show some w.heap.size=some j from hj))));obtain ⟨a5,n5,p5,rfl,HN5⟩:=ho.var;have HO5:=ae ho;clear ho hg hnear))
 go_loopg [7,12] m (fun gk oo ii wr=>∃ (k:Nat) (a1:Option Addr) (n1 p1:Nat),Hid (gk+k=m)/\ii=.int .i64 (k:Int)/\oo=.slice a1 n1 p1/\Hid (OwnR wr w.heap.size (.slice a1 n1 p1) (front++List.replicate k (rest,1)))/\Hid (Ext w wr))
 case atStart=>exact ⟨0,_,_,_,ae (by omega),rfl,rfl,ae (by have:=HO5.out;simpa using this),X5⟩
 case round =>
  obtain ⟨g1,h_g1⟩:∃ x,x=gk:=⟨_,rfl⟩;subst h_g1;obtain ⟨wr1,h_wr1⟩:∃ x,x=wr:=⟨_,rfl⟩;subst h_wr1;obtain ⟨k,a1,n1,p1,HK,rfl,rfl,HO1,HX⟩:=hrel;by_cases hlt:k<m
  ·have HLL:=ae (show (front++List.replicate k (rest,(1:Int))).length=n+k by simp [HL.out]);go_wp2_with fail;refine (cz rest _).mono ?_;rintro e w3 ⟨rfl,hx⟩;have X3:=ae (HX.out.trans hx);have HO3:=ae (HO1.out.ext hx);have hs3:=X3.out.size;clear hx
   go_wp2_with (first
    | (at_builtin;refine aJ rfl _ _ rfl w.heap.size (.slice a1 n1 p1) _ rfl (HO3.out.ext (Ext.alloc _ _)) _ 1 _ [(rest,1)] rfl (Rats.one' _ _ _ _ _ (by simp)) (by rw [HLL.out];omega) (by simp;omega) ?_;intro v5 w5 ho hg hnear;have X5:=ae (aq (X3.out.trans (Ext.alloc _ _)) hg (fun j hj=>(HO3.out.lt j hj).1));obtain ⟨a5,n5,p5,rfl,HN5⟩:=ho.var;have HO5:=ae ho;clear ho hg hnear))
   go_roundg (g1-1)
   case measure=>have:=HK.out;omega
   case rel=>exact ⟨k+1,a5,n5,p5,ae (by have:=HK.out;omega),by go_num,rfl,ae (by have:=HO5.out;rw [List.append_assoc,<-List.replicate_succ'] at this;exact this),X5⟩
  ·have hkm:m=k:=by have:=HK.out;omega
   subst hkm;go_wp2_with fail;go_ret;exact ⟨⟨_,rfl,HO1.out⟩,HX.out⟩
theorem fT (t:Tb):∀ k,(solN t k).length=t.cols.toNat+t.rows.length
 | 0=>by simp [solN]
 | k+1=>by simp only [solN,List.length_set];exact fT t k
set_option maxHeartbeats 8000000 in
theorem lV {w:World} {ra:Option Addr} {rn rc:Nat} {ba:Option Addr} {bn bc:Nat} {t:Tb} (h:TbC w ra rn rc ba bn bc t) (hrn:rn<=100000) (hok:tbOk t=true) :
 Calls Tryz.prog 252 #[tbW ra rn rc ba bn bc t.cols] w fun e w'=>(∃ v,e=.returned v/\OwnR w' w.heap.size v (solT t))/\Ext w w':=by
 have hx0:=Ext.alloc w (bp ra rn rc ba bn bc t.cols);have HX0:=ae hx0;have H:=ae (h.ext hx0);have HF:=ae (fM H.out (by omega));rw [hok] at HF;obtain ⟨m,hxm,hm,hbr,hrl0,hbs0⟩:=eP h hok;subst hbr;have hr1:=h.rows.hcap;have hr2:=h.rows.hmax;have HLR:=ae h.rows.hlen;have HSO:=ae (show solT t=solN t bn by unfold solT;rw [if_pos hok,h.rows.hlen]);have HS0:=ae (show solN t 0=List.replicate (m+bn) (0,1) by simp only [solN];rw [hxm,h.rows.hlen];rfl);have HSL:=ae (fun k=>show (solN t k).length=m+bn by rw [fT,hxm,h.rows.hlen];simp);have HRL:=ae hrl0;have HBS:=ae hbs0;have HCM:=ae hxm;rw [hxm] at HF hx0 HX0 H;rw [hxm];have HO:=ae (fun (W:World)=>OwnR.made W W.heap.size (Nat.le_refl _));clear h hx0 hrl0 hbs0 hok hxm;go_enter Tryz.func252,Tryz.ntmps252
 go_wp2_with fail;refine HF.out.mono ?_;rintro e w1 ⟨rfl,hx⟩;have X1:=ae hx;have H1:=ae (H.out.ext hx);have c0:w1.cell? ⟨w.heap.size,0,none⟩=some (.slice ra bn rc):=hx.cellSome (by simp);have c2:w1.cell? ⟨w.heap.size,2,none⟩=some (.int .i64 (m:Int)):=hx.cellSome (by simp);have hs1:w.heap.size+1<=w1.heap.size:=by have:=hx.size;simpa using this
 have hs1':w.heap.size<w1.heap.size:=hs1;have HO1:=ae (HO.out w1);clear hx;go_wp2_with fail
 go_loopg [3,16] (m+bn) (fun gk oo ii wr=>∃ (k:Nat) (a1:Option Addr) (n1 p1:Nat),Hid (gk+k=m+bn)/\ii=.int .i64 (k:Int)/\oo=.slice a1 n1 p1/\Hid (OwnR wr w1.heap.size (.slice a1 n1 p1) (List.replicate k (0,1)))/\Hid (Ext w1 wr))
 case atStart=>exact ⟨0,_,_,_,ae (by omega),rfl,rfl,HO1,ae (Ext.alloc _ _)⟩
 case round =>
  obtain ⟨g1,h_g1⟩:∃ x,x=gk:=⟨_,rfl⟩;subst h_g1;obtain ⟨wr1,h_wr1⟩:∃ x,x=wr:=⟨_,rfl⟩;subst h_wr1;obtain ⟨k,a1,n1,p1,HK,rfl,rfl,HO1,HX⟩:=hrel;clear c0 c2;by_cases hlt:k<m+bn
  ·have HLL:=ae (show (List.replicate k ((0:Int),(1:Int))).length=k by simp);have hltI:(k:Int)<(m:Int)+(bn:Int):=by omega
   go_wp2_with fail;refine (cz 0 _).mono ?_;rintro e w3 ⟨rfl,hx⟩;have X3:=ae (HX.out.trans hx);have HO3:=ae (HO1.out.ext hx);have hs3:=X3.out.size;clear hx
   go_wp2_with (first
    | (at_builtin;refine aJ rfl _ _ rfl w1.heap.size (.slice a1 n1 p1) _ rfl (HO3.out.ext (Ext.alloc _ _)) _ 1 _ [(0,1)] rfl (Rats.one' _ _ _ _ _ (by simp)) (by rw [HLL.out];omega) (by simp;omega) ?_;intro v5 w5 ho hg hnear;have X5:=ae (aq (X3.out.trans (Ext.alloc _ _)) hg (fun j hj=>(HO3.out.lt j hj).1));obtain ⟨a5,n5,p5,rfl,HN5⟩:=ho.var;have HO5:=ae ho;clear ho hg hnear))
   go_roundg (g1-1)
   case measure=>have:=HK.out;omega
   case rel=>exact ⟨k+1,a5,n5,p5,ae (by have:=HK.out;omega),by go_num,rfl,ae (by have:=HO5.out;rw [<-List.replicate_succ'] at this;exact this),X5⟩
  ·have hkm:k=m+bn:=by have:=HK.out;omega
   have hltI:¬ (k:Int)<(m:Int)+(bn:Int):=by omega
   have HKM:=ae hkm;have HO2:=ae (show OwnR wr1 w1.heap.size (.slice a1 n1 p1) (solN t 0) by rw [HS0.out,<-hkm];exact HO1.out);have c0:wr1.cell? ⟨w.heap.size,0,none⟩=some (.slice ra bn rc):=(X1.out.trans HX.out).cellSome (by simp);clear hkm;go_wp2_with fail
   go_loopg [26] bn (fun gk ii wr=>∃ (k:Nat),Hid (gk+k=bn)/\ii=.int .i64 (k:Int)/\Hid (OwnR wr w1.heap.size (.slice a1 n1 p1) (solN t k))/\Hid (Ext w1 wr))
   case atStart=>exact ⟨0,ae (by omega),rfl,HO2,HX⟩
   case round =>
    obtain ⟨g2,h_g2⟩:∃ x,x=gk:=⟨_,rfl⟩;subst h_g2;obtain ⟨wr2,h_wr2⟩:∃ x,x=wr:=⟨_,rfl⟩;subst h_wr2;obtain ⟨j,HJ,rfl,HO4,HX4⟩:=hrel;clear c0;by_cases hjl:j<bn
    ·obtain ⟨zb,zoff,ya,yn,yc,hza,hz0,hrow⟩:=(H1.out.ext HX4.out).rows.at hjl;subst hza;obtain ⟨u,hu⟩:∃ u,u=m+bn:=⟨_,rfl⟩;have hyn:yn=u+1:=by rw [<-hrow.hlen,hu];exact HRL.out j hjl
     have HYN:=ae hyn;have hy1:=hrow.hcap;have hy2:=hrow.hmax;have hub:u<=200000:=by omega
     obtain ⟨yb,yoff,p,q,hya,hpq,hy0c,hy1c⟩:=hrow.at (show u<yn by omega);subst hya;have HPQ:=ae (show t.at j u=(p,q) from hpq);obtain ⟨b,hb,hbl⟩:=HBS.out j hjl;have HB:=ae hb;obtain ⟨eb,eoff,hea,he0⟩:=(H1.out.ext HX4.out).basis.at hjl;subst hea;rw [hb] at he0;have hn1:n1=u:=by have:=HO4.out.rats.hlen;rw [HSL.out] at this;omega
     subst hn1;obtain ⟨G,hG,hbG,hfr,hGl⟩:=HO4.out.block (k:=b) (by omega);subst hG;obtain ⟨G',goff',g1v,g2v,hG',hgv,hg0,hg1⟩:=HO4.out.rats.at (show b<n1 by omega);simp only [Option.some.injEq,Addr.mk.injEq,and_true] at hG';obtain ⟨rfl,rfl⟩:=hG';rw [Nat.zero_add] at hg0 hg1;have c1:wr2.cell? ⟨w.heap.size,1,none⟩=some (.slice (some ⟨eb,eoff,none⟩) bn bc):=(X1.out.trans HX4.out).cellSome (by simp);have hwr:IntKind.i64.wrap ((yn:Int)-1)=(n1:Int):=by have:=HYN.out;rw [IntKind.wrap_i64];omega
     have hu1:(n1:Int)<(yn:Int):=by have:=HYN.out;omega
     have hu0:(0:Int)<=(n1:Int):=by omega
     have hb0:(0:Int)<=(b:Int):=by omega
     have hb1:(b:Int)<(n1:Int):=by omega
     have hj0:(0:Int)<=(j:Int):=by omega
     have hj1:(j:Int)<(bn:Int):=by omega
     have HU:=ae hu;clear hpq hrow hyn hb hgv hu;go_upto_region 11 with fail
     go_still_tail 13,(by kernel_rfl)
     have HO5:=ae (show OwnR ((wr2.drew.setCell ⟨G,b*2,none⟩ (.int .i64 p)).setCell ⟨G,b*2+1,none⟩ (.int .i64 q)) w1.heap.size (.slice (some ⟨G,0,none⟩) n1 p1) (solN t (j+1)) by
      have h1:=(HO4.out.ext (Ext.drew wr2)).set (k:=b) (by rw [HSL.out,<-HU.out];omega) p q;have h2:solN t (j+1)=(solN t j).set b (p,q):=by
       simp only [solN];rw [HB.out,Int.toNat_natCast,HCM.out,Int.toNat_natCast,HLR.out,<-HU.out,HPQ.out]
      rw [h2];exact h1)
     have HX5:=ae (((HX4.out.trans (Ext.drew wr2)).setCell (p:=⟨G,b*2,none⟩) hbG (.int .i64 p)).setCell (p:=⟨G,b*2+1,none⟩) hbG (.int .i64 q));clear hwr;go_wp2_with fail
     go_roundg (g2-1)
     case measure=>have:=HJ.out;omega
     case rel=>exact ⟨j+1,ae (by have:=HJ.out;omega),by go_num,HO5,HX5⟩
    ·have hjm:bn=j:=by have:=HJ.out;omega
     subst hjm;go_wp2_with fail;go_ret;exact ⟨⟨_,rfl,by rw [HSO.out];exact HO4.out.mono (by omega)⟩,(HX0.out.trans X1.out).trans HX4.out⟩
theorem ml {α β:Type} (f:α->β) {l:List α} {k:Nat} {d:α} (h:k<l.length):(l.take k).map f++[f (l[k]?.getD d)]=(l.take (k+1)).map f:=by
 rw [List.take_succ_eq_append_getElem h,List.map_append,List.getElem?_eq_getElem h];rfl
theorem cK {β:Type} (f:Nat->β) (k:Nat):(List.range k).map f++[f k]=(List.range (k+1)).map f:=by rw [List.range_succ];simp
theorem mY (m i:Nat):kj m i=(List.range m).map fun k=>if k=i then ((1:Int),(1:Int)) else (0,1):=rfl
section
variable {w:World} {a:Option Addr} {na ca:Nat} {b:Option Addr} {nb cb:Nat} {c:Option Addr} {nc cc:Nat} {A:List (List Int)} {B:List Int} {C:List (Int × Int)}
set_option maxHeartbeats 16000000 in
theorem ks (h:LpC w a na ca b nb cb c nc cc A B C) (ok:okLP A B C=true) :
 Calls Tryz.prog 248 #[lpW a na ca b nb cb c nc cc] w fun e w'=>(∃ va vb vs,e=.returned (.agg #[va,vb,.int .i64 (nc:Int)])/\OwnT w' w.heap.size va vb vs (bC A B nc))/\Ext w w':=by
 obtain ⟨r1,r2,r3,r4,r5,r6⟩:=cg h ok;subst r3;have hx0:=(Ext.alloc w (bm a nb ca b nb cb c nc cc)).trans (Ext.alloc _ (.cells #[.slice none 0 0,.slice none 0 0,.int .i64 0] 83));obtain ⟨W,hW⟩:∃ W,W=(w.alloc (bm a nb ca b nb cb c nc cc)).alloc (.cells #[.slice none 0 0,.slice none 0 0,.int .i64 0] 83):=⟨_,rfl⟩;rw [<-hW] at hx0;have HX0:=ae hx0;have H:=ae (h.ext hx0);have HV:=ae (dJ H.out);rw [ok] at HV;have HGB:=ae (show W.heap[w.heap.size+1]?=some (.cells #[.slice none 0 0,.slice none 0 0,.int .i64 0] 83 (0,0)) by rw [hW];exact aj _ _ _ (by simp));have HTB:=ae (show W.heap[w.heap.size]?=some (.cells #[.slice a nb ca,.slice b nb cb,.slice c nc cc] 109 (0,0)) by rw [hW,bz _ _ _ (by simp)];exact aj _ _ _ rfl);have HSW:=ae (show W.heap.size=w.heap.size+1+1 by rw [hW];simp);have ha1:=h.a.hcap;have ha2:=h.a.hmax;have hb1:=h.b.hcap;have hb2:=h.b.hmax;have hc1:=h.c.hcap;have hc2:=h.c.hmax;have HLA:=ae h.a.hlen;have HLB:=ae h.b.hlen;have HR4:=ae r4;have HR5:=ae r5;have HR6:=ae r6;clear h hx0 ok r4 r5 r6;go_enter Tryz.func248,Tryz.ntmps248
 go_upto_region 1 with fail;rw [<-hW];clear hW;have p0:=al HTB.out;have p1:=am HTB.out;have p2:=ap HTB.out;go_wp2_with fail;refine HV.out.mono ?_;rintro e w1 ⟨rfl,hx⟩;have X1:=ae hx;have H1:=ae (H.out.ext hx);clear hx p0 p1 p2;have P0:=ae (al (X1.out.blk HTB.out));have P1:=ae (am (X1.out.blk HTB.out));have P2:=ae (ap (X1.out.blk HTB.out));have p2:=P2.out;have hs1:w.heap.size+1+1<=w1.heap.size:=by have:=X1.out.size;have:=HSW.out;omega
 obtain ⟨E,hE⟩:∃ E,E=w1.alloc (.cells #[.slice none 0 0,.slice none 0 0,.int .i64 (nc:Int)] 83):=⟨_,rfl⟩;have XE:=ae (show Ext w1 E by rw [hE];exact Ext.alloc _ _)
 have HT0:=ae (show TbO E w1.heap.size w1.heap.size (.slice none 0 0) (.slice none 0 0) (nc:Int) [] [] [] by
  rw [hE];exact ⟨aj _ _ _ rfl,Nat.le_refl _,World.ownsRow_nil _ _ _ 1,cI.nil _ _,OwnI.nil _ _⟩)
 go_upto_region 4 with fail;rw [<-hE];clear hE p2;have p0:=XE.out.cellSome P0.out;go_wp2_with fail
 go_loopg [23] nb (fun gk ii wr=>∃ (k:Nat) (va vb:Value) (vs:List Value),Hid (gk+k=nb)/\ii=.int .i64 (k:Int)/\Hid (TbO wr w1.heap.size w1.heap.size va vb (nc:Int) vs ((List.range k).map (bZ A B)) ((List.range k).map fun i=>((nc+i:Nat):Int)))/\Hid (Ext w1 wr))
 case atStart=>exact ⟨0,_,_,_,ae (by omega),rfl,HT0,XE⟩
 case round =>
  obtain ⟨g1,h_g1⟩:∃ x,x=gk:=⟨_,rfl⟩;subst h_g1;obtain ⟨wr1,h_wr1⟩:∃ x,x=wr:=⟨_,rfl⟩;subst h_wr1;obtain ⟨k,va,vb,vs,HK,rfl,T,HX⟩:=hrel;clear p0;have hsr:=HX.out.size;by_cases hlt:k<nb
  ·obtain ⟨zb,zoff,ya,yn,yc,hza,hz0,hrow⟩:=(H1.out.ext HX.out).a.at hlt;subst hza;obtain rfl:yn=nc:=by rw [<-hrow.hlen];exact HR4.out k hlt
   have hy1:=hrow.hcap;have hy2:=hrow.hmax;obtain ⟨eb,eoff,hea,he0⟩:=H1.out.b.at hlt;subst hea;obtain ⟨bk,hbk⟩:∃ x,x=B[k]?.getD 0:=⟨_,rfl⟩;rw [<-hbk] at he0;have HE0:=ae he0;have HBK:=ae hbk;have hbb:-5000<=bk/\bk<=5000:=by
    rw [hbk,List.getElem?_eq_getElem (by rw [HLB.out];exact hlt)];exact HR6.out _ (List.getElem_mem _)
   obtain ⟨hbb0,hbb1⟩:=hbb;obtain ⟨sd,hsd⟩:∃ s,s=sideI bk:=⟨_,rfl⟩;have HSD:=ae hsd;have hsd0:(bk<0/\sd=-1) ∨ (¬ bk<0/\sd=1):=by rw [hsd];exact ev bk
   have hsb:-1<=sd/\sd<=1:=by omega
   obtain ⟨hsb0,hsb1⟩:=hsb;have p1:=HX.out.cellSome P1.out;have he1:=HX.out.cellSome HE0.out;have HROW:=ae hrow;clear hrow hbk hsd he0
   go_upto_if 33 with fail
   go_cut [6] (fun s6 wx=>s6=.int .i64 sd/\wr1=wx)
   case first =>
    rcases hsd0 with ⟨hneg,rfl⟩|⟨hneg,rfl⟩
    all_goals
     go_wp2_with fail;go_meet;exact ⟨rfl,rfl⟩
   obtain ⟨rfl,rfl⟩:=hcut;clear hsd0;have HO0:=ae (OwnR.made wr1 wr1.heap.size (Nat.le_refl _));go_wp2_with fail
   go_loopg [7,37] yn (fun gk oo ii wr=>∃ (j:Nat) (a1:Option Addr) (n1 q1:Nat),Hid (gk+j=yn)/\ii=.int .i64 (j:Int)/\oo=.slice a1 n1 q1/\Hid (OwnR wr wr1.heap.size (.slice a1 n1 q1) (((A[k]?.getD []).take j).map fun x=>(sd*x,(1:Int))))/\Hid (Ext wr1 wr))
   case atStart=>exact ⟨0,_,_,_,ae (by omega),rfl,rfl,HO0,ae (Ext.alloc _ _)⟩
   case round =>
    obtain ⟨g2,h_g2⟩:∃ x,x=gk:=⟨_,rfl⟩;subst h_g2;obtain ⟨wr2,h_wr2⟩:∃ x,x=wr:=⟨_,rfl⟩;subst h_wr2;obtain ⟨j,a1,n1,q1,HJ,rfl,rfl,HO1,HX1⟩:=hrel;clear p1 he1 hz0;by_cases hjl:j<yn
    ·obtain ⟨xb,xoff,hxa,hx0⟩:=(HROW.out.ext HX1.out).at hjl;subst hxa;obtain ⟨x,hx⟩:∃ x,x=(A[k]?.getD [])[j]?.getD 0:=⟨_,rfl⟩;rw [<-hx] at hx0;have HJL:=ae (show j<(A[k]?.getD []).length by rw [HR4.out k hlt];exact hjl);have hxb:-5000<=x/\x<=5000:=by
      rw [hx,List.getElem?_eq_getElem HJL.out];exact (HR5.out k hlt).2 _ (List.getElem_mem _)
     obtain ⟨hxb0,hxb1⟩:=hxb;have hm1:sd*x=x ∨ sd*x=-x ∨ sd*x=0:=by
      have:sd=-1 ∨ sd=0 ∨ sd=1:=by omega
      rcases this with h1|h1|h1 <;> subst h1 <;> omega
     have hm2:-5000<=sd*x/\sd*x<=5000:=by rcases hm1 with h1|h1|h1 <;> rw [h1] <;> omega
     obtain ⟨z,hz⟩:∃ z,z=sd*x:=⟨_,rfl⟩;have hwz2:wrap64 (sd*x)=z:=by rw [hz];unfold wrap64;omega
     have HSN:=ae (show ((A[k]?.getD []).take j).map (fun x=>(sd*x,(1:Int)))++[(z,1)]=((A[k]?.getD []).take (j+1)).map (fun x=>(sd*x,(1:Int))) by
      rw [hz,hx];exact ml (fun x=>(sd*x,(1:Int))) HJL.out)
     have HLL:=ae (show (((A[k]?.getD []).take j).map (fun x=>(sd*x,(1:Int)))).length=j by rw [List.length_map,List.length_take];have:=HJL.out;omega);clear hx hz hm1 hm2;go_wp2_with fail;rw [hwz2];clear hwz2;refine (cz z _).mono ?_;rintro e w3 ⟨rfl,hx⟩;have X3:=ae (HX1.out.trans hx);have HO3:=ae (HO1.out.ext hx);have hs3:=X3.out.size;clear hx
     go_wp2_with (first
      | (at_builtin;refine aJ rfl _ _ rfl wr1.heap.size (.slice a1 n1 q1) _ rfl (HO3.out.ext (Ext.alloc _ _)) _ 1 _ [(z,1)] rfl (Rats.one' _ _ _ _ _ (by simp)) (by rw [HLL.out];omega) (by simp;omega) ?_;intro v5 w5 ho hg hnear;have X5:=ae (aq (X3.out.trans (Ext.alloc _ _)) hg (fun j hj=>(HO3.out.lt j hj).1));obtain ⟨a5,n5,p5,rfl,HN5⟩:=ho.var;have HO5:=ae ho;clear ho hg hnear))
     go_roundg (g2-1)
     case measure=>have:=HJ.out;omega
     case rel=>exact ⟨j+1,a5,n5,p5,ae (by have:=HJ.out;omega),by go_num,rfl,ae (by rw [<-HSN.out];exact HO5.out),X5⟩
    ·have hjn:yn=j:=by have:=HJ.out;omega
     have HT2:=ae (show OwnR wr2 wr1.heap.size (.slice a1 n1 q1) ((A[k]?.getD []).map (fun x=>(sd*x,(1:Int)))) by
      have h1:=HO1.out
      rw [List.take_of_length_le (by rw [HR4.out k hlt];omega)] at h1;exact h1)
     have HLN:=ae (show ((A[k]?.getD []).map (fun x=>(sd*x,(1:Int)))).length=yn by rw [List.length_map];exact HR4.out k hlt);have p0:=(HX.out.trans HX1.out).cellSome P0.out;have HJN:=ae hjn;clear hjn;go_wp2_with fail
     go_loopg [7,52] nb (fun gk oo ii wr=>∃ (i:Nat) (a1:Option Addr) (n1 q1:Nat),Hid (gk+i=nb)/\ii=.int .i64 (i:Int)/\oo=.slice a1 n1 q1/\Hid (OwnR wr wr1.heap.size (.slice a1 n1 q1) ((A[k]?.getD []).map (fun x=>(sd*x,(1:Int)))++(List.range i).map fun i=>if i=k then ((1:Int),(1:Int)) else (0,1)))/\Hid (Ext wr1 wr))
     case atStart=>exact ⟨0,_,_,_,ae (by omega),rfl,rfl,ae (by simpa using HT2.out),HX1⟩
     case round =>
      obtain ⟨g3,h_g3⟩:∃ x,x=gk:=⟨_,rfl⟩;subst h_g3;obtain ⟨wr3,h_wr3⟩:∃ x,x=wr:=⟨_,rfl⟩;subst h_wr3;obtain ⟨i,a3,n3,q3,HI,rfl,rfl,HO3,HX3⟩:=hrel;clear p0;by_cases hil:i<nb
      ·have HLL:=ae (show ((A[k]?.getD []).map (fun x=>(sd*x,(1:Int)))++(List.range i).map fun i=>if i=k then ((1:Int),(1:Int)) else (0,1)).length=yn+i by rw [List.length_append,HLN.out];simp);obtain ⟨un,hun⟩:∃ u:Int,u=if i=k then 1 else 0:=⟨_,rfl⟩
       have HSN:=ae (show (List.range i).map (fun i=>if i=k then ((1:Int),(1:Int)) else (0,1))++[(un,1)]=(List.range (i+1)).map fun i=>if i=k then ((1:Int),(1:Int)) else (0,1) by
        rw [<-cK,hun];congr 2;split <;> rfl)
       have hik:((i:Int) == (k:Int))=decide (i=k):=by by_cases h:i=k <;> simp [h] <;> omega
       go_upto_if 57 with fail
       go_cut [11] (fun s11 wx=>s11=.int .i64 un/\wr3=wx)
       case first =>
        by_cases hikk:i=k
        ·have hu1:un=1:=by rw [hun,if_pos hikk]
         have hd:decide (i=k)=true:=decide_eq_true hikk;rw [hd];subst hu1;clear hun hikk hik hd;go_wp2_with fail;go_meet;exact ⟨rfl,rfl⟩
        ·have hu1:un=0:=by rw [hun,if_neg hikk]
         have hd:decide (i=k)=false:=decide_eq_false hikk;rw [hd];subst hu1;clear hun hikk hik hd;go_wp2_with fail;go_meet;exact ⟨rfl,rfl⟩
       obtain ⟨rfl,rfl⟩:=hcut;clear hun hik;go_wp2_with fail;refine (cz un _).mono ?_;rintro e w3 ⟨rfl,hx⟩;have X3:=ae (HX3.out.trans hx);have HO4:=ae (HO3.out.ext hx);have hs3:=X3.out.size;clear hx
       go_wp2_with (first
        | (at_builtin;refine aJ rfl _ _ rfl wr1.heap.size (.slice a3 n3 q3) _ rfl (HO4.out.ext (Ext.alloc _ _)) _ 1 _ [(un,1)] rfl (Rats.one' _ _ _ _ _ (by simp)) (by rw [HLL.out];omega) (by simp;omega) ?_;intro v5 w5 ho hg hnear;have X5:=ae (aq (X3.out.trans (Ext.alloc _ _)) hg (fun j hj=>(HO4.out.lt j hj).1));obtain ⟨a5,n5,p5,rfl,HN5⟩:=ho.var;have HO5:=ae ho;clear ho hg hnear))
       go_roundg (g3-1)
       case measure=>have:=HI.out;omega
       case rel=>exact ⟨i+1,a5,n5,p5,ae (by have:=HI.out;omega),by go_num,rfl,ae (by have:=HO5.out;rw [List.append_assoc,HSN.out] at this;exact this),X5⟩
      ·have hin:i=nb:=by have:=HI.out;omega
       subst hin;obtain ⟨z2,hz2⟩:∃ z,z=sd*bk:=⟨_,rfl⟩;have hm1:sd*bk=bk ∨ sd*bk=-bk ∨ sd*bk=0:=by
        have:sd=-1 ∨ sd=0 ∨ sd=1:=by omega
        rcases this with h1|h1|h1 <;> subst h1 <;> omega
       have hwr:IntKind.i64.wrap (sd*bk)=z2:=by
        rw [IntKind.wrap_i64,hz2];rcases hm1 with h1|h1|h1 <;> rw [h1] <;> omega
       have HRE:=ae (show ((A[k]?.getD []).map (fun x=>(sd*x,(1:Int)))++(List.range i).map fun i=>if i=k then ((1:Int),(1:Int)) else (0,1))++[(z2,1)]=bZ A B k by
        unfold bZ;rw [<-HBK.out,<-HSD.out,hz2,HLA.out,mY])
       have HLL:=ae (show ((A[k]?.getD []).map (fun x=>(sd*x,(1:Int)))++(List.range i).map fun i=>if i=k then ((1:Int),(1:Int)) else (0,1)).length=yn+i by rw [List.length_append,HLN.out];simp);have HVL:=ae (show vs.length=k by rw [T.out.rows.len];simp);have t0:=al T.out.box;have p1:=HX.out.cellSome P1.out;have he1:=HX.out.cellSome HE0.out;have hk0:(0:Int)<=(k:Int):=by omega
       have hk1:(k:Int)<(i:Int):=by omega
       clear hz2 hm1;go_upto_region 24 with fail;have hk3:Ext wr3 wr3.drew:=Ext.drew wr3;have hk2:Ext wr1 wr3.drew:=HX3.out.trans hk3;have HKEEP:=ae (fun (w':World) (h:Ext wr1 w')=>(⟨h.cellSome t0,h.cellSome p1,h.cellSome he1,HX.out.trans h⟩:w'.cell? ⟨w1.heap.size,0,none⟩=some va/\w'.cell? ⟨w.heap.size,1,none⟩=some (.slice (some ⟨eb,eoff,none⟩) i cb)/\w'.cell? ⟨eb,eoff+k,none⟩=some (.int .i64 bk)/\Ext w1 w'));refine ci (M:=[16]) (S:=fun w'=>w'.cell? ⟨w1.heap.size,0,none⟩=some va/\w'.cell? ⟨w.heap.size,1,none⟩=some (.slice (some ⟨eb,eoff,none⟩) i cb)/\w'.cell? ⟨eb,eoff+k,none⟩=some (.int .i64 bk)/\Ext w1 w') (by kernel_rfl) ?_;have hHeld:=HKEEP.out _ hk2;refine lp 0 ?_;refine ll 1 ?_;refine lp 2 ?_;refine lp 3 ?_;refine lp 4 ?_;refine ll 5 ?_;refine lp 6 ?_;refine lp 7 ?_;refine ll 8 ?_;refine lp 9 ?_;refine aG (i:=10) (oi:=?_) ?_ ?_ ?_ (fun K hK=>?_);rotate_left
       ·simp only [gA,gB,gC];rfl
       ·kernel_rfl
       ·kernel_rfl
       go_simp;go_at_call 112;refine (cz _ _).mono ?_;rintro e w5 ⟨rfl,hx5⟩;have hk3:Ext wr3 w5:=hk3.trans hx5;have hk2:Ext wr1 w5:=hk2.trans hx5;have hs5:=hk2.size;go_wp2_with fail;refine hK.out _ _ (fun _=>HKEEP.out _ hk2) ?_;have hHeld:=HKEEP.out _ hk2;clear hK K
       try simp only [Act.put,sA,sB,sC]
       refine aG (i:=11) (oi:=?_) ?_ ?_ ?_ (fun K hK=>?_);rotate_left
       ·simp only [gA,gB,gC];rfl
       ·kernel_rfl
       ·kernel_rfl
       go_simp;refine hK.out _ _ (fun _=>HKEEP.out _ (hk2.trans (Ext.alloc _ _))) ?_;clear hK K
       try simp only [Act.put,sA,sB,sC]
       refine aG (i:=12) (oi:=?_) ?_ ?_ ?_ (fun K hK=>?_);rotate_left
       ·simp only [gA,gB,gC];rfl
       ·kernel_rfl
       ·kernel_rfl
       refine dd _ _ (by rfl) wr1.heap.size (.slice a3 n3 q3) _ (by rfl) ((HO3.out.ext hk3).ext (Ext.alloc _ _)) _ 1 _ [(z2,1)] (by rfl) (Rats.one' _ _ _ _ _ rfl) (by rw [HLL.out];omega) (by simp;omega) ?_;intro v6 w6 ho hg hnear;obtain ⟨a6,n6,q6,rfl,HN6⟩:=ho.var;have HO6:=ae ho;have hk6:Ext wr1 w6:=aq (hk2.trans (Ext.alloc _ _)) hg (fun j hj=>(HO3.out.lt j hj).1);have hs6:=hk6.size;clear ho hg hnear;refine hK.out _ _ (fun _=>HKEEP.out _ hk6) ?_;have hHeld:=HKEEP.out _ hk6;clear hK K
       try simp only [Act.put,sA,sB,sC]
       refine aG (i:=13) (oi:=?_) ?_ ?_ ?_ (fun K hK=>?_);rotate_left
       ·simp only [gA,gB,gC];rfl
       ·kernel_rfl
       ·kernel_rfl
       go_simp;refine hK.out _ _ (fun _=>HKEEP.out _ (hk6.trans (Ext.alloc _ _))) ?_;clear hK K
       try simp only [Act.put,sA,sB,sC]
       refine aG (i:=14) (oi:=?_) ?_ ?_ ?_ (fun K hK=>?_);rotate_left
       ·simp only [gA,gB,gC];rfl
       ·kernel_rfl
       ·kernel_rfl
       refine dB _ _ (by rfl) w1.heap.size va vs (by rfl) ((T.out.a.ext hk6).ext (Ext.alloc _ _)) _ _ 1 (by rfl) (by simp;rfl) rfl (by rw [HVL.out];omega) (by simp;omega) ?_;intro v7 w7 ho hg hnear;obtain ⟨a7,n7,q7,rfl,HN7⟩:=ho.var;have HO7:=ae ho;have HG7:=ae hg;have hbx:=T.out.boxA (hk6.trans (Ext.alloc _ _)) hg;have c07:=al hbx;have cf7:=bK hbx;have hX7:Ext w1 w7:=aq ((HX.out.trans hk6).trans (Ext.alloc _ _)) hg (fun j hj=>(T.out.a.lt j hj).1);clear ho hg hnear hbx;refine hK.out _ _ (fun _=>And.intro c07 (And.intro (hX7.cellSome P1.out) (And.intro (hX7.cellSome HE0.out) hX7))) ?_;have hHeld:=And.intro c07 (And.intro (hX7.cellSome P1.out) (And.intro (hX7.cellSome HE0.out) hX7));clear hK K
       try simp only [Act.put,sA,sB,sC]
       refine lp 15 ?_;refine cq (i:=16) (oi:=?_) (w':=?_) ?_ ?_ ?_ ?_ ?_ ?_ ?_;rotate_left 2
       ·simp only [gA,gB,gC];rfl
       ·kernel_rfl
       ·kernel_rfl
       ·exact of_decide_eq_true (by kernel_rfl)
       ·rfl
       ·go_simp;(try with_reducible rfl)
       try simp only [Act.put,sA,sB,sC]
       refine cv (by kernel_rfl) ?_ _;have HT8:=ae (T.out.pushA (hk6.trans (Ext.alloc _ _)) (HO6.out.ext (Ext.alloc _ _)) hsr HG7.out HO7.out);have HX8:=ae (hX7.setCell (p:=⟨w1.heap.size,0,none⟩) (Nat.le_refl _) (.slice a7 n7 q7));obtain ⟨W8,hW8⟩:∃ x,x=w7.setCell ⟨w1.heap.size,0,none⟩ (.slice a7 n7 q7):=⟨_,rfl⟩;rw [<-hW8] at HT8 HX8;go_upto_region 25 with fail;rw [<-hW8];clear hW8 c07 cf7 hHeld;have b1:=am HT8.out.box;have b2:=ap HT8.out.box;have bf:=bK HT8.out.box;have hl8:=lt_of_block HT8.out.box;have HVB:=ae (show ((List.range k).map fun i=>((yn+i:Nat):Int)).length=k by simp)
       go_wp2_with (first
        | (at_builtin;refine bw rfl _ _ rfl w1.heap.size vb _ rfl (HT8.out.b.ext (Ext.alloc _ _)) _ 1 _ [(yn:Int)+(k:Int)] rfl (Ints.oneS _ _ _ _ (by simp)) (by rw [HVB.out];omega) (by simp;omega) ?_;intro v9 w9 ho hg hnear;obtain ⟨a9,n9,q9,rfl,HN9⟩:=ho.var;have HO9:=ae ho;have HG9:=ae hg;have hbx:=HT8.out.boxB (Ext.alloc _ _) hg;have c09:=am hbx;have cf9:=bK hbx;have hX9:Ext w1 w9:=aq (Ext.trans HX8.out (Ext.alloc _ _)) hg (fun j hj=>(HT8.out.b.lt j hj).1);clear ho hg hnear hbx))
       have HT9:=ae (HT8.out.pushB (Ext.alloc _ _) HG9.out HO9.out);have HXN:=ae (hX9.setCell (p:=⟨w1.heap.size,1,none⟩) (Nat.le_refl _) (.slice a9 n9 q9))
       go_roundg (g1-1)
       case measure=>have:=HK.out;omega
       case rel=>exact ⟨k+1,_,_,_,ae (by have:=HK.out;omega),by go_num,ae (by
        have h1:=HT9.out;rw [HRE.out,cK] at h1;have h2:((List.range k).map fun i=>((yn+i:Nat):Int))++[(yn:Int)+(k:Int)]=(List.range (k+1)).map fun i=>((yn+i:Nat):Int):=by
         rw [<-cK];simp
        rw [h2] at h1
        exact h1),HXN⟩
  ·have hkn:nb=k:=by have:=HK.out;omega
   subst hkn;have HTN:=ae (show OwnT wr1 w1.heap.size va vb vs (bC A B nc) by have:=T.out.own;unfold bC;rw [HLA.out];exact this);have t0:=al T.out.box;have t1:=am T.out.box;have t2:=ap T.out.box;obtain ⟨a7,n7,c7,rfl,HN7⟩:=T.out.a.var;obtain ⟨a8,n8,c8,rfl,HN8⟩:=T.out.b.var;have xw:=X1.out.trans HX.out;have r0:=al (xw.blk HGB.out);have r1:=am (xw.blk HGB.out);have r2:=ap (xw.blk HGB.out);have rf:=bK (xw.blk HGB.out);have XW:=ae xw;clear xw;go_wp2_with fail;refine bodyPost_ret (v:=.agg #[.slice a7 n7 c7,.slice a8 n8 c8,.int .i64 (nc:Int)]) (by simp [results,Tryz.results248,go_sem,r0,r1,r2,rf]) rfl ⟨⟨_,_,vs,rfl,?_⟩,(HX0.out.trans XW.out).set3 (Nat.le_succ _) _ _ _⟩;exact (HTN.out.keepAll fun k hk=>aV _ _ _ _ _ _ (by omega)).mono (by omega)
end
end Go.Proofs.YthjjfkeacobikaaGreat
namespace Go.Proofs.YthjjfkeacobikaaGreat
open Go.RowKit
theorem dT (n:Nat) (s:Tb × Nat) (k:Nat):aY n s (k+1)=(aY n s k).bind fun s'=>fd n s' k:=rfl
section
variable {n:Nat} {s:Tb × Nat} {k:Nat} {tt:Tb} {lf:Nat}
theorem jF (h:aY n s k=some (tt,lf)) (hb:tt.basis[k]?.getD 0<n):aY n s (k+1)=some (tt,lf):=by
 rw [dT,h,Option.bind_some];unfold fd;rw [if_pos hb]
theorem jE (h:aY n s k=some (tt,lf)) (hb:¬ tt.basis[k]?.getD 0<n) (ha:((tt.row k).take n).all (fun c=>!offZ c)=true):aY n s (k+1)=some (tt,lf):=by
 rw [dT,h,Option.bind_some];unfold fd;rw [if_neg hb];simp only;rw [dw ha,if_pos (by omega)]
theorem ph (h:aY n s k=some (tt,lf)) (hb:¬ tt.basis[k]?.getD 0<n) {j:Nat} (hj:j<n) (hl:j<(tt.row k).length) (h0:((tt.row k).take j).all (fun c=>!offZ c)=true) (h1:offZ ((tt.row k)[j]?.getD (0,0))=true) (hlf:lf<=1000) :
 aY n s (k+1)=(pivS tt (1000-lf) k j).map fun x=>(x.1,1000-x.2):=by
 have hi:bT offZ ((tt.row k).take n)=j:=by
  refine ee (d:=(0,0)) (by simp;omega) (by rw [List.take_take,Nat.min_eq_left (by omega)];exact h0) ?_;rw [List.getElem?_take_of_lt hj];exact h1
 rw [dT,h,Option.bind_some];unfold fd;rw [if_neg hb];simp only;rw [hi,if_neg (by omega)];unfold pivS;cases lf with
 | zero=>rw [if_pos (by omega)];rfl
 | succ f =>
   rw [if_neg (by omega)];simp only;cases aQ tt k j with
   | none=>rfl
   | some t'=>simp only [Option.map_some];congr 2;omega
theorem jD (h:aY n s k=some (tt,lf)) (hb:¬ tt.basis[k]?.getD 0<n) {j:Nat} (hj:j<n) (hl:j<(tt.row k).length) (h0:((tt.row k).take j).all (fun c=>!offZ c)=true) (h1:offZ ((tt.row k)[j]?.getD (0,0))=true) (hlf:lf<=1000) :
 ((aY n s (k+1)).map fun x=>(x.1,1000-x.2))=pivS tt (1000-lf) k j:=by
 rw [ph h hb hj hl h0 h1 hlf];unfold pivS
 split
 ·rfl
 ·next hn =>
  cases aQ tt k j with
  | none=>rfl
  | some t'=>simp only [Option.map_some];congr 2;omega
theorem im (h:aY n s k=none):∀ {m:Nat},k<=m->aY n s m=none:=by
 intro m hm;obtain ⟨d,rfl⟩:∃ d,m=k+d:=⟨m-k,by omega⟩;clear hm
 induction d with
 | zero=>exact h
 | succ d ih=>rw [show k+(d+1)=(k+d)+1 by omega,dT,ih];rfl
end
theorem Left.more {S:Nat} {a b c:World} {o:Option (Tb × Nat)} (hx:Ext a b) (h:Left S b c o):Left S a c o:=⟨(Mod.of hx).trans h.1,h.2⟩
theorem ld {l:List (Int × Int)} {j:Nat} {p:Int × Int} (hj:j<l.length) (hp:l[j]?.getD (0,0)=p) (h0:(l.take j).all (fun c=>!offZ c)=true) (h1:offZ p=false):(l.take (j+1)).all (fun c=>!offZ c)=true:=by
 rw [eo hj,List.all_append,h0,hp];simp [h1]
theorem offZ_eq (p q:Int):offZ (p,q)=!((p == 0)&&(q == 1)):=by unfold offZ;rw [Bool.eq_iff_iff];simp
theorem fK (cs:List (Int × Int)) (m:Nat):aZ cs m=-1 ∨ ∃ j:Nat,aZ cs m=j/\j<m:=by
 unfold aZ
 split
 ·exact Or.inl rfl
 ·unfold bT
  split
  ·next i hi =>
   right
   refine ⟨i,rfl,?_⟩;have:=(List.findIdx?_eq_some_iff_getElem.1 hi).1;rw [List.length_take] at this;omega
  ·exact Or.inl rfl
theorem lh {n m:Nat} {T0:Nat->Nat->Rat} {cost:List (Int × Int)}:∀ {f:Nat} {t:Tb} {p:Ph},TInv n m T0 t->aO cost f t=some p->p.col=-1 ∨ ∃ j:Nat,p.col=j/\j<n:=by
 intro f
 induction f with
 | zero =>
   intro t p ht h;unfold aO at h;cases hc:bX t cost with
   | none=>rw [hc] at h;cases h
   | some cs =>
     rw [hc] at h;simp only at h
     split at h
     ·cases h;exact Or.inl rfl
     ·split at h
      ·cases h;rw [ht.cols];exact fK cs n
      ·cases h
 | succ f ih =>
   intro t p ht h;unfold aO at h;cases hc:bX t cost with
   | none=>rw [hc] at h;cases h
   | some cs =>
     rw [hc] at h;simp only at h
     split at h
     ·cases h;exact Or.inl rfl
     ·split at h
      ·cases h;rw [ht.cols];exact fK cs n
      ·cases hp:aQ t (cj t (aZ cs t.cols)) (aZ cs t.cols) with
       | none=>rw [hp] at h;cases h
       | some t'=>rw [hp] at h;exact ih (dQ ht hp) h
theorem jk {t:Tb} {n col k:Nat} (h:t.basis[k]?.getD 0<n):rayN t n col (k+1)=(rayN t n col k).set (t.basis[k]?.getD 0).toNat (negR (t.at k col)):=by simp only [rayN];rw [if_pos h]
theorem kB {t:Tb} {n col k:Nat} (h:¬ t.basis[k]?.getD 0<n):rayN t n col (k+1)=rayN t n col k:=by simp only [rayN];rw [if_neg h]
theorem fQ (t:Tb) (n col:Nat):∀ k,(rayN t n col k).length=n
 | 0=>by simp [rayN]
 | k+1=>by
   by_cases h:t.basis[k]?.getD 0<n
   ·rw [jk h,List.length_set];exact fQ t n col k
   ·rw [kB h];exact fQ t n col k
theorem pY (t:Tb) (n col:Nat):rayN t n col 0=(List.replicate n ((0:Int),(1:Int))).set col (1,1):=by
 simp only [rayN]
 apply List.ext_getElem
 ·simp
 ·intro i h1 h2;rw [List.getElem_set];simp only [List.getElem_map,List.getElem_range,List.getElem_replicate];by_cases h:i=col
  ·rw [if_pos h,if_pos h.symm]
  ·rw [if_neg h,if_neg (fun e=>h e.symm)]
theorem Rats.take {w:World} {a:Option Addr} {n cap:Nat} {l:List (Int × Int)} (h:Rats w a n cap l) {k:Nat} (hk:k<=n):Rats w a k cap (l.take k) :=
 ⟨by rw [List.length_take,h.hlen];omega,Nat.le_trans hk h.hcap,h.hmax,fun j hj=>by
  obtain ⟨b,off,e,hc⟩:=h.cell j (by omega);refine ⟨b,off,e,fun i hi=>?_⟩;rw [List.getElem?_take_of_lt hi]
  exact hc i (by omega)⟩
structure LrB (w W:World) (g:Nat) (s:Int) (vx vy vr:Value) (p q piv:Int):Prop where
 ext:Ext w W
 hg:w.heap.size<=g
 box:W.heap[g]?=some (.cells #[.int .i64 s,vx,vy,vr,.int .i64 p,.int .i64 q,.int .i64 piv] 113 (0,0))
abbrev lrZ:Obj:=.cells #[.int .i64 0,.slice none 0 0,.slice none 0 0,.slice none 0 0,.int .i64 0,.int .i64 0,.int .i64 0] 113
theorem LrB.new {w W:World} (h:Ext w W):LrB w (W.alloc lrZ) W.heap.size 0 (.slice none 0 0) (.slice none 0 0) (.slice none 0 0) 0 0 0:=⟨h.trans (Ext.alloc _ _),h.size,aj _ _ _ rfl⟩
theorem LrB.grow {w W W':World} {g:Nat} {s:Int} {vx vy vr:Value} {p q piv:Int} (h:LrB w W g s vx vy vr p q piv) (hx:Ext W W'):LrB w W' g s vx vy vr p q piv:=⟨h.ext.trans hx,h.hg,(hx.block _ (lt_of_block h.box)).trans h.box⟩
theorem LrB.put {w W:World} {g:Nat} {s:Int} {vx vy vr:Value} {p q piv:Int} (h:LrB w W g s vx vy vr p q piv) (s':Int) (vx' vy' vr':Value) (p' q' piv':Int) :
 LrB w (((((((W.setCell ⟨g,0,none⟩ (.int .i64 s')).setCell ⟨g,1,none⟩ vx').setCell ⟨g,2,none⟩ vy').setCell ⟨g,3,none⟩ vr').setCell ⟨g,4,none⟩ (.int .i64 p')).setCell ⟨g,5,none⟩ (.int .i64 q')).setCell ⟨g,6,none⟩ (.int .i64 piv')) g s' vx' vy' vr' p' q' piv':=by
 refine ⟨((((((h.ext.setCell (p:=⟨g,0,none⟩) h.hg _).setCell (p:=⟨g,1,none⟩) h.hg _).setCell (p:=⟨g,2,none⟩) h.hg _).setCell (p:=⟨g,3,none⟩) h.hg _).setCell (p:=⟨g,4,none⟩) h.hg _).setCell (p:=⟨g,5,none⟩) h.hg _).setCell (p:=⟨g,6,none⟩) h.hg _,h.hg,?_⟩;have b0:=heap_setCell_same W g 0 _ _ (.int .i64 s') h.box;have b1:=heap_setCell_same _ g 1 _ _ vx' b0;have b2:=heap_setCell_same _ g 2 _ _ vy' b1;have b3:=heap_setCell_same _ g 3 _ _ vr' b2;have b4:=heap_setCell_same _ g 4 _ _ (.int .i64 p') b3;have b5:=heap_setCell_same _ g 5 _ _ (.int .i64 q') b4;have b6:=heap_setCell_same _ g 6 _ _ (.int .i64 piv') b5;rw [b6];rfl
section
variable {w W:World} {g:Nat} {s:Int} {vx vy vr:Value} {p q piv:Int}
theorem LrB.c0 (h:LrB w W g s vx vy vr p q piv):W.cell? ⟨g,0,none⟩=some (.int .i64 s):=by rw [cell_of_row W g _ _ _ _ h.box];rfl
theorem LrB.c1 (h:LrB w W g s vx vy vr p q piv):W.cell? ⟨g,1,none⟩=some vx:=by rw [cell_of_row W g _ _ _ _ h.box];rfl
theorem LrB.c2 (h:LrB w W g s vx vy vr p q piv):W.cell? ⟨g,2,none⟩=some vy:=by rw [cell_of_row W g _ _ _ _ h.box];rfl
theorem LrB.c3 (h:LrB w W g s vx vy vr p q piv):W.cell? ⟨g,3,none⟩=some vr:=by rw [cell_of_row W g _ _ _ _ h.box];rfl
theorem LrB.c4 (h:LrB w W g s vx vy vr p q piv):W.cell? ⟨g,4,none⟩=some (.int .i64 p):=by rw [cell_of_row W g _ _ _ _ h.box];rfl
theorem LrB.c5 (h:LrB w W g s vx vy vr p q piv):W.cell? ⟨g,5,none⟩=some (.int .i64 q):=by rw [cell_of_row W g _ _ _ _ h.box];rfl
theorem LrB.c6 (h:LrB w W g s vx vy vr p q piv):W.cell? ⟨g,6,none⟩=some (.int .i64 piv):=by rw [cell_of_row W g _ _ _ _ h.box];rfl
theorem LrB.free (h:LrB w W g s vx vy vr p q piv) (k:Nat):W.frozen? ⟨g,k,none⟩=false:=frozen_of_row W g k _ _ h.box
end
theorem LrB.firstD {w w':World} (h:Ext (w.alloc lrZ).drew w'):LrB w w' w.heap.size 0 (.slice none 0 0) (.slice none 0 0) (.slice none 0 0) 0 0 0 :=
 LrB.grow ⟨(Ext.alloc _ _).trans (Ext.drew _),Nat.le_refl _,heap_alloc_new w _⟩ h
theorem OwnI.mod {w w':World} {S b:Nat} {v:Value} {l:List Int} (h:OwnI w b v l) (hm:Mod S w w') {c:Array Value} {z:Nat × Nat} (hb:w.heap[S]?=some (.cells c 215 z)):OwnI w' b v l :=
 h.keep fun k hk=>hm.block k (h.lt k hk).2 fun e=>(an h hb (by decide)) (by rw [hk,e])
theorem OwnR.onRats {w:World} {base b:Nat} {a:Option Addr} {n cap:Nat} {l:List (Int × Int)} (h:OwnR w b (.slice a n cap) l) (hb:base<=b):On base w (fun W=>Rats W a n cap l) :=
 fun w2 h2=>(h.keep fun k hk=>h2 k (Nat.le_trans hb (h.lt k hk).1) (h.lt k hk).2).rats
theorem OwnR.onTake {w:World} {base b:Nat} {a:Option Addr} {n cap:Nat} {l:List (Int × Int)} (h:OwnR w b (.slice a n cap) l) (hb:base<=b) {k:Nat} (hk:k<=n):On base w (fun W=>Rats W a k cap (l.take k)) :=
 fun w2 h2=>(h.onRats hb w2 h2).take hk
theorem Rats.nilR (w:World):Rats w none 0 0 []:=⟨rfl,Nat.le_refl _,by omega,fun k hk=>absurd hk (by omega)⟩
structure LrOw (w:World) (base:Nat) (xa:Option Addr) (xn xc:Nat) (ya:Option Addr) (yn yc:Nat) (ra:Option Addr) (rn rc:Nat) (r:LpR):Prop where
 x:On base w fun W=>Rats W xa xn xc r.X
 y:On base w fun W=>Rats W ya yn yc r.Y
 ray:On base w fun W=>Rats W ra rn rc r.ray
theorem LrOw.here {w:World} {base:Nat} {xa:Option Addr} {xn xc:Nat} {ya:Option Addr} {yn yc:Nat} {ra:Option Addr} {rn rc:Nat} {r:LpR} (h:LrOw w base xa xn xc ya yn yc ra rn rc r):LrC w xa xn xc ya yn yc ra rn rc r:=⟨h.x.here,h.y.here,h.ray.here⟩
theorem LrOw.ext {w w':World} {base:Nat} {xa:Option Addr} {xn xc:Nat} {ya:Option Addr} {yn yc:Nat} {ra:Option Addr} {rn rc:Nat} {r:LpR} (h:LrOw w base xa xn xc ya yn yc ra rn rc r) (hx:Ext w w'):LrOw w' base xa xn xc ya yn yc ra rn rc r:=⟨h.x.ext hx,h.y.ext hx,h.ray.ext hx⟩
theorem LrOw.keep {w w':World} {base:Nat} {xa:Option Addr} {xn xc:Nat} {ya:Option Addr} {yn yc:Nat} {ra:Option Addr} {rn rc:Nat} {r:LpR} (h:LrOw w base xa xn xc ya yn yc ra rn rc r) (hs:w.heap.size<=w'.heap.size) (hk:∀ k,base<=k->k<w.heap.size->w'.heap[k]?=w.heap[k]?):LrOw w' base xa xn xc ya yn yc ra rn rc r :=
 ⟨h.x.keep hs hk,h.y.keep hs hk,h.ray.keep hs hk⟩
theorem LrOw.mono {w:World} {base base':Nat} {xa:Option Addr} {xn xc:Nat} {ya:Option Addr} {yn yc:Nat} {ra:Option Addr} {rn rc:Nat} {r:LpR} (h:LrOw w base xa xn xc ya yn yc ra rn rc r) (hb:base'<=base):LrOw w base' xa xn xc ya yn yc ra rn rc r:=⟨h.x.mono hb,h.y.mono hb,h.ray.mono hb⟩
theorem LrOw.zero (w:World) (base:Nat) (s:Int):LrOw w base none 0 0 none 0 0 none 0 0 (aL s):=⟨fun w _=>Rats.nilR w,fun w _=>Rats.nilR w,fun w _=>Rats.nilR w⟩
end Go.Proofs.YthjjfkeacobikaaGreat
