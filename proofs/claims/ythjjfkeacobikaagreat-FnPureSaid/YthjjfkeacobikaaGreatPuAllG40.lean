import Derived.Test.YthjjfkeacobikaaGreatPuAllG37
import Derived.Deep.CutBlock
set_option linter.unusedVariables false
set_option linter.unusedSimpArgs false
namespace Go.Proofs.YthjjfkeacobikaaGreat
set_option maxRecDepth 100000
open Go.RowKit
theorem offZ_num {p q:Int} (h:valR (p,q)=true):offZ (p,q)=decide (p ≠ 0):=by
 have hb:=bh h;unfold offZ;by_cases hp:p=0
 ·subst hp;have hg:gI 0 q=1:=by
   simp only [valR,Bool.and_eq_true,decide_eq_true_eq] at h;exact h.2.2
  have hq:q=1:=by
   unfold gI at hg;have:Int.gcd 0 q=q.natAbs:=by simp [Int.gcd]
   rw [this] at hg;simp only at hb;omega
  subst hq;simp
 ·rw [decide_eq_true hp,decide_eq_true];intro e;exact hp (congrArg Prod.fst e)
theorem ez.more {S:Nat} {a:Option Addr} {na ca:Nat} {b:Option Addr} {nb cb:Nat} {c:Option Addr} {nc cc:Nat} {u v w:World} {o:Option (Tb × Nat)} (hx:Ext u v) (h:ez S a na ca b nb cb c nc cc v w o):ez S a na ca b nb cb c nc cc u w o:=⟨(Mod.of hx).trans h.1,h.2⟩
theorem ot {N:Nat} {s0:Tb × Nat} {k:Nat} {tt t':Tb} {lf f':Nat} (h':aY N s0 (k+1)=some (t',f')) (h:aY N s0 k=some (tt,lf)) (hl:lf<=1000):f'<=1000:=by
 rw [dT,h,Option.bind_some] at h';unfold fd at h'
 split at h'
 ·cases h';exact hl
 ·split at h'
  ·cases h';exact hl
  ·split at h'
   ·cases h'
   ·next f e =>
    rw [Option.map_eq_some_iff] at h';obtain ⟨x,_,hx⟩:=h';simp only [Prod.mk.injEq] at hx;simp only at e;omega
theorem ou {n m:Nat} {T0:Nat->Nat->Rat} {N:Nat} {s0:Tb × Nat} {k:Nat} {tt t':Tb} {lf f':Nat} (hT:TInv n m T0 tt) (h:aY N s0 k=some (tt,lf)) (h':aY N s0 (k+1)=some (t',f')):TInv n m T0 t':=by
 rw [dT,h,Option.bind_some] at h';unfold fd at h'
 split at h'
 ·cases h';exact hT
 ·split at h'
  ·cases h';exact hT
  ·split at h'
   ·cases h'
   ·rw [Option.map_eq_some_iff] at h';obtain ⟨x,hx,he⟩:=h';simp only [Prod.mk.injEq] at he;obtain ⟨rfl,_⟩:=he;exact dQ hT hx
section
variable {w:World} {S:Nat} {a:Option Addr} {na ca:Nat} {b:Option Addr} {nb cb:Nat} {c:Option Addr} {nc cc:Nat} {ra:Option Addr} {rc:Nat} {ba:Option Addr} {bc:Nat} {vs:List Value} {t:Tb} {n:Nat} {N m:Nat} {T0:Nat->Nat->Rat}
theorem ez.some {w w':World} {rn bn:Nat} {tt:Tb} {nn:Nat} (hm:Mod S w w') (h:bD w' S a na ca b nb cb c nc cc ra rn rc ba bn bc vs tt nn false) (hn:nn<=1000):ez S a na ca b nb cb c nc cc w w' ((some (tt,1000-nn)).map fun x=>(x.1,1000-x.2)) :=
 ⟨hm,ra,rn,rc,ba,bn,bc,vs,by show bD _ _ _ _ _ _ _ _ _ _ _ _ _ _ _ _ _ _ _ (1000-(1000-nn)) _;rw [show 1000-(1000-nn)=nn by omega];exact h⟩
structure HeadD (w wr:World) (S:Nat) (a:Option Addr) (na ca:Nat) (b:Option Addr) (nb cb:Nat) (c:Option Addr) (nc cc:Nat) (N m:Nat) (T0:Nat->Nat->Rat) (s0:Tb × Nat) (k:Nat) (nn:Nat) (f:Bool) (tt:Tb) (ra:Option Addr) (rn rc:Nat) (ba:Option Addr) (bn bc:Nat) (vs:List Value):Prop where
 mod:Mod S w wr
 st:bD wr S a na ca b nb cb c nc cc ra rn rc ba bn bc vs tt nn f
 go:f=false->aY N s0 k=some (tt,1000-nn)/\nn<=1000/\TInv N m T0 tt/\rn=m/\bn=m
 no:f=true->aY N s0 k=none
set_option maxHeartbeats 16000000 in
theorem qo (h:bD w S a na ca b nb cb c nc cc ra m rc ba m bc vs t n false) (hT:TInv N m T0 t) (hN:N<=1000) (hm:m<=1000) (hn:n<=1000) :
 Calls Tryz.prog 227 #[.pointer (some ⟨S,0,none⟩)] w fun e w'=>e=.returned (.tuple #[])/\ez S a na ca b nb cb c nc cc w w' ((aY N (t,1000-n) m).map fun x=>(x.1,1000-x.2)):=by
 have H0:=ae (show HeadD w w S a na ca b nb cb c nc cc N m T0 (t,1000-n) 0 n false t ra m rc ba m bc vs from ⟨Mod.refl _ _,h,fun _=>⟨rfl,hn,hT,rfl,rfl⟩,fun e=>by cases e⟩);have hlt:=lt_of_block h.box;clear h hT;go_enter Tryz.func227,Tryz.ntmps227
 go_wp2_with fail
 go_loopg [2] m (fun gk ii wr=>∃ (k nn:Nat) (f:Bool) (tt:Tb) (ra:Option Addr) (rn rc:Nat) (ba:Option Addr) (bn bc:Nat) (vs:List Value),Hid (gk+k=m)/\ii=.int .i64 (k:Int)/\Hid (HeadD w wr S a na ca b nb cb c nc cc N m T0 (t,1000-n) k nn f tt ra rn rc ba bn bc vs))
 case atStart=>exact ⟨0,n,false,t,_,_,_,_,_,_,_,ae (by omega),rfl,H0⟩
 case round =>
  obtain ⟨g1,h_g1⟩:∃ x,x=gk:=⟨_,rfl⟩;subst h_g1;obtain ⟨wr1,h_wr1⟩:∃ x,x=wr:=⟨_,rfl⟩;subst h_wr1;obtain ⟨k,nn,f,tt,ra,rn,rc,ba,bn,bc,vs,HK,rfl,HH⟩:=hrel;clear H0;obtain ⟨l0,l1,l2,c0,c1,c2,c3,c4,cf⟩:=HH.out.st.cells;have hl1:=lt_of_block HH.out.st.box;have hs1:=HH.out.mod.size;have hkm:=HK.out;cases f
  ·obtain ⟨hd,hn1,hTT,hrn,hbn⟩:=HH.out.go rfl;subst hrn;subst hbn;have HD:=ae hd;have HT:=ae hTT;have HCO:=ae hTT.cols;rw [HCO.out] at c2;have hr1:=HH.out.st.tb.tbc.rows.hcap;have hr2:=HH.out.st.tb.tbc.rows.hmax;have hb1:=HH.out.st.tb.tbc.basis.hcap;have hb2:=HH.out.st.tb.tbc.basis.hmax;clear hd hTT;by_cases hlt2:k<bn
   ·obtain ⟨eb,eoff,hea,he0⟩:=HH.out.st.tb.tbc.basis.at hlt2;subst hea;obtain ⟨bb,hbb⟩:∃ b,b=tt.basis[k]?.getD 0:=⟨_,rfl⟩;rw [<-hbb] at he0;have HBB:=ae hbb;have hk0:(0:Int)<=(k:Int):=by omega
    have hk1:(k:Int)<(bn:Int):=by omega
    clear hbb
    go_upto_block 1 with fail
    go_cut [2] (fun s2 wx=>s2=.int .i64 (k:Int)/\ez S a na ca b nb cb c nc cc wr1 wx ((aY N (t,1000-n) (k+1)).map fun x=>(x.1,1000-x.2)))
    case first =>
     go_upto_region 3 with fail;have hk2:Ext wr1 wr1.drew:=Ext.drew wr1;have HKEEP:=ae (fun (w':World) (h:Ext wr1 w')=>(⟨h.cellSome c1,h.cellSome c2,h.cellSome he0,h⟩:w'.cell? ⟨S,4,none⟩=some (.slice (some ⟨eb,eoff,none⟩) bn bc)/\w'.cell? ⟨S,5,none⟩=some (.int .i64 (N:Int))/\w'.cell? ⟨eb,eoff+k,none⟩=some (.int .i64 bb)/\Ext wr1 w'));refine wp_region_held_drew (S:=(fun w'=>w'.cell? ⟨S,4,none⟩=some (.slice (some ⟨eb,eoff,none⟩) bn bc)/\w'.cell? ⟨S,5,none⟩=some (.int .i64 (N:Int))/\w'.cell? ⟨eb,eoff+k,none⟩=some (.int .i64 bb)/\Ext wr1 w')) (by kernel_rfl) ?_ (fun hHeld=>?_)
     ·exact HKEEP.out _ hk2
     refine tk 0 ?_;refine tk 1 ?_;refine tk 2 ?_;refine tk 3 ?_;refine tk 4 ?_;refine tk 5 ?_;refine tk 6 ?_;refine tk 7 ?_;refine tk 8 ?_;refine tk 9 ?_;refine tk 10 ?_;refine tk 11 ?_;refine tk 12 ?_;refine tk 13 ?_;refine wpAnyH_done (by kernel_rfl) ?_ _;obtain ⟨w3,hw3⟩:∃ x,x=wr1.drew:=⟨_,rfl⟩;have X3:=ae (show Ext wr1 w3 by rw [hw3];exact hk2);rw [<-hw3];have HS3:=ae (HH.out.st.ext X3.out);have HM3:=ae (HH.out.mod.trans (Mod.of X3.out));clear hk2 l0 l1 l2 c0 c1 c2 c3 c4 cf he0 hw3 HKEEP hHeld;obtain ⟨l0,l1,l2,c0,c1,c2,c3,c4,cf⟩:=HS3.out.cells;rw [HCO.out] at c2;by_cases hbc:bb<(N:Int)
     ·have HD1:=ae (jF HD.out (by rw [<-HBB.out];exact hbc));go_wp2_with fail;go_meet;refine ⟨rfl,?_⟩;rw [HD1.out];exact ez.some (Mod.of X3.out) HS3.out hn1
     ·have HNB:=ae (show (N:Int)<=tt.basis[k]?.getD 0 by rw [<-HBB.out];omega);have hqj:=HT.out.row k hlt2;have HRL:=ae hqj.1;have HRV:=ae hqj.2;clear hqj;go_wp2_with fail
      go_loopg [3] N (fun gk jj wr=>∃ j:Nat,Hid (gk+j=N)/\jj=.int .i64 (j:Int)/\Hid (((tt.row k).take j).all (fun c=>!offZ c)=true)/\w3=wr)
      case atStart=>exact ⟨0,ae (by omega),rfl,ae rfl,rfl⟩
      case round =>
       obtain ⟨j,HJ,rfl,HA,rfl⟩:=hrel;by_cases hjl:j<N
       ·obtain ⟨zb1,zoff1,ya,yn,yc,hza1,hz0,hrow⟩:=HS3.out.tb.tbc.rows.at hlt2;subst hza1;have hyn:yn=N+bn+1:=by rw [<-hrow.hlen];exact HRL.out
        have hy1:=hrow.hcap;have hy2:=hrow.hmax;obtain ⟨yb,yoff,p,q,hya,hpq,hy0c,hy1c⟩:=hrow.at (show j<yn by omega);subst hya;have hjy:(j:Int)<(yn:Int):=by omega
        have hvv:=HRV.out j (by omega);rw [show (tt.row k)[j]?.getD (0,0)=(p,q) from hpq] at hvv;have HPQ:=ae (show (tt.row k)[j]?.getD (0,0)=(p,q) from hpq);have HOF:=ae (offZ_num hvv);clear hpq hrow hyn hvv;by_cases hp0:p=0
        ·have HA2:=ae (ld (by rw [HRL.out];omega) HPQ.out HA.out (by rw [HOF.out];simp [hp0]));subst hp0;go_wp2_with fail
         go_roundg (gk-1)
         case measure=>have:=HJ.out;omega
         case rel=>exact ⟨j+1,ae (by have:=HJ.out;omega),by go_num,HA2,rfl⟩
        ·have hpp:(p != 0)=true:=by simpa using hp0
         have HDL:=ae (jD HD.out (by have:=HNB.out;omega) hjl (by rw [HRL.out];omega) HA.out (by rw [HPQ.out,HOF.out];simpa using hp0) (by omega));have HPV:=ae (lz HS3.out HT.out hN hm hn1 hlt2 hjl);have HNN:=ae (show 1000-(1000-nn)=nn by omega);clear hp0;go_wp2_with fail;refine HPV.out.mono ?_;rintro e w6 ⟨rfl,hl6⟩;go_wp2_with fail;go_meet;exact ⟨rfl,by rw [HDL.out,HNN.out];exact ez.more X3.out hl6⟩
       ·have hjn:N=j:=by have:=HJ.out;omega
        have HDL:=ae (jE HD.out (by have:=HNB.out;omega) (by rw [hjn];exact HA.out));clear hjn;go_wp2_with fail;go_meet;refine ⟨rfl,?_⟩;rw [HDL.out];exact ez.some (Mod.of X3.out) HS3.out hn1
    obtain ⟨rfl,hmc,ra',rn',rc',ba',bn',bc',vs',hleft⟩:=hcut;have HMC:=ae (HH.out.mod.trans hmc);clear hmc l0 l1 l2 c0 c1 c2 c3 c4 cf;cases hd:aY N (t,1000-n) (k+1) with
    | none =>
      rw [hd] at hleft;obtain ⟨t',n',hs'⟩:=hleft;have HHN:=ae (show HeadD w wc S a na ca b nb cb c nc cc N bn T0 (t,1000-n) (k+1) n' true t' ra' rn' rc' ba' bn' bc' vs' from ⟨HMC.out,hs',fun e=>(by cases e),fun _=>hd⟩);clear hs' hd;go_wp2_with fail
      go_roundg (g1-1)
      case measure=>omega
      case rel=>exact ⟨k+1,n',true,t',_,_,_,_,_,_,_,ae (by omega),by go_num,HHN⟩
    | some st =>
      obtain ⟨t',f'⟩:=st;rw [hd] at hleft;have hf':f'<=1000:=by
       have hs:=ot hd HD.out (by omega);exact hs
      have hTi:=ou HT.out HD.out hd;have hszs:=bD.same (show bD wc S a na ca b nb cb c nc cc ra' rn' rc' ba' bn' bc' vs' t' (1000-f') false from hleft) hTi;have HHN:=ae (show HeadD w wc S a na ca b nb cb c nc cc N bn T0 (t,1000-n) (k+1) (1000-f') false t' ra' rn' rc' ba' bn' bc' vs' from ⟨HMC.out,hleft,fun _=>⟨by rw [hd];congr 2;omega,by omega,hTi,hszs.1,hszs.2⟩,fun e=>by cases e⟩);clear hleft hd hTi hszs;go_wp2_with fail
      go_roundg (g1-1)
      case measure=>omega
      case rel=>exact ⟨k+1,1000-f',false,t',_,_,_,_,_,_,_,ae (by omega),by go_num,HHN⟩
   ·have hkn:bn=k:=by omega
    have HDE:=ae (show aY N (t,1000-n) bn=some (tt,1000-nn) by rw [hkn];exact HD.out);clear hkn;go_wp2_with fail;refine bodyPost_end (results_none rfl _ _ _) rfl ⟨rfl,?_⟩;rw [HDE.out];exact ez.some HH.out.mod HH.out.st hn1
  ·have HDE:=ae (show aY N (t,1000-n) m=none from im (HH.out.no rfl) (by omega));by_cases hlt2:k<rn
   ·go_wp2_with fail;refine bodyPost_end (results_none rfl _ _ _) rfl ⟨rfl,?_⟩;rw [HDE.out];exact ⟨HH.out.mod,_,_,_,_,_,_,_,_,_,HH.out.st⟩
   ·go_wp2_with fail;refine bodyPost_end (results_none rfl _ _ _) rfl ⟨rfl,?_⟩;rw [HDE.out];exact ⟨HH.out.mod,_,_,_,_,_,_,_,_,_,HH.out.st⟩
end
end Go.Proofs.YthjjfkeacobikaaGreat
