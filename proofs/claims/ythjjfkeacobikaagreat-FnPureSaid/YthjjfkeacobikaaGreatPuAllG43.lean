import Derived.Test.YthjjfkeacobikaaGreatPuAllG7
import Derived.Test.YthjjfkeacobikaaGreatPuAllG4
import Derived.Deep.DeepCutAuto
set_option linter.unusedVariables false
set_option linter.unusedSimpArgs false
namespace Go.Proofs.YthjjfkeacobikaaGreat
set_option maxRecDepth 100000
open Go.RowKit
theorem mix_snoc {c:Nat} {p r:List Int} {j:Nat} (h:j<r.length):(mixR c p r).take j++[r[j]?.getD 0*p[c]?.getD 0-r[c]?.getD 0*p[j]?.getD 0]=(mixR c p r).take (j+1):=by
 rw [cw (by rw [dK];exact h),fH h]
set_option maxHeartbeats 8000000 in
theorem qk {w:World} {base:Nat} {a:Option Addr} {N cap n:Nat} {vs0:List Value} {M:List (List Int)} (h:Mat w base a N cap vs0 M) (hg:Good n 1 M) (h1:1<=n) (h5:n<=5) (hN:N<=1048576) (hb:base<=w.heap.size) :
 Calls Tryz.prog 241 #[.slice a N cap,.int .i64 (n:Int)] w fun e w'=>e=.returned (.int .i64 ((runM mixR M n).2:Int))/\Below base w w':=by
 have hcapN:=h.cap.1;have hcapM:=h.cap.2;have HM0:=ae h;have HG:=ae hg;have HLM:=ae h.len;clear h hg;go_enter Tryz.func241,Tryz.ntmps241
 go_wp2_with fail
 go_loopg [5,6] n (fun gk rk jj wr=>∃ (c d:Nat) (vs:List Value) (K:List (List Int)),Hid (gk+c=n)/\jj=.int .i64 (c:Int)/\rk=.int .i64 (d:Int)/\Hid (runM mixR M c=(K,d))/\Hid (Mat wr base a N cap vs K)/\Hid (Below base w wr))
 case atStart=>exact ⟨0,0,vs0,M,ae (by omega),rfl,rfl,ae rfl,HM0,ae (Below.refl _ _)⟩
 case round =>
  obtain ⟨g1,h_g1⟩:∃ x,x=gk:=⟨_,rfl⟩;subst h_g1;obtain ⟨wr1,h_wr1⟩:∃ x,x=wr:=⟨_,rfl⟩;subst h_wr1;obtain ⟨c,d,vs,K,HK,rfl,rfl,HR,HM,HB⟩:=hrel;by_cases hlt:c<n
  ·have hok:=fJ mV HG.out c (by omega);rw [HR.out] at hok;obtain ⟨hdc,hKl,hdN,hgd⟩:=hok;simp only at hdc hKl hdN hgd;have HGD:=ae hgd;have HKL:=ae (show K.length=N by rw [hKl,HLM.out]);rw [HLM.out] at hdN;obtain ⟨P,hP⟩:∃ P,P=pivM K c d:=⟨_,rfl⟩;have HP:=ae hP;have hpb:=nW K c (d:=d) (by rw [HKL.out];exact hdN);rw [<-hP,HKL.out] at hpb;obtain ⟨hdP,hPN⟩:=hpb;have hszw:=HB.out.size;clear hKl hgd hP;go_wp2_with fail
   go_loop [7] (fun at7=>∃ k:Nat,at7=.int .i64 (k:Int)/\Hid (d<=k)/\Hid (k<=P)) (fun at7=>P-(intOf at7).toNat)
   case atStart=>exact ⟨d,rfl,ae (Nat.le_refl _),ae hdP⟩
   case round =>
    obtain ⟨k,rfl,HDK,HKP⟩:=hrel;have hdk:=HDK.out;have hkp:=HKP.out;by_cases hkP:k<P
    ·have hkN:k<N:=by omega
     obtain ⟨G,rfl,_,_,_⟩:=HM.out.outer (by omega);obtain ⟨g,gc,hvs,hcell,hown,hne,_,_,_,_⟩:=HM.out.row hkN (HGD.out k (by rw [HKL.out];exact hkN)).1 h1;obtain ⟨b,off,he,hc0⟩:=hown.ints.at hlt;simp only [Option.some.injEq,Addr.mk.injEq,and_true] at he;obtain ⟨rfl,rfl⟩:=he;rw [Nat.zero_add,pT (by rw [HKL.out];exact hdN) hdk (by rw [<-HP.out];exact hkP)] at hc0;clear hvs hown hne;go_wp2_with fail
     go_round
     case rel=>exact ⟨k+1,by go_num,ae (by omega),ae (by omega)⟩
     case measure=>simp [intOf];omega
    ·have hkP':k=P:=by omega
     subst hkP';by_cases hkN:k<N
     ·obtain ⟨G,rfl,hbG,hGl,hfz⟩:=HM.out.outer (by omega);have hf1:=hfz k;have hf2:=hfz d;clear hfz;have hps:=dH (M:=K) (c:=c) (d:=d) (by rw [<-HP.out,HKL.out];exact hkN);rw [<-HP.out] at hps;obtain ⟨gp,cp,hvp,hcp,hop,hnp,hbp,hgpl,hncp,hcpm⟩:=HM.out.row hkN (HGD.out k (by rw [HKL.out];exact hkN)).1 h1;obtain ⟨gd,cd,hvd,hcd,hod,hnd,hbd,hgdl,hncd,hcdm⟩:=HM.out.row (show d<N by omega) (HGD.out d (by rw [HKL.out];omega)).1 h1;obtain ⟨b,off,he,hc0⟩:=hop.ints.at hlt;simp only [Option.some.injEq,Addr.mk.injEq,and_true] at he;obtain ⟨rfl,rfl⟩:=he;rw [Nat.zero_add] at hc0;obtain ⟨pc,hpc⟩:∃ x,x=(K[k]?.getD [])[c]?.getD 0:=⟨_,rfl⟩;rw [<-hpc] at hc0 hps;have hpc0:pc ≠ 0:=hps.2.1;have hpcb:(pc == 0)=false:=by simpa using hpc0
      have hsw:=HM.out.swap hkN (show d<N by omega);rw [hvp,hvd] at hsw;obtain ⟨M1,hM1⟩:∃ M1,M1=swp K k d:=⟨_,rfl⟩;obtain ⟨vs1,hvs1⟩:∃ v,v=swpV vs k d:=⟨_,rfl⟩;have HVP:=ae (show vs1[d]?.getD undef=.slice (some ⟨gp,0,none⟩) n cp by rw [hvs1,gQ (by rw [HM.out.vlen];exact hkN) (by rw [HM.out.vlen];omega),if_pos rfl,hvp]);have HG1:=ae (show Good n (bdM d) M1 by rw [hM1];exact fL HGD.out (by rw [HKL.out];exact hkN) (by rw [HKL.out];omega));have HL1:=ae (show M1.length=N by rw [hM1,cG,HKL.out])
      have HRUN:=ae (show runM mixR M (c+1)=(redM mixR c M1 d N,d+1) by
       show colM mixR c (runM mixR M c)=_;rw [HR.out];unfold colM;simp only
       rw [<-HP.out,HKL.out,if_pos hkN,hM1,swp_comm K (a:=k) (b:=d) (by rw [HKL.out];exact hkN) (by rw [HKL.out];omega)])
      rw [<-hM1,<-hvs1] at hsw;have HSW:=ae hsw;have hdN':d<N:=by omega
      have HB2:=ae ((HB.out.setCell (p:=⟨G,k,none⟩) hbG (.slice (some ⟨gd,0,none⟩) n cd)).setCell (p:=⟨G,d,none⟩) hbG (.slice (some ⟨gp,0,none⟩) n cp));clear hsw hps hop hod hpc hvp hvd hM1 hvs1;by_cases hkd:d=k
      case' pos =>
       subst hkd;have hsame:=hcp.symm.trans hcd;simp only [Option.some.injEq,Value.slice.injEq,Addr.mk.injEq,and_true,true_and] at hsame;obtain ⟨rfl,rfl⟩:=hsame;clear hcd
      case' neg=>have hkd':¬ k=d:=fun e=>hkd e.symm
      all_goals
       go_wp2_with fail;clear hcp
       try clear hcd
       have HBase:=ae hbG
       go_loopg [9] (N-(d+1)) (fun g3 i wr3=>∃ (t:Nat) (vs3:List Value),Hid (g3+t=N)/\i=.int .i64 (t:Int)/\Hid (d<t)/\Hid (Mat wr3 base (some ⟨G,0,none⟩) N cap vs3 (redM mixR c M1 d t))/\Hid (Below base w wr3)/\Hid (vs3[d]?.getD undef=.slice (some ⟨gp,0,none⟩) n cp))
       case atStart=>exact ⟨d+1,vs1,ae (by omega),by go_num,ae (by omega),ae (by rw [jW];exact HSW.out),HB2,HVP⟩
       case round =>
        obtain ⟨g3,h_g3⟩:∃ x,x=gk:=⟨_,rfl⟩;subst h_g3;obtain ⟨wr3,h_wr3⟩:∃ x,x=wr:=⟨_,rfl⟩;subst h_wr3;obtain ⟨t,vs3,HT,rfl,HDT,HM3,HB3,HV3⟩:=hrel;by_cases htN:t<N
        ·have hdt:=HDT.out;have HGR:=ae (show Good n (bdM (d+1)) (redM mixR c M1 d t) from jb HG1.out (eJ d (by omega)).2.2 (by rw [HL1.out];exact hdN') fun p r hpl hrl h5 h6=>mV _ n c p r (eJ d (by omega)).1 hpl hrl h5 h6);have HRL:=ae (show (redM mixR c M1 d t).length=N by rw [cZ,HL1.out]);obtain ⟨G',hG',_,hGl3,hfz⟩:=HM3.out.outer (by omega);simp only [Option.some.injEq,Addr.mk.injEq,and_true] at hG';subst hG';have hft:=hfz t;clear hfz;obtain ⟨gt,ct,hvt,hct,hot,hnt,_,_,hnct,hctm⟩:=HM3.out.row htN (HGR.out t (by rw [HRL.out];exact htN)).1 h1;obtain ⟨gp',cp',hvp,hcp3,hop,hnp3,_,_,_,_⟩:=HM3.out.row hdN' (HGR.out d (by rw [HRL.out];exact hdN')).1 h1;have hsame:=HV3.out.symm.trans hvp;simp only [Value.slice.injEq,Option.some.injEq,Addr.mk.injEq,and_true,true_and] at hsame;obtain ⟨rfl,rfl⟩:=hsame;rw [eU _ _ _ _ _ _ (by rw [HL1.out];exact htN) (by omega)] at hot;rw [eU _ _ _ _ _ _ (by rw [HL1.out];exact hdN') (by omega)] at hop;obtain ⟨r,hr⟩:∃ r,r=M1[t]?.getD []:=⟨_,rfl⟩;obtain ⟨p,hp⟩:∃ p,p=M1[d]?.getD []:=⟨_,rfl⟩;rw [<-hr] at hot;rw [<-hp] at hop;have HBR:=ae (HG1.out t (by rw [HL1.out];exact htN));have HBP:=ae (HG1.out d (by rw [HL1.out];exact hdN'));rw [<-hr] at HBR;rw [<-hp] at HBP;have HOT:=ae hot;have HOP:=ae hop;have HRR:=ae hr;have HPP:=ae hp;obtain ⟨b,off,he,hc0⟩:=hot.ints.at hlt;simp only [Option.some.injEq,Addr.mk.injEq,and_true] at he;obtain ⟨rfl,rfl⟩:=he
         rw [Nat.zero_add] at hc0;obtain ⟨b,off,he,hpc0⟩:=hop.ints.at hlt;simp only [Option.some.injEq,Addr.mk.injEq,and_true] at he;obtain ⟨rfl,rfl⟩:=he;rw [Nat.zero_add] at hpc0;obtain ⟨rc,hrc⟩:∃ x,x=r[c]?.getD 0:=⟨_,rfl⟩;obtain ⟨pc,hpc⟩:∃ x,x=p[c]?.getD 0:=⟨_,rfl⟩;rw [<-hrc] at hc0;rw [<-hpc] at hpc0;have HRC:=ae hrc;have HPC:=ae hpc;have HO:=ae (OwnI.madeS wr3 wr3.heap.size _ rfl (Nat.le_refl _));clear hvt hvp hot hop hr hp hrc hpc;go_wp2_with fail
         go_loopg [11,12] n (fun g4 nx kk wr4=>∃ (j:Nat) (a1:Option Addr) (n1 p1:Nat),Hid (g4+j=n)/\kk=.int .i64 (j:Int)/\nx=.slice a1 n1 p1/\Hid (OwnI wr4 wr3.heap.size (.slice a1 n1 p1) ((mixR c p r).take j))/\Hid (Ext wr3 wr4))
         case atStart=>exact ⟨0,_,_,_,ae (by omega),rfl,rfl,HO,ae (Ext.alloc _ _)⟩
         case round =>
          obtain ⟨g4,h_g4⟩:∃ x,x=gk:=⟨_,rfl⟩;subst h_g4;obtain ⟨wr4,h_wr4⟩:∃ x,x=wr:=⟨_,rfl⟩;subst h_wr4;obtain ⟨j,a1,n1,p1,HJ,rfl,rfl,HO4,HX4⟩:=hrel;have hs4:=HX4.out.size;by_cases hjn:j<n
          ·obtain ⟨b,off,he,hrj⟩:=HOT.out.ints.at hjn;simp only [Option.some.injEq,Addr.mk.injEq,and_true] at he;obtain ⟨rfl,rfl⟩:=he;rw [Nat.zero_add] at hrj;obtain ⟨b,off,he,hpj⟩:=HOP.out.ints.at hjn;simp only [Option.some.injEq,Addr.mk.injEq,and_true] at he;obtain ⟨rfl,rfl⟩:=he;rw [Nat.zero_add] at hpj;obtain ⟨rj,hrv⟩:∃ x,x=r[j]?.getD 0:=⟨_,rfl⟩;obtain ⟨pj,hpv⟩:∃ x,x=p[j]?.getD 0:=⟨_,rfl⟩;rw [<-hrv] at hrj;rw [<-hpv] at hpj;have hbb:=eJ d (by omega);have hb1:=eS (B:=32768) (x:=rj) (y:=pc) (by have:=HBR.out.2 j;omega) (by have:=HBR.out.2 j;omega) (by have:=HBP.out.2 c;have:=HPC.out;omega) (by have:=HBP.out.2 c;have:=HPC.out;omega);have hb2:=eS (B:=32768) (x:=pj) (y:=rc) (by have:=HBP.out.2 j;omega) (by have:=HBP.out.2 j;omega) (by have:=HBR.out.2 c;have:=HRC.out;omega) (by have:=HBR.out.2 c;have:=HRC.out;omega);have hw1:IntKind.i64.wrap (rj*pc)=rj*pc:=by rw [IntKind.wrap_i64];omega
           have hw2:IntKind.i64.wrap (pj*rc)=pj*rc:=by rw [IntKind.wrap_i64];omega
           have hw3:IntKind.i64.wrap (rj*pc-pj*rc)=rj*pc-pj*rc:=by rw [IntKind.wrap_i64];omega
           have HV:=ae (show rj*pc-pj*rc=r[j]?.getD 0*p[c]?.getD 0-r[c]?.getD 0*p[j]?.getD 0 by rw [<-hrv,<-hpv,<-HPC.out,<-HRC.out,Int.mul_comm pj rc]);have HLJ:=ae (show ((mixR c p r).take j).length=j by rw [List.length_take,dK,HBR.out.1];omega);clear hrv hpv hb1 hb2 hbb;have hk2:Ext wr3 wr4.drew:=HX4.out.trans (Ext.drew wr4);have hkA:Ext wr3 (wr4.alloc (.cells #[.int .i64 (rj*pc-pj*rc)] 3)).drew:=(HX4.out.trans (Ext.alloc _ _)).trans (Ext.drew _);have HKEEP:=ae (fun (w':World) (h:Ext wr3 w')=>(⟨h.cellSome hct,h.cellSome hrj,h.cellSome hpc0,h.cellSome hpj,h⟩:w'.cell? ⟨G,t,none⟩=some (.slice (some ⟨gt,0,none⟩) n ct)/\w'.cell? ⟨gt,j,none⟩=some (.int .i64 rj)/\w'.cell? ⟨gp,c,none⟩=some (.int .i64 pc)/\w'.cell? ⟨gp,j,none⟩=some (.int .i64 pj)/\Ext wr3 w'));go_wp2_with fail
           go_region_held3 (fun w'=>w'.cell? ⟨G,t,none⟩=some (.slice (some ⟨gt,0,none⟩) n ct)/\w'.cell? ⟨gt,j,none⟩=some (.int .i64 rj)/\w'.cell? ⟨gp,c,none⟩=some (.int .i64 pc)/\w'.cell? ⟨gp,j,none⟩=some (.int .i64 pj)/\Ext wr3 w')
            (first
              | with_reducible exact HKEEP.out _ hk2
              | with_reducible exact HKEEP.out _ hkA)
            (first
              | (refine bH _ (by rfl) ?_
                 refine bG _ _ (by rfl) wr3.heap.size (.slice a1 n1 p1) _ (by rfl) ((HO4.out.ext (Ext.alloc wr4 _)).ext (Ext.drew _)) _ 1 _ [rj*pc-pj*rc] (by rfl) ((Ints.oneS wr4 _ _ _ rfl).ext (Ext.drew _)) (by rw [HLJ.out];omega) (by simp;omega) ?_;intro v5 w5 ho hg hnear;obtain ⟨a5,n5,p5,rfl,HN5⟩:=ho.var;have HO5:=ae ho;have hk2:Ext wr3 w5:=aq hkA hg (fun j hj=>(HO4.out.lt j hj).1)
                 clear ho hg hnear)
              | fail)
           have HK5:=ae hk2;clear hk2 HKEEP;go_wp2_with fail
           go_roundg (g4-1)
           case measure=>have:=HJ.out;omega
           case rel=>exact ⟨j+1,a5,n5,p5,ae (by have:=HJ.out;omega),by go_num,rfl,ae (by rw [<-mix_snoc (by rw [HBR.out.1];exact hjn),<-HV.out];exact HO5.out),HK5⟩
          ·have hjn':j=n:=by have:=HJ.out;omega
           subst hjn';have HPUT:=ae (HM3.out.put HX4.out (Nat.le_trans hb HB3.out.size) HO4.out htN);have HVT:=ae (show (vs3.set t (.slice a1 n1 p1))[d]?.getD undef=.slice (some ⟨gp,0,none⟩) j cp by rw [List.getElem?_set_ne (by omega)];exact HV3.out)
           have HMX:=ae (show (redM mixR c M1 d t).set t ((mixR c p r).take j)=redM mixR c M1 d (t+1) by
            rw [List.take_of_length_le (by rw [dK,HBR.out.1];exact Nat.le_refl _),HRR.out,HPP.out]
            exact iu _ _ _ _ _ hdt (by rw [HL1.out];exact htN))
           have HBE:=ae ((HB3.out.trans (Below.mono HX4.out (Nat.le_trans hb HB3.out.size))).setCell (p:=⟨G,t,none⟩) HBase.out (.slice a1 n1 p1));have hct4:=HX4.out.cellSome hct;have hft4:wr4.frozen? ⟨G,t,none⟩=false:=(HX4.out.frozens _ _ hGl3).trans hft;go_wp2_with fail
           go_roundg (g3-1)
           case measure=>have:=HT.out;omega
           case rel=>exact ⟨t+1,_,ae (by have:=HT.out;omega),by go_num,ae (by omega),ae (by rw [<-HMX.out];exact HPUT.out),HBE,HVT⟩
        ·have htN':t=N:=by have:=HT.out;omega
         subst htN';go_wp2_with fail
         go_roundg (g1-1)
         case measure=>have:=HK.out;omega
         case rel=>exact ⟨c+1,d+1,vs3,_,ae (by have:=HK.out;omega),by go_num,by go_num,HRUN,HM3,HB3⟩
     ·have HRUN:=ae (show runM mixR M (c+1)=(K,d) by
       show colM mixR c (runM mixR M c)=_;rw [HR.out];unfold colM;simp only
       rw [<-HP.out,HKL.out,if_neg hkN])
      have hkN':k=N:=by omega
      subst hkN';go_wp2_with fail
      go_roundg (g1-1)
      case measure=>have:=HK.out;omega
      case rel=>exact ⟨c+1,d,vs,K,ae (by have:=HK.out;omega),by go_num,rfl,HRUN,HM,HB⟩
  ·have hcn:c=n:=by have:=HK.out;omega
   subst hcn;go_wp2_with fail;go_ret;exact ⟨aM (by rw [HR.out]),HB.out⟩
theorem OwnV.madeS (w:World) (base n:Nat) (hn:n=w.heap.size) (hb:base<=w.heap.size):OwnV (w.alloc (.cells #[] 24)) base (.slice (some ⟨n,0,none⟩) 0 0) []:=by
 subst hn;exact World.ownsRow_lit w #[] 0 hb (by omega) rfl
set_option maxHeartbeats 8000000 in
theorem s_RankOf {w:World} {n:Int} {a:Option Addr} {m cap:Nat} {l:List Int} (h:Ints w a m cap l) (hl:∀ k:Nat,l[k]?.getD 0<=9223372036854775807) (hm:m<=1048576) :
 Calls Tryz.prog 188 #[.int .i64 n,.slice a m cap] w fun e w'=>e=.returned (.int .i64 (fA n l))/\Ext w w':=by
 have hcapN:=h.hcap;have hcapM:=h.hmax;have HL:=ae h.hlen;have HI:=ae h;have HLB:=ae hl;clear h hl;cases hin:inB n 1 5
 ·have HN:=ae (show fA n l=0 by unfold fA;rw [hin];rfl);have HW:=ae (bv n 1 5 w);rw [hin] at HW;clear hin;go_enter Tryz.func188,Tryz.ntmps188
  go_wp2_with fail;refine HW.out.mono ?_;rintro e w1 ⟨rfl,rfl⟩;go_wp2_with fail;go_ret;exact ⟨aM HN.out.symm,Ext.refl _⟩
 ·obtain ⟨nn,rfl⟩:∃ k:Nat,n=k:=⟨n.toNat,by simp only [inB,Bool.and_eq_true,decide_eq_true_eq] at hin;omega⟩;have h15:1<=nn/\nn<=5:=by simp only [inB,Bool.and_eq_true,decide_eq_true_eq] at hin;omega
  obtain ⟨h1,h5⟩:=h15;have HN:=ae (show fA (nn:Int) l=((runM mixR (l.map (digR nn)) nn).2:Int) by unfold fA;rw [if_pos hin];rfl);have HW:=ae (bv nn 1 5 w);rw [hin] at HW;have HO:=ae (OwnV.madeS w w.heap.size _ rfl (Nat.le_refl _));clear hin;go_enter Tryz.func188,Tryz.ntmps188
  go_wp2_with fail;refine HW.out.mono ?_;rintro e w1 ⟨rfl,rfl⟩;go_wp2_with fail
  go_loopg [5,6] m (fun gk out i wr=>∃ (k:Nat) (a1:Option Addr) (n1 p1:Nat) (vs:List Value),Hid (gk+k=m)/\i=.int .i64 (k:Int)/\out=.slice a1 n1 p1/\Hid (OwnV wr w.heap.size (.slice a1 n1 p1) vs)/\Hid (bj wr w.heap.size vs ((l.take k).map (digR nn)))/\Hid (Ext w wr))
  case atStart=>exact ⟨0,_,_,_,[],ae (by omega),rfl,rfl,HO,ae (bj.nil _ _),ae (Ext.alloc _ _)⟩
  case round =>
   obtain ⟨g1,h_g1⟩:∃ x,x=gk:=⟨_,rfl⟩;subst h_g1;obtain ⟨wr1,h_wr1⟩:∃ x,x=wr:=⟨_,rfl⟩;subst h_wr1;obtain ⟨k,a1,n1,p1,vs,HK,rfl,rfl,HV,HR,HX⟩:=hrel;have hsz:=HX.out.size;by_cases hlt:k<m
   ·obtain ⟨b,off,ha,hs0⟩:=(HI.out.ext HX.out).at hlt;subst ha;obtain ⟨s,hs⟩:∃ s,s=l[k]?.getD 0:=⟨_,rfl⟩;rw [<-hs] at hs0;have HS:=ae hs;have hsb:s<=9223372036854775807:=by rw [hs];exact HLB.out k
    have HO2:=ae (OwnI.madeS wr1 wr1.heap.size _ rfl (Nat.le_refl _));have HLV:=ae (show vs.length=k by rw [HR.out.len,List.length_map,List.length_take];have:=HL.out;omega);clear hs;go_wp2_with fail
    go_loopg [7,8] nn (fun gk row i wr=>∃ (j:Nat) (a2:Option Addr) (n2 p2:Nat),Hid (gk+j=nn)/\i=.int .i64 (j:Int)/\row=.slice a2 n2 p2/\Hid (OwnI wr wr1.heap.size (.slice a2 n2 p2) (digR j s))/\Hid (Ext wr1 wr))
    case atStart=>exact ⟨0,_,_,_,ae (by omega),rfl,rfl,HO2,ae (Ext.alloc _ _)⟩
    case round =>
     obtain ⟨g2,h_g2⟩:∃ x,x=gk:=⟨_,rfl⟩;subst h_g2;obtain ⟨wr2,h_wr2⟩:∃ x,x=wr:=⟨_,rfl⟩;subst h_wr2;obtain ⟨j,a2,n2,p2,HJ,rfl,rfl,HO3,HX3⟩:=hrel;have hsz3:=HX3.out.size;by_cases hjn:j<nn
     ·have hs3:=HX3.out.cellSome hs0;have HLJ:=ae (gS j s)
      go_wp2_with (first
       | (go_at_call 79;refine (gF s (j:Int) _ hsb).mono ?_;rintro e w' ⟨rfl,rfl⟩)
       | (go_at_call 74;refine (eE (hasP s (j:Int)) _).mono ?_;rintro e w' ⟨rfl,rfl⟩)
       | (at_builtin;refine bw rfl _ _ rfl wr1.heap.size (.slice a2 n2 p2) _ rfl (HO3.out.ext (Ext.alloc _ _)) _ 1 _ [bitI (hasP s (j:Int))] rfl (Ints.oneS _ _ _ _ (by simp)) (by rw [HLJ.out];omega) (by simp;omega) ?_;intro v5 w5 ho hg hnear;obtain ⟨a5,n5,p5,rfl,HN5⟩:=ho.var;have HO5:=ae ho;have X5:=ae (aq (HX3.out.trans (Ext.alloc _ _)) hg (fun j hj=>(HO3.out.lt j hj).1));clear ho hg hnear))
      go_roundg (g2-1)
      case measure=>have:=HJ.out;omega
      case rel=>exact ⟨j+1,a5,n5,p5,ae (by have:=HJ.out;omega),by go_num,rfl,ae (by rw [<-kM];exact HO5.out),X5⟩
     ·have hjn':j=nn:=by have:=HJ.out;omega
      subst hjn'
      go_wp2_with (first
       | (at_builtin;refine ea rfl _ _ rfl w.heap.size (.slice a1 n1 p1) vs rfl ((HV.out.ext HX3.out).ext (Ext.alloc _ _)) _ _ 1 rfl (by simp;rfl) rfl (by have:=HLV.out;omega) (by simp;omega) ?_;intro v6 w6 ho hg hnear;obtain ⟨a6,n6,p6,rfl,HN6⟩:=ho.var;have HO6:=ae ho;have HR6:=ae (((HR.out.snoc HX3.out HO3.out hsz).ext (Ext.alloc _ _)).grownV ((HV.out.ext HX3.out).ext (Ext.alloc _ _)) hg);have X6:=ae (aq ((HX.out.trans HX3.out).trans (Ext.alloc _ _)) hg (fun j hj=>(HV.out.lt j hj).1));clear ho hg hnear))
      go_roundg (g1-1)
      case measure=>have:=HK.out;omega
      case rel=>exact ⟨k+1,a6,n6,p6,_,ae (by have:=HK.out;omega),by go_num,rfl,HO6,ae (by rw [cw (by have:=HL.out;omega),List.map_append,<-HS.out];exact HR6.out),X6⟩
   ·have hkm:k=m:=by have:=HK.out;omega
    subst hkm;have HT:=ae (show l.take k=l from List.take_of_length_le (by rw [HL.out];exact Nat.le_refl _));have HNL:=ae (show n1=k by rw [<-HV.out.len,HR.out.len,HT.out,List.length_map,HL.out]);have HM:=ae (show Mat wr1 w.heap.size a1 n1 p1 vs (l.map (digR nn)) from ⟨HV.out,by have:=HR.out;rw [HT.out] at this;exact this⟩);have HC:=ae (qk HM.out (gT nn l) h1 h5 (by rw [HNL.out];exact hm) hsz);go_wp2_with fail;refine HC.out.mono ?_;rintro e w2 ⟨rfl,hb⟩;have HB:=ae (HX.out.trans_below hb);clear hb;go_wp2_with fail;go_ret;exact ⟨aM HN.out.symm,HB.out⟩
theorem qr (k:Int) (m:Nat):seqI k m++[k+(m:Int)]=seqI k (m+1):=by simp [seqI,List.range_succ]
set_option maxHeartbeats 4000000 in
theorem lW {w:World} (lo hi:Int) (n:Nat) (h0:0<=lo) (h1:lo<=1000) (hn:hi+1-lo=n) (hb:n<=1000) :
 Calls Tryz.prog 201 #[.int .i64 lo,.int .i64 hi] w fun e w'=>(∃ v,e=.returned v/\OwnI w' w.heap.size v (seqI lo n))/\Ext w w':=by
 have HN:=ae hn;have hhi:hi=lo+(n:Int)-1:=by omega
 have hh1:-1<=hi:=by omega
 have hh2:hi<=2000:=by omega
 have HH:=ae hhi;have HO:=ae (OwnI.madeS w w.heap.size _ rfl (Nat.le_refl _));clear hn hhi;go_enter Tryz.func201,Tryz.ntmps201
 go_wp2_with fail
 go_loopg [5,6] n (fun gk oo ii wr=>∃ (k:Nat) (i:Int) (a1:Option Addr) (n1 p1:Nat),Hid (gk+k=n)/\Hid (i=lo+(k:Int))/\ii=.int .i64 i/\oo=.slice a1 n1 p1/\Hid (OwnI wr w.heap.size (.slice a1 n1 p1) (seqI lo k))/\Hid (Ext w wr))
 case atStart=>exact ⟨0,lo,_,_,_,ae (by omega),ae (by omega),rfl,rfl,HO,ae (Ext.alloc _ _)⟩
 case round =>
  obtain ⟨g1,h_g1⟩:∃ x,x=gk:=⟨_,rfl⟩;subst h_g1;obtain ⟨wr1,h_wr1⟩:∃ x,x=wr:=⟨_,rfl⟩;subst h_wr1;obtain ⟨k,i,a1,n1,p1,HK,HI,rfl,rfl,HO1,HX⟩:=hrel;have hsz:=HX.out.size;have hi0:0<=i:=by have:=HI.out;omega
  have hi1:i<=2001:=by have:=HI.out;have:=HK.out;omega
  by_cases hlt:k<n
  ·have hle:i<=hi:=by have:=HI.out;have:=HH.out;omega
   have HL:=ae (mM lo k)
   go_wp2_with (first
    | (at_builtin;refine bw rfl _ _ rfl w.heap.size (.slice a1 n1 p1) _ rfl (HO1.out.ext (Ext.alloc _ _)) _ 1 _ [i] rfl (Ints.oneS _ _ _ _ (by simp)) (by rw [HL.out];have:=HK.out;omega) (by simp;omega) ?_;intro v5 w5 ho hg hnear;obtain ⟨a5,n5,p5,rfl,HN5⟩:=ho.var;have HO5:=ae ho;have X5:=ae (aq (HX.out.trans (Ext.alloc _ _)) hg (fun j hj=>(HO1.out.lt j hj).1));clear ho hg hnear))
   go_roundg (g1-1)
   case measure=>have:=HK.out;omega
   case rel=>exact ⟨k+1,i+1,a5,n5,p5,ae (by have:=HK.out;omega),ae (by have:=HI.out;omega),rfl,rfl,ae (by have:=HO5.out;rw [HI.out,qr] at this;exact this),X5⟩
  ·have hkn:k=n:=by have:=HK.out;omega
   have hnle:¬ i<=hi:=by have:=HI.out;have:=HH.out;omega
   subst hkn;go_wp2_with fail;go_ret;exact ⟨⟨_,rfl,HO1.out⟩,HX.out⟩
theorem repl_set (n:Nat) (x:Int) {k:Nat} (h:k<n):(List.replicate k x++List.replicate (n-k) 0).set k x=List.replicate (k+1) x++List.replicate (n-(k+1)) 0:=by
 rw [List.set_append_right _ _ (by simp)];simp only [List.length_replicate,Nat.sub_self];obtain ⟨d,hd⟩:∃ d,n-k=d+1:=⟨n-k-1,by omega⟩;rw [hd,List.replicate_succ,List.set_cons_zero,show n-(k+1)=d by omega,List.replicate_succ',List.append_assoc]
 rfl
set_option maxHeartbeats 4000000 in
theorem ku {w:World} (n:Nat) (x:Int) (hb:n<=8000000) :
 Calls Tryz.prog 196 #[.int .i64 (n:Int),.int .i64 x] w fun e w'=>(∃ v,e=.returned v/\OwnI w' w.heap.size v (List.replicate n x))/\Ext w w':=by
 have hmk:=gN n (by omega);have HR:=ae (show Row (w.alloc (.cells (aW (List.replicate n 0)) 3)) w.heap.size 3 (List.replicate n 0) from heap_alloc_new _ _);go_enter Tryz.func196,Tryz.ntmps196
 go_wp2_with fail
 go_loopg [11] n (fun gk ii wr=>∃ k:Nat,Hid (gk+k=n)/\ii=.int .i64 (k:Int)/\Hid (Row wr w.heap.size 3 (List.replicate k x++List.replicate (n-k) 0))/\Hid (Ext w wr))
 case atStart=>exact ⟨0,ae (by omega),rfl,ae (by simpa using HR.out),ae (Ext.alloc _ _)⟩
 case round =>
  obtain ⟨g1,h_g1⟩:∃ x,x=gk:=⟨_,rfl⟩;subst h_g1;obtain ⟨wr1,h_wr1⟩:∃ x,x=wr:=⟨_,rfl⟩;subst h_wr1;obtain ⟨k,HK,rfl,HRW,HX⟩:=hrel;by_cases hlt:k<n
  ·have hc:=HRW.out.cell (k:=k) (by simp;omega);have hf:=HRW.out.free k;have HN:=ae (show Row (wr1.setCell ⟨w.heap.size,k,none⟩ (.int .i64 x)) w.heap.size 3 (List.replicate (k+1) x++List.replicate (n-(k+1)) 0) by rw [<-repl_set n x hlt];exact HRW.out.set k x);have HX2:=ae (HX.out.setCell (p:=⟨w.heap.size,k,none⟩) (Nat.le_refl _) (.int .i64 x));go_wp2_with fail
   go_roundg (g1-1)
   case measure=>have:=HK.out;omega
   case rel=>exact ⟨k+1,ae (by have:=HK.out;omega),by go_num,HN,HX2⟩
  ·have hkn:k=n:=by have:=HK.out;omega
   subst hkn;have HRF:=ae (show Row wr1 w.heap.size 3 (List.replicate k x) by have:=HRW.out;simpa using this);go_wp2_with fail;go_ret;exact ⟨⟨_,rfl,HRF.out.own (Nat.le_refl _) (by simp) (by omega)⟩,HX.out⟩
def memR (l:List Int) (k:Nat):List Int:=l.map fun s=>bitI (hasP s (k:Int))
def memM (n:Nat) (l:List Int):List (List Int):=(List.range n).map (memR l)
theorem pG (k:Nat) (l:List Int):memM k l++[memR l k]=memM (k+1) l:=by simp [memM,List.range_succ]
theorem kW {l:List Int} {j k:Nat} {b:Bool} (h:j<l.length) (hb:hasP (l[j]?.getD 0) (k:Int)=b):memR (l.take j) k++[bitI b]=memR (l.take (j+1)) k:=by
 rw [cw h,<-hb];simp [memR]
set_option maxHeartbeats 8000000 in
theorem pD {w:World} (n:Nat) (hn:n<=5) {a:Option Addr} {m cap:Nat} {l:List Int} (h:Ints w a m cap l) (hl:∀ k:Nat,l[k]?.getD 0<=9223372036854775807) (hm:m<=8000000) :
 Calls Tryz.prog 195 #[.int .i64 (n:Int),.slice a m cap] w fun e w'=>(∃ v,e=.returned v/\fW w' w.heap.size v (memM n l))/\Ext w w':=by
 have hcapN:=h.hcap;have hcapM:=h.hmax;have HL:=ae h.hlen;have HI:=ae h;have HLB:=ae hl;have HO:=ae (OwnV.madeS w w.heap.size _ rfl (Nat.le_refl _));clear h hl;go_enter Tryz.func195,Tryz.ntmps195
 go_wp2_with fail
 go_loopg [5,13] n (fun gk out ii wr=>∃ (k:Nat) (a1:Option Addr) (n1 p1:Nat) (vs:List Value),Hid (gk+k=n)/\ii=.int .i64 (k:Int)/\out=.slice a1 n1 p1/\Hid (OwnV wr w.heap.size (.slice a1 n1 p1) vs)/\Hid (bj wr w.heap.size vs (memM k l))/\Hid (Ext w wr))
 case atStart=>exact ⟨0,_,_,_,[],ae (by omega),rfl,rfl,HO,ae (bj.nil _ _),ae (Ext.alloc _ _)⟩
 case round =>
  obtain ⟨g1,h_g1⟩:∃ x,x=gk:=⟨_,rfl⟩;subst h_g1;obtain ⟨wr1,h_wr1⟩:∃ x,x=wr:=⟨_,rfl⟩;subst h_wr1;obtain ⟨k,a1,n1,p1,vs,HK,rfl,rfl,HV,HR,HX⟩:=hrel;have hsz:=HX.out.size;by_cases hlt:k<n
  ·have HO2:=ae (OwnI.madeS wr1 wr1.heap.size _ rfl (Nat.le_refl _));have HLV:=ae (show vs.length=k by rw [HR.out.len];simp [memM]);go_wp2_with fail
   go_loopg [7,19] m (fun gk row ii wr=>∃ (j:Nat) (a2:Option Addr) (n2 p2:Nat),Hid (gk+j=m)/\ii=.int .i64 (j:Int)/\row=.slice a2 n2 p2/\Hid (OwnI wr wr1.heap.size (.slice a2 n2 p2) (memR (l.take j) k))/\Hid (Ext wr1 wr))
   case atStart=>exact ⟨0,_,_,_,ae (by omega),rfl,rfl,HO2,ae (Ext.alloc _ _)⟩
   case round =>
    obtain ⟨g2,h_g2⟩:∃ x,x=gk:=⟨_,rfl⟩;subst h_g2;obtain ⟨wr2,h_wr2⟩:∃ x,x=wr:=⟨_,rfl⟩;subst h_wr2;obtain ⟨j,a2,n2,p2,HJ,rfl,rfl,HO3,HX3⟩:=hrel;have hsz3:=HX3.out.size;by_cases hjn:j<m
    ·obtain ⟨b,off,ha,hs0⟩:=(HI.out.ext (HX.out.trans HX3.out)).at hjn;subst ha;obtain ⟨s,hs⟩:∃ s,s=l[j]?.getD 0:=⟨_,rfl⟩;rw [<-hs] at hs0;have hsb:s<=9223372036854775807:=by rw [hs];exact HLB.out j
     have HLJ:=ae (show (memR (l.take j) k).length=j by simp [memR];have:=HL.out;omega);have HHP:=ae (iS s (k:Int) wr2 hsb);cases hhp:hasP s (k:Int)
     case' true =>
      rw [hhp] at HHP;have HDS:=ae (show memR (l.take j) k++[(1:Int)]=memR (l.take (j+1)) k from kW (l:=l) (j:=j) (k:=k) (b:=true) (by have:=HL.out;omega) (by rw [hs] at hhp;exact hhp));clear hhp
     case' false =>
      rw [hhp] at HHP;have HDS:=ae (show memR (l.take j) k++[(0:Int)]=memR (l.take (j+1)) k from kW (l:=l) (j:=j) (k:=k) (b:=false) (by have:=HL.out;omega) (by rw [hs] at hhp;exact hhp));clear hhp
     all_goals
      clear hs;go_wp2_with fail;refine HHP.out.mono ?_;rintro e w' ⟨rfl,rfl⟩
     ·go_wp2_with (first
       | (at_builtin;refine bw rfl _ _ rfl wr1.heap.size (.slice a2 n2 p2) _ rfl (HO3.out.ext (Ext.alloc _ _)) _ 1 _ [_] rfl (Ints.oneS _ _ _ _ (by simp)) (by rw [HLJ.out];omega) (by simp;omega) ?_;intro v5 w5 ho hg hnear;obtain ⟨a5,n5,p5,rfl,HN5⟩:=ho.var;have HO5:=ae ho;have X5:=ae (aq (HX3.out.trans (Ext.alloc _ _)) hg (fun j hj=>(HO3.out.lt j hj).1));clear ho hg hnear))
      go_roundg (g2-1)
      case measure=>have:=HJ.out;omega
      case rel=>exact ⟨j+1,a5,n5,p5,ae (by have:=HJ.out;omega),by go_num,rfl,ae (by rw [<-HDS.out];exact HO5.out),X5⟩
     ·go_wp2_with (first
       | (at_builtin;refine bw rfl _ _ rfl wr1.heap.size (.slice a2 n2 p2) _ rfl (HO3.out.ext (Ext.alloc _ _)) _ 1 _ [_] rfl (Ints.oneS _ _ _ _ (by simp)) (by rw [HLJ.out];omega) (by simp;omega) ?_;intro v5 w5 ho hg hnear;obtain ⟨a5,n5,p5,rfl,HN5⟩:=ho.var;have HO5:=ae ho;have X5:=ae (aq (HX3.out.trans (Ext.alloc _ _)) hg (fun j hj=>(HO3.out.lt j hj).1));clear ho hg hnear))
      go_roundg (g2-1)
      case measure=>have:=HJ.out;omega
      case rel=>exact ⟨j+1,a5,n5,p5,ae (by have:=HJ.out;omega),by go_num,rfl,ae (by rw [<-HDS.out];exact HO5.out),X5⟩
    ·have hjm:j=m:=by have:=HJ.out;omega
     subst hjm;have HT:=ae (show l.take j=l from List.take_of_length_le (by rw [HL.out];exact Nat.le_refl _));rw [HT.out] at HO3
     go_wp2_with (first
      | (at_builtin;refine ea rfl _ _ rfl w.heap.size (.slice a1 n1 p1) vs rfl ((HV.out.ext HX3.out).ext (Ext.alloc _ _)) _ _ 1 rfl (by simp;rfl) rfl (by have:=HLV.out;omega) (by simp;omega) ?_;intro v6 w6 ho hg hnear;obtain ⟨a6,n6,p6,rfl,HN6⟩:=ho.var;have HO6:=ae ho;have HR6:=ae (((HR.out.snoc HX3.out HO3.out hsz).ext (Ext.alloc _ _)).grownV ((HV.out.ext HX3.out).ext (Ext.alloc _ _)) hg);have X6:=ae (aq ((HX.out.trans HX3.out).trans (Ext.alloc _ _)) hg (fun j hj=>(HV.out.lt j hj).1));clear ho hg hnear))
     go_roundg (g1-1)
     case measure=>have:=HK.out;omega
     case rel=>exact ⟨k+1,a6,n6,p6,_,ae (by have:=HK.out;omega),by go_num,rfl,HO6,ae (by rw [<-pG];exact HR6.out),X6⟩
  ·have hkn:k=n:=by have:=HK.out;omega
   subst hkn;go_wp2_with fail;go_ret;exact ⟨⟨_,rfl,vs,HV.out,HR.out⟩,HX.out⟩
end Go.Proofs.YthjjfkeacobikaaGreat
