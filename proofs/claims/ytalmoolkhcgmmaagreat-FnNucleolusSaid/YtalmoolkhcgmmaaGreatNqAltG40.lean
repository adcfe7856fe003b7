import Derived.Test.YtalmoolkhcgmmaaGreatNqAltG29
import Derived.Deep.CutBlock
set_option linter.unusedVariables false
set_option linter.unusedSimpArgs false
namespace Go.Proofs.YtalmoolkhcgmmaaGreat
variable{tt:Tb}
set_option maxHeartbeats 16000000
set_option maxRecDepth 100000
open Go.RowKit
theorem Ly{p q:Int}(h:o5 (p,q)=true):Al (p,q)=decide (p≠0):=by
 have hb:=aQ h;unfold Al;by_cases hp:p=0
 ·subst hp;have hg:gI 0 q=1:=by
   simp only[o5,Bool.and_eq_true,decide_eq_true_eq]at h;exact h.2.2
  have hq:q=1:=by
   unfold gI at hg;have:Int.gcd 0 q=q.natAbs:=by simp[Int.gcd]
   rw[this]at hg;simp only at hb;omega
  subst hq;simp
 ·rw[decide_eq_true hp,decide_eq_true];intro e;exact hp (congrArg Prod.fst e)
theorem fG.more{S:Nat}{a:j8}{na ca:Nat}{b:j8}{nb cb:Nat}{c:j8}{nc cc:Nat}{u v w:World}{o:Option (Tb×Nat)}(hx:Ext u v)(h:fG S a na ca b nb cb c nc cc v w o):fG S a na ca b nb cb c nc cc u w o:=⟨(Mod.of hx).trans h.1,h.2⟩
theorem tN{N:Nat}{s0:Tb×Nat}{k:Nat}{J:Tb}{G I:Nat}(h':br N s0 (k+1)=some (J,I))(h:br N s0 k=some (tt,G))(hl:G<=1000):I<=1000:=by
 rw[eX,h,Option.bind_some]at h';unfold gl at h'
 split at h'
 ·cases h';exact hl
 ·split at h'
  ·cases h';exact hl
  ·split at h'
   ·cases h'
   ·next f e =>
    rw[Option.map_eq_some_iff]at h';obtain⟨x,_,hx⟩:=h';simp only[Prod.mk.injEq]at hx;simp only at e;omega
theorem tO{n m:Nat}{T0:Nat->Nat->Rat}{N:Nat}{s0:Tb×Nat}{k:Nat}{G:Tb}{I J:Nat}(hT:xY n m T0 tt)(h:br N s0 k=some (tt,I))(h':br N s0 (k+1)=some (G,J)):xY n m T0 G:=by
 rw[eX,h,Option.bind_some]at h';unfold gl at h'
 split at h'
 ·cases h';exact hT
 ·split at h'
  ·cases h';exact hT
  ·split at h'
   ·cases h'
   ·rw[Option.map_eq_some_iff]at h';obtain⟨x,hx,he⟩:=h';simp only[Prod.mk.injEq]at he;obtain⟨rfl,_⟩:=he;exact eT hT hx
section
variable{w:World}{S:Nat}{a:j8}{na ca:Nat}{b:j8}{nb cb:Nat}{c:j8}{nc cc:Nat}{ra:j8}{rc:Nat}{ba:j8}{bc:Nat}{vs:List Value}{t:Tb}{n:Nat}{N m:Nat}{T0:Nat->Nat->Rat}
theorem fG.some{w w':World}{rn bn:Nat}{tt:Tb}{G:Nat}(hm:Mod S w w')(h:bI w' S a na ca b nb cb c nc cc ra rn rc ba bn bc vs tt G false)(hn:G<=1000):fG S a na ca b nb cb c nc cc w w' ((some (tt,1000-G)).map fun x=>(x.1,1000-x.2)) :=
 ⟨hm,ra,rn,rc,ba,bn,bc,vs,by show bI _ _ _ _ _ _ _ _ _ _ _ _ _ _ _ _ _ _ _ (1000-(1000-G)) _;rw[show 1000-(1000-G)=G by omega];exact h⟩
structure Jc(w wr:World)(S:Nat)(a:j8)(na ca:Nat)(b:j8)(nb cb:Nat)(c:j8)(nc cc:Nat)(N m:Nat)(T0:Nat->Nat->Rat)(s0:Tb×Nat)(k:Nat)(nn:Nat)(f:Bool)(tt:Tb)(ra:j8)(rn rc:Nat)(ba:j8)(bn bc:Nat)(vs:List Value):Prop where
 mod:Mod S w wr
 st:bI wr S a na ca b nb cb c nc cc ra rn rc ba bn bc vs tt nn f
 go:f=false->br N s0 k=some (tt,1000-nn)/\nn<=1000/\xY N m T0 tt/\rn=m/\bn=m
 no:f=true->br N s0 k=none
theorem wv(h:bI w S a na ca b nb cb c nc cc ra m rc ba m bc vs t n false)(hT:xY N m T0 t)(hN:N<=1000)(hm:m<=1000)(hn:n<=1000):
 Calls Tryz.prog 129 #[.pointer (some ⟨S,0,none⟩)] w fun e w'=>e=.returned (.tuple #[])/\fG S a na ca b nb cb c nc cc w w' ((br N (t,1000-n) m).map fun x=>(x.1,1000-x.2)):=by
 have H0:=ae (show Jc w w S a na ca b nb cb c nc cc N m T0 (t,1000-n) 0 n false t ra m rc ba m bc vs from⟨Mod.refl _ _,h,fun _=>⟨rfl,hn,hT,rfl,rfl⟩,fun e=>by cases e⟩);have hlt:=lt_of_block h.box;clear h hT;go_enter Tryz.func129,Tryz.ntmps129
 go_wp2_with fail
 go_loopg [2] m (fun gk ii wr=>∃(k u:Nat) (f:Bool) (tt:Tb) (ra:j8) (rn rc:Nat) (ba:j8) (bn bc:Nat) (vs:List Value),b7 (gk+k=m)/\ii=.int .i64 (k:Int)/\b7 (Jc w wr S a na ca b nb cb c nc cc N m T0 (t,1000-n) k u f tt ra rn rc ba bn bc vs))
 case atStart=>exact⟨0,n,false,t,_,_,_,_,_,_,_,ae b9,rfl,H0⟩
 case round =>
  obtain⟨g1,r7⟩:=b8 gk;subst r7;obtain⟨G,o6⟩:=b8 wr;subst o6;obtain⟨k,u,f,tt,ra,rn,rc,ba,bn,bc,vs,HK,rfl,HH⟩:=hrel;clear H0;obtain⟨l0,l1,l2,c0,c1,c2,c3,c4,cf⟩:=HH.o.st.cells;have hl1:=lt_of_block HH.o.st.box;have Cu:=HH.o.mod.size;have Bf:=HK.o;cases f
  ·obtain⟨hd,Bj,K,BF,ER⟩:=HH.o.go rfl;subst BF;subst ER;have HD:=ae hd;have HT:=ae K;have Cq:=ae K.q8;rw[Cq.o]at c2;have yC:=HH.o.st.tb.Be.rows.o3;have AX:=HH.o.st.tb.Be.rows.l9;have zN:=HH.o.st.tb.Be.basis.o3;have zx:=HH.o.st.tb.Be.basis.l9;clear hd K;by_cases yp:k<bn
   ·obtain⟨eb,xi,B2,yT⟩:=HH.o.st.tb.Be.basis.at yp;subst B2;obtain⟨bb,zd⟩:=b8 (tt.basis[k]?.getD 0);rw[<-zd]at yT;have AF:=ae zd;have FF:(0:Int)<=(k:Int):=by omega
    have BH:(k:Int)<(bn:Int):=by omega
    clear zd
    go_upto_block 1 with fail
    go_cut [2] (fun s2 wx=>s2=.int .i64 (k:Int)/\fG S a na ca b nb cb c nc cc G wx ((br N (t,1000-n) (k+1)).map fun x=>(x.1,1000-x.2)))
    case first =>
     go_upto_region 3 with fail;have k7:Ext G G.drew:=Ext.drew G;have k8:=ae (fun(w':World) (h:Ext G w')=>(⟨h.k6 c1,h.k6 c2,h.k6 yT,h⟩:w'.cell? ⟨S,4,none⟩=some (.slice (some ⟨eb,xi,none⟩) bn bc)/\w'.cell? ⟨S,5,none⟩=some (.int .i64 (N:Int))/\w'.cell? ⟨eb,xi+k,none⟩=some (.int .i64 bb)/\Ext G w'));refine wp_region_held_drew (S:=(fun w'=>w'.cell? ⟨S,4,none⟩=some (.slice (some ⟨eb,xi,none⟩) bn bc)/\w'.cell? ⟨S,5,none⟩=some (.int .i64 (N:Int))/\w'.cell? ⟨eb,xi+k,none⟩=some (.int .i64 bb)/\Ext G w')) e8 ?_ (fun k9=>?_)
     ·exact k8.o _ k7
     refine tk 0 ?_;refine tk 1 ?_;refine tk 2 ?_;refine tk 3 ?_;refine tk 4 ?_;refine tk 5 ?_;refine tk 6 ?_;refine tk 7 ?_;refine tk 8 ?_;refine tk 9 ?_;refine tk 10 ?_;refine tk 11 ?_;refine tk 12 ?_;refine tk 13 ?_;refine wpAnyH_done e8 ?_ _;obtain⟨w3,AK⟩:=b8 G.drew;have X3:=ae (show Ext G w3 by rw[AK];exact k7);rw[<-AK];have DL:=ae (HH.o.st.ext X3.o);have Ca:=ae (HH.o.mod.trans (Mod.of X3.o));clear k7 l0 l1 l2 c0 c1 c2 c3 c4 cf yT AK k8 k9;obtain⟨l0,l1,l2,c0,c1,c2,c3,c4,cf⟩:=DL.o.cells;rw[Cq.o]at c2;by_cases Ig:bb<(N:Int)
     ·have HD1:=ae (mI HD.o (by rw[<-AF.o];exact Ig));go_wp2_with fail;go_meet;refine⟨rfl,?_⟩;rw[HD1.o];exact fG.some (Mod.of X3.o) DL.o Bj
     ·have Kq:=ae (show(N:Int)<=tt.basis[k]?.getD 0 by rw[<-AF.o];omega);have U5:=HT.o.row k yp;have zT:=ae U5.1;have HRV:=ae U5.2;clear U5;go_wp2_with fail
      go_loopg [3] N (fun gk jj wr=>∃j:Nat,b7 (gk+j=N)/\jj=.int .i64 (j:Int)/\b7 (((tt.row k).take j).all (fun c=>!Al c)=true)/\w3=wr)
      case atStart=>exact⟨0,ae b9,rfl,ae rfl,rfl⟩
      case round =>
       obtain⟨j,HJ,rfl,HA,rfl⟩:=hrel;by_cases zt:j<N
       ·obtain⟨KD,By,ya,yn,yc,Hr,y9,o9⟩:=DL.o.tb.Be.rows.at yp;subst Hr;have Dn:yn=N+bn+1:=by rw[<-o9.hlen];exact zT.o
        have xM:=o9.o3;have D1:=o9.l9;obtain⟨yb,xB,p,q,Da,xk,Gp,Gn⟩:=o9.at (show j<yn by omega);subst Da;have Vc:(j:Int)<(yn:Int):=by omega
        have Fi:=HRV.o j b9;rw[show(tt.row k)[j]?.getD (0,0)=(p,q)from xk]at Fi;have yt:=ae (show(tt.row k)[j]?.getD (0,0)=(p,q)from xk);have R5:=ae (Ly Fi);clear xk o9 Dn Fi;by_cases D6:p=0
        ·have Zs:=ae (pd (by rw[zT.o];omega) yt.o HA.o (by rw[R5.o];simp[D6]));subst D6;go_wp2_with fail
         go_roundg (gk-1)
         case measure=>have:=HJ.o;omega
         case rel=>exact⟨j+1,ae (j4 HJ.o),by go_num,Zs,rfl⟩
        ·have hpp:(p != 0)=true:=by simpa using D6
         have Gf:=ae (mG HD.o (j4 Kq.o) zt (by rw[zT.o];omega) HA.o (by rw[yt.o,R5.o];simpa using D6) b9);have DM:=ae (pD DL.o HT.o hN hm Bj yp zt);have OM:=ae (show 1000-(1000-u)=u by omega);clear D6;go_wp2_with fail;refine DM.o.mono ?_;rintro e w6 ⟨rfl,ZL⟩;go_wp2_with fail;go_meet;exact⟨rfl,by rw[Gf.o,OM.o];exact fG.more X3.o ZL⟩
       ·have Ah:N=j:=by have:=HJ.o;omega
        have Gf:=ae (mH HD.o (j4 Kq.o) (by rw[Ah];exact HA.o));clear Ah;go_wp2_with fail;go_meet;refine⟨rfl,?_⟩;rw[Gf.o];exact fG.some (Mod.of X3.o) DL.o Bj
    obtain⟨rfl,U',Hn,Hm,J,R,Iq,O,I,W⟩:=hcut;have Y0:=ae (HH.o.mod.trans U');clear U' l0 l1 l2 c0 c1 c2 c3 c4 cf;cases hd:br N (t,1000-n) (k+1)with
    | none =>
      rw[hd]at W;obtain⟨Z,n',Rl⟩:=W;have U:=ae (show Jc w wc S a na ca b nb cb c nc cc N bn T0 (t,1000-n) (k+1) n' true Z Hn Hm J R Iq O I from⟨Y0.o,Rl,fun e=>(by cases e),fun _=>hd⟩);clear Rl hd;go_wp2_with fail
      go_roundg (g1-1)
      case measure=>omega
      case rel=>exact⟨k+1,n',true,Z,_,_,_,_,_,_,_,ae b9,by go_num,U⟩
    | some st =>
      obtain⟨Z,f'⟩:=st;rw[hd]at W;have ZR:f'<=1000:=by
       have hs:=tN hd HD.o b9;exact hs
      have hTi:=tO HT.o HD.o hd;have S4:=bI.same (show bI wc S a na ca b nb cb c nc cc Hn Hm J R Iq O I Z (1000-f') false from W) hTi;have U:=ae (show Jc w wc S a na ca b nb cb c nc cc N bn T0 (t,1000-n) (k+1) (1000-f') false Z Hn Hm J R Iq O I from⟨Y0.o,W,fun _=>⟨by rw[hd];congr 2;omega,by omega,hTi,S4.1,S4.2⟩,fun e=>by cases e⟩);clear W hd hTi S4;go_wp2_with fail
      go_roundg (g1-1)
      case measure=>omega
      case rel=>exact⟨k+1,1000-f',false,Z,_,_,_,_,_,_,_,ae b9,by go_num,U⟩
   ·have xQ:bn=k:=by omega
    have HDE:=ae (show br N (t,1000-n) bn=some (tt,1000-u)by rw[xQ];exact HD.o);clear xQ;go_wp2_with fail;refine bodyPost_end (results_none rfl _ _ _) rfl ⟨rfl,?_⟩;rw[HDE.o];exact fG.some HH.o.mod HH.o.st Bj
  ·have HDE:=ae (show br N (t,1000-n) m=none from ki (HH.o.no rfl) b9);by_cases yp:k<rn
   ·go_wp2_with fail;refine bodyPost_end (results_none rfl _ _ _) rfl ⟨rfl,?_⟩;rw[HDE.o];exact⟨HH.o.mod,_,_,_,_,_,_,_,_,_,HH.o.st⟩
   ·go_wp2_with fail;refine bodyPost_end (results_none rfl _ _ _) rfl ⟨rfl,?_⟩;rw[HDE.o];exact⟨HH.o.mod,_,_,_,_,_,_,_,_,_,HH.o.st⟩
end
end Go.Proofs.YtalmoolkhcgmmaaGreat
