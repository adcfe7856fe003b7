import Derived.Test.YtdadoignenffgaaGreatDoorSvAllG28
import Derived.Deep.CutBlock
set_option linter.unusedVariables false
set_option linter.unusedSimpArgs false
namespace Go.Proofs.YtdadoignenffgaaGreatDoor
variable{tt:Tb}
set_option maxHeartbeats 16000000
set_option maxRecDepth 100000
open Go.RowKit
theorem Jl{p q:Int}(h:o9 (p,q)=true):zq (p,q)=decide (p≠0):=by
 have hb:=aL h;unfold zq;by_cases hp:p=0
 ·subst hp;have hg:gI 0 q=1:=by
   simp only[o9,Bool.and_eq_true,decide_eq_true_eq]at h;exact h.2.2
  have hq:q=1:=by
   unfold gI at hg;have:Int.gcd 0 q=q.natAbs:=by simp[Int.gcd]
   rw[this]at hg;simp only at hb;omega
  subst hq;simp
 ·rw[decide_eq_true hp,decide_eq_true];intro e;exact hp (congrArg Prod.fst e)
theorem eY.more{S:Nat}{a:j6}{na ca:Nat}{b:j6}{nb cb:Nat}{c:j6}{nc cc:Nat}{u v w:World}{o:Option (Tb×Nat)}(hx:Ext u v)(h:eY S a na ca b nb cb c nc cc v w o):eY S a na ca b nb cb c nc cc u w o:=⟨(Mod.of hx).trans h.1,h.2⟩
theorem se{N:Nat}{s0:Tb×Nat}{k:Nat}{I:Tb}{E G:Nat}(h':aY N s0 (k+1)=some (I,G))(h:aY N s0 k=some (tt,E))(hl:E<=1000):G<=1000:=by
 rw[ew,h,Option.bind_some]at h';unfold fN at h'
 split at h'
 ·cases h';exact hl
 ·split at h'
  ·cases h';exact hl
  ·split at h'
   ·cases h'
   ·next f e =>
    rw[Option.map_eq_some_iff]at h';obtain⟨x,_,hx⟩:=h';simp only[Prod.mk.injEq]at hx;simp only at e;omega
theorem sf{n m:Nat}{T0:Nat->Nat->Rat}{N:Nat}{s0:Tb×Nat}{k:Nat}{G:Tb}{I J:Nat}(E:wo n m T0 tt)(h:aY N s0 k=some (tt,I))(h':aY N s0 (k+1)=some (G,J)):wo n m T0 G:=by
 rw[ew,h,Option.bind_some]at h';unfold fN at h'
 split at h'
 ·cases h';exact E
 ·split at h'
  ·cases h';exact E
  ·split at h'
   ·cases h'
   ·rw[Option.map_eq_some_iff]at h';obtain⟨x,hx,he⟩:=h';simp only[Prod.mk.injEq]at he;obtain⟨rfl,_⟩:=he;exact eQ E hx
section
variable{w:World}{S:Nat}{a:j6}{na ca:Nat}{b:j6}{nb cb:Nat}{c:j6}{nc cc:Nat}{ra:j6}{rc:Nat}{ba:j6}{bc:Nat}{vs:List Value}{t:Tb}{n:Nat}{N m:Nat}{T0:Nat->Nat->Rat}
theorem eY.some{w w':World}{rn bn:Nat}{tt:Tb}{E:Nat}(hm:Mod S w w')(h:bz w' S a na ca b nb cb c nc cc ra rn rc ba bn bc vs tt E false)(hn:E<=1000):eY S a na ca b nb cb c nc cc w w' ((some (tt,1000-E)).map fun x=>(x.1,1000-x.2)) :=
 ⟨hm,ra,rn,rc,ba,bn,bc,vs,by show bz _ _ _ _ _ _ _ _ _ _ _ _ _ _ _ _ _ _ _ (1000-(1000-E)) _;rw[show 1000-(1000-E)=E by omega];exact h⟩
structure GN(w wr:World)(S:Nat)(a:j6)(na ca:Nat)(b:j6)(nb cb:Nat)(c:j6)(nc cc:Nat)(N m:Nat)(T0:Nat->Nat->Rat)(s0:Tb×Nat)(k:Nat)(nn:Nat)(f:Bool)(tt:Tb)(ra:j6)(rn rc:Nat)(ba:j6)(bn bc:Nat)(vs:List Value):Prop where
 mod:Mod S w wr
 st:bz wr S a na ca b nb cb c nc cc ra rn rc ba bn bc vs tt nn f
 go:f=false->aY N s0 k=some (tt,1000-nn)/\nn<=1000/\wo N m T0 tt/\rn=m/\bn=m
 no:f=true->aY N s0 k=none
theorem uH(h:bz w S a na ca b nb cb c nc cc ra m rc ba m bc vs t n false)(hT:wo N m T0 t)(hN:N<=1000)(hm:m<=1000)(hn:n<=1000):
 Calls Tryz.prog 169 #[.pointer (some ⟨S,0,none⟩)] w fun e w'=>e=.returned (.tuple #[])/\eY S a na ca b nb cb c nc cc w w' ((aY N (t,1000-n) m).map fun x=>(x.1,1000-x.2)):=by
 have H0:=ae (show GN w w S a na ca b nb cb c nc cc N m T0 (t,1000-n) 0 n false t ra m rc ba m bc vs from⟨Mod.refl _ _,h,fun _=>⟨rfl,hn,hT,rfl,rfl⟩,fun e=>by cases e⟩);have hlt:=lt_of_block h.box;clear h hT;go_enter Tryz.func169,Tryz.ntmps169
 go_wp2_with fail
 go_loopg [2] m (fun gk ii wr=>∃(k W:Nat) (f:Bool) (tt:Tb) (ra:j6) (rn rc:Nat) (ba:j6) (bn bc:Nat) (vs:List Value),b7 (gk+k=m)/\ii=.int .i64 (k:Int)/\b7 (GN w wr S a na ca b nb cb c nc cc N m T0 (t,1000-n) k W f tt ra rn rc ba bn bc vs))
 case atStart=>exact⟨0,n,false,t,_,_,_,_,_,_,_,ae e7,rfl,H0⟩
 case round =>
  obtain⟨g1,o6⟩:=b9 gk;subst o6;obtain⟨E,o4⟩:=b9 wr;subst o4;obtain⟨k,W,f,tt,ra,rn,rc,ba,bn,bc,vs,HK,rfl,HH⟩:=hrel;clear H0;obtain⟨l0,l1,l2,c0,c1,c2,c3,c4,cf⟩:=HH.o.st.cells;have XM:=lt_of_block HH.o.st.box;have BQ:=HH.o.mod.size;have yV:=HK.o;cases f
  ·obtain⟨hd,zv,YU,zu,Dn⟩:=HH.o.go rfl;subst zu;subst Dn;have HD:=ae hd;have HT:=ae YU;have AV:=ae YU.q8;rw[AV.o]at c2;have xm:=HH.o.st.tb.zB.rows.l8;have yI:=HH.o.st.tb.zB.rows.o0;have xL:=HH.o.st.tb.zB.basis.l8;have wU:=HH.o.st.tb.zB.basis.o0;clear hd YU;by_cases wm:k<bn
   ·obtain⟨eb,vd,AD,xj⟩:=HH.o.st.tb.zB.basis.at wm;subst AD;obtain⟨bb,xS⟩:=b9 (tt.basis[k]?.getD 0);rw[<-xS]at xj;have AF:=ae xS;have BU:(0:Int)<=(k:Int):=by omega
    have yx:(k:Int)<(bn:Int):=by omega
    clear xS
    go_upto_block 1 with fail
    go_cut [2] (fun s2 wx=>s2=.int .i64 (k:Int)/\eY S a na ca b nb cb c nc cc E wx ((aY N (t,1000-n) (k+1)).map fun x=>(x.1,1000-x.2)))
    case first =>
     go_upto_region 3 with fail;have k7:Ext E E.drew:=Ext.drew E;have k8:=ae (fun(w':World) (h:Ext E w')=>(⟨h.j9 c1,h.j9 c2,h.j9 xj,h⟩:w'.cell? ⟨S,4,none⟩=some (.slice (some ⟨eb,vd,none⟩) bn bc)/\w'.cell? ⟨S,5,none⟩=some (.int .i64 (N:Int))/\w'.cell? ⟨eb,vd+k,none⟩=some (.int .i64 bb)/\Ext E w'));refine wp_region_held_drew (S:=(fun w'=>w'.cell? ⟨S,4,none⟩=some (.slice (some ⟨eb,vd,none⟩) bn bc)/\w'.cell? ⟨S,5,none⟩=some (.int .i64 (N:Int))/\w'.cell? ⟨eb,vd+k,none⟩=some (.int .i64 bb)/\Ext E w')) e9 ?_ (fun k9=>?_)
     ·exact k8.o _ k7
     refine tk 0 ?_;refine tk 1 ?_;refine tk 2 ?_;refine tk 3 ?_;refine tk 4 ?_;refine tk 5 ?_;refine tk 6 ?_;refine tk 7 ?_;refine tk 8 ?_;refine tk 9 ?_;refine tk 10 ?_;refine tk 11 ?_;refine tk 12 ?_;refine tk 13 ?_;refine wpAnyH_done e9 ?_ _;obtain⟨w3,DF⟩:=b9 E.drew;have X3:=ae (show Ext E w3 by rw[DF];exact k7);rw[<-DF];have U:=ae (HH.o.st.ext X3.o);have Cc:=ae (HH.o.mod.trans (Mod.of X3.o));clear k7 l0 l1 l2 c0 c1 c2 c3 c4 cf xj DF k8 k9;obtain⟨l0,l1,l2,c0,c1,c2,c3,c4,cf⟩:=U.o.cells;rw[AV.o]at c2;by_cases Hh:bb<(N:Int)
     ·have HD1:=ae (lz HD.o (by rw[<-AF.o];exact Hh));go_wp2_with fail;go_meet;refine⟨rfl,?_⟩;rw[HD1.o];exact eY.some (Mod.of X3.o) U.o zv
     ·have Ef:=ae (show(N:Int)<=tt.basis[k]?.getD 0 by rw[<-AF.o];omega);have RF:=HT.o.row k wm;have xW:=ae RF.1;have HRV:=ae RF.2;clear RF;go_wp2_with fail
      go_loopg [3] N (fun gk jj wr=>∃j:Nat,b7 (gk+j=N)/\jj=.int .i64 (j:Int)/\b7 (((tt.row k).take j).all (fun c=>!zq c)=true)/\w3=wr)
      case atStart=>exact⟨0,ae e7,rfl,ae rfl,rfl⟩
      case round =>
       obtain⟨j,HJ,rfl,HA,rfl⟩:=hrel;by_cases yW:j<N
       ·obtain⟨IH,zT,ya,yn,yc,FQ,xr,o7⟩:=U.o.tb.zB.rows.at wm;subst FQ;have A5:yn=N+bn+1:=by rw[<-o7.hlen];exact xW.o
        have xG:=o7.l8;have Bt:=o7.o0;obtain⟨yb,vB,p,q,Bs,vK,EP,EO⟩:=o7.at (show j<yn by omega);subst Bs;have RM:(j:Int)<(yn:Int):=by omega
        have Bu:=HRV.o j e7;rw[show(tt.row k)[j]?.getD (0,0)=(p,q)from vK]at Bu;have wI:=ae (show(tt.row k)[j]?.getD (0,0)=(p,q)from vK);have O3:=ae (Jl Bu);clear vK o7 A5 Bu;by_cases Z:p=0
        ·have HA2:=ae (nH (by rw[xW.o];omega) wI.o HA.o (by rw[O3.o];simp[Z]));subst Z;go_wp2_with fail
         go_roundg (gk-1)
         case measure=>have:=HJ.o;omega
         case rel=>exact⟨j+1,ae (j1 HJ.o),by go_num,HA2,rfl⟩
        ·have hpp:(p != 0)=true:=by simpa using Z
         have BD:=ae (lv HD.o (j1 Ef.o) yW (by rw[xW.o];omega) HA.o (by rw[wI.o,O3.o];simpa using Z) e7);have B1:=ae (oe U.o HT.o hN hm zv wm yW);have Sa:=ae (show 1000-(1000-W)=W by omega);clear Z;go_wp2_with fail;refine B1.o.mono ?_;rintro e w6 ⟨rfl,Vw⟩;go_wp2_with fail;go_meet;exact⟨rfl,by rw[BD.o,Sa.o];exact eY.more X3.o Vw⟩
       ·have A6:N=j:=by have:=HJ.o;omega
        have BD:=ae (lw HD.o (j1 Ef.o) (by rw[A6];exact HA.o));clear A6;go_wp2_with fail;go_meet;refine⟨rfl,?_⟩;rw[BD.o];exact eY.some (Mod.of X3.o) U.o zv
    obtain⟨rfl,PY,FN,FM,I,K,Ga,J,G,O⟩:=hcut;have UU:=ae (HH.o.mod.trans PY);clear PY l0 l1 l2 c0 c1 c2 c3 c4 cf;cases hd:aY N (t,1000-n) (k+1)with
    | none =>
      rw[hd]at O;obtain⟨Q,n',Oy⟩:=O;have Z7:=ae (show GN w wc S a na ca b nb cb c nc cc N bn T0 (t,1000-n) (k+1) n' true Q FN FM I K Ga J G from⟨UU.o,Oy,fun e=>(by cases e),fun _=>hd⟩);clear Oy hd;go_wp2_with fail
      go_roundg (g1-1)
      case measure=>omega
      case rel=>exact⟨k+1,n',true,Q,_,_,_,_,_,_,_,ae e7,by go_num,Z7⟩
    | some st =>
      obtain⟨Q,f'⟩:=st;rw[hd]at O;have hf':f'<=1000:=by
       have hs:=se hd HD.o e7;exact hs
      have YT:=sf HT.o HD.o hd;have PL:=bz.same (show bz wc S a na ca b nb cb c nc cc FN FM I K Ga J G Q (1000-f') false from O) YT;have Z7:=ae (show GN w wc S a na ca b nb cb c nc cc N bn T0 (t,1000-n) (k+1) (1000-f') false Q FN FM I K Ga J G from⟨UU.o,O,fun _=>⟨by rw[hd];congr 2;omega,by omega,YT,PL.1,PL.2⟩,fun e=>by cases e⟩);clear O hd YT PL;go_wp2_with fail
      go_roundg (g1-1)
      case measure=>omega
      case rel=>exact⟨k+1,1000-f',false,Q,_,_,_,_,_,_,_,ae e7,by go_num,Z7⟩
   ·have vZ:bn=k:=by omega
    have Wb:=ae (show aY N (t,1000-n) bn=some (tt,1000-W)by rw[vZ];exact HD.o);clear vZ;go_wp2_with fail;refine bodyPost_end (results_none rfl _ _ _) rfl ⟨rfl,?_⟩;rw[Wb.o];exact eY.some HH.o.mod HH.o.st zv
  ·have Wb:=ae (show aY N (t,1000-n) m=none from jm (HH.o.no rfl) e7);by_cases wm:k<rn
   ·go_wp2_with fail;refine bodyPost_end (results_none rfl _ _ _) rfl ⟨rfl,?_⟩;rw[Wb.o];exact⟨HH.o.mod,_,_,_,_,_,_,_,_,_,HH.o.st⟩
   ·go_wp2_with fail;refine bodyPost_end (results_none rfl _ _ _) rfl ⟨rfl,?_⟩;rw[Wb.o];exact⟨HH.o.mod,_,_,_,_,_,_,_,_,_,HH.o.st⟩
end
end Go.Proofs.YtdadoignenffgaaGreatDoor
