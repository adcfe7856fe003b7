import Derived.Test.YtdadoignenffgaaGreatDoorEbAllG19
import Derived.Test.YtdadoignenffgaaGreatDoorEbAllG12
import Derived.Test.YtdadoignenffgaaGreatDoorEbAllG6
set_option linter.unusedVariables false
set_option linter.unusedSimpArgs false
namespace Go.Proofs.YtdadoignenffgaaGreatDoor
variable{w:World}{vs:List Value}{t:Tb}{N m:Nat}{T0:Nat->Nat->Rat}
set_option maxHeartbeats 16000000
set_option maxRecDepth 100000
open Go.RowKit
structure bS(w:World)(S:Nat)(a:j6)(na ca:Nat)(b:j6)(nb cb:Nat)(c:j6)(nc cc:Nat)(ra:j6)(rn rc:Nat)(ba:j6)(bn bc:Nat)(vs:List Value)(t:Tb)(n:Nat)(f:Bool):Prop where
 box:w.heap[S]?=some (.cells #[.slice a na ca,.slice b nb cb,.slice c nc cc,.slice ra rn rc,.slice ba bn bc,.int .i64 t.r7,.int .i64 (n:Int),.bool f] 119 (0,0))
 tb:AJ w 0 (.slice ra rn rc) (.slice ba bn bc) vs t
theorem AJ.setW{base S k:Nat}{I G:Value}{c:Array Value}{z:Nat×Nat}{v:Value}(h:AJ w base I G vs t)(hb:w.heap[S]?=some (.cells c 119 z)):AJ (w.setCell ⟨S,k,none⟩ v) base I G vs t :=
 ⟨ei h.a hb (by decide),⟨h.rows.len,fun i hi=>ei (h.rows.row i hi) hb (by decide),h.rows.apart⟩,ei h.b hb (by decide)⟩
section
variable{w:World}{S:Nat}{a:j6}{na ca:Nat}{b:j6}{nb cb:Nat}{c:j6}{nc cc:Nat}{ra:j6}{rn rc:Nat}{ba:j6}{bn bc:Nat}{vs:List Value}{t:Tb}{n:Nat}{f:Bool}
theorem bS.ext{w':World}(h:bS w S a na ca b nb cb c nc cc ra rn rc ba bn bc vs t n f)(hx:Ext w w'):bS w' S a na ca b nb cb c nc cc ra rn rc ba bn bc vs t n f:=⟨(hx.block _ (mr h.box)).trans h.box,h.tb.ext hx⟩
theorem bS.cells(h:bS w S a na ca b nb cb c nc cc ra rn rc ba bn bc vs t n f):
 w.cell? ⟨S,0,none⟩=some (.slice a na ca)/\w.cell? ⟨S,1,none⟩=some (.slice b nb cb)/\w.cell? ⟨S,2,none⟩=some (.slice c nc cc)/\w.cell? ⟨S,3,none⟩=some (.slice ra rn rc)/\w.cell? ⟨S,4,none⟩=some (.slice ba bn bc)/\w.cell? ⟨S,5,none⟩=some (.int .i64 t.r7)/\w.cell? ⟨S,6,none⟩=some (.int .i64 (n:Int))/\w.cell? ⟨S,7,none⟩=some (.bool f)/\∀k,w.frozen? ⟨S,k,none⟩=false:=by
 have hb:=h.box;refine⟨?_,?_,?_,?_,?_,?_,?_,?_,fun k=>sd w S k _ _ hb⟩<;>rw[tn w S _ _ _ _ hb]<;>rfl
theorem bS.fail(h:bS w S a na ca b nb cb c nc cc ra rn rc ba bn bc vs t n f):bS (w.setCell ⟨S,7,none⟩ (.bool true)) S a na ca b nb cb c nc cc ra rn rc ba bn bc vs t n true :=
 ⟨ta w S 7 _ _ (.bool true) h.box,h.tb.setW h.box⟩
theorem bS.step(h:bS w S a na ca b nb cb c nc cc ra rn rc ba bn bc vs t n f){Q:j6}{U G:Nat}{J:j6}{Z I:Nat}{K:List Value}{O:Tb}(ho:AJ w 0 (.slice Q U G) (.slice J Z I) K O)(f':Bool):
 bS (((((w.setCell ⟨S,3,none⟩ (.slice Q U G)).setCell ⟨S,4,none⟩ (.slice J Z I)).setCell ⟨S,5,none⟩ (.int .i64 O.r7)).setCell ⟨S,6,none⟩ (.int .i64 ((n:Int)+1))).setCell ⟨S,7,none⟩ (.bool f')) S a na ca b nb cb c nc cc Q U G J Z I K O (n+1) f':=by
 have b1:=ta w S 3 _ _ (.slice Q U G) h.box;have b2:=ta _ S 4 _ _ (.slice J Z I) b1;have b3:=ta _ S 5 _ _ (.int .i64 O.r7) b2;have b4:=ta _ S 6 _ _ (.int .i64 ((n:Int)+1)) b3;have b5:=ta _ S 7 _ _ (.bool f') b4;refine⟨?_,((((ho.setW h.box).setW b1).setW b2).setW b3).setW b4⟩;rw[b5];have:((n+1:Nat):Int)=(n:Int)+1:=by simp
 rw[this];rfl
end
theorem o0.modW{w':World}{S b:Nat}{v:Value}{l:j4}(h:o0 w b v l)(hm:Mod S w w'){c:Array Value}{z:Nat×Nat}(hb:w.heap[S]?=some (.cells c 119 z)):o0 w' b v l :=
 h.keep fun k hk=>hm.block k (h.lt k hk).2 fun e=>(au h hb (by decide)) (by rw[hk,e])
def fT(S:Nat)(a:j6)(na ca:Nat)(b:j6)(nb cb:Nat)(c:j6)(nc cc:Nat)(w w':World)(o:Option (Tb×Nat)):Prop :=
 Mod S w w'/\∃ra rn rc ba bn bc vs,match o with
  | some (t,n)=>bS w' S a na ca b nb cb c nc cc ra rn rc ba bn bc vs t n false
  | none=>∃t n,bS w' S a na ca b nb cb c nc cc ra rn rc ba bn bc vs t n true
section
variable{w:World}{S:Nat}{a:j6}{na ca:Nat}{b:j6}{nb cb:Nat}{c:j6}{nc cc:Nat}{ra:j6}{rc:Nat}{ba:j6}{bc:Nat}{vs:List Value}{t:Tb}{n:Nat}
theorem rl{N m:Nat}{T0:Nat->Nat->Rat}(h:bS w S a na ca b nb cb c nc cc ra m rc ba m bc vs t n false)(G:Ak N m T0 t)(hN:N<=1000)(hm:m<=1000)(hn:n<=1000){r k:Nat}(hr:r<m)(hk:k<N):
 Calls Tryz.prog 218 #[.pointer (some ⟨S,0,none⟩),.int .i64 (r:Int),.int .i64 (k:Int)] w fun e w'=>e=.returned (.tuple #[])/\fT S a na ca b nb cb c nc cc w w' (B7 t n (r:Int) (k:Int)):=by
 have hlt:=mr h.box;obtain⟨l0,l1,l2,c0,c1,c2,c3,c4,cf⟩:=h.cells;have H:=ae h;rw[G.r7]at c2;by_cases Ip:n=1000
 ·subst Ip;have HP:=ae (show B7 t 1000 (r:Int) (k:Int)=none by unfold B7;rw[hI rfl]);clear h G;go_enter Tryz.func218,Tryz.ntmps218
  go_wp2_with fail;refine bR (aaF rfl _ _ _) rfl ⟨rfl,Mod.set _ _ _ _,?_⟩;rw[HP.o];exact⟨_,_,_,_,_,_,_,_,_,H.o.fail⟩
 ·have Qj:¬(n:Int)≥1000:=by omega
  have B1:n<1000:=by omega
  have FD:=ae (pU h.tb.CW G hN hm hr hk);have HP:=ae (show B7 t n (r:Int) (k:Int)=(bJ t (r:Int) (k:Int)).map fun O=>(O,n+1)by unfold B7;rw[hD Ip]);have Ea:=ae G.r7;clear h G Ip;unfold LK dL at FD;obtain⟨o,ho⟩:=b9 (bJ t (r:Int) (k:Int))
  have II:=ae (show(o.getD t).r7=(N:Int)by
   cases o with
   | none=>exact Ea.o
   | some O =>
      have h1:=ho.symm;unfold bJ at h1;split at h1
      ·unfold gJ at h1;cases hd:Dw (t.row (Int.toNat (r:Int))) (t.at (Int.toNat (r:Int)) (Int.toNat (k:Int)))with
       | none=>rw[hd]at h1;cases h1
       | some mm=>rw[hd,G3,U']at h1;obtain⟨rs,_,rfl⟩:=h1;exact Ea.o
      ·cases h1)
  rw[<-ho]at FD HP;clear ho;go_enter Tryz.func218,Tryz.ntmps218
  go_wp2_with fail;refine FD.o.mono ?_;rintro e w1 ⟨⟨va,vb,K,rfl,ho⟩,hx⟩;obtain⟨a7,U,Z,rfl,H9⟩:=ho.a.var;obtain⟨a8,Q,c8,rfl,IL⟩:=ho.b.var;rw[II.o];obtain⟨E1,I⟩:=b9 (w1.alloc (.cells #[.slice a7 U Z,.slice a8 Q c8,.int .i64 (N:Int)] 116));obtain⟨gE,S5⟩:=b9 w1.heap.size;have X1:=ae (show Ext w E1 by rw[I];exact hx.trans (Ext.alloc _ _));have HO:=ae (show AJ E1 0 (.slice a7 U Z) (.slice a8 Q c8) K (o.getD t)by rw[I];exact(ho.ext (Ext.alloc _ _)).mono (KJ _));have J:=ae (show E1.heap[gE]?=some (.cells #[.slice a7 U Z,.slice a8 Q c8,.int .i64 (N:Int)] 116 (0,0))by rw[I,S5];exact ai _ _ _ rfl);have HS:=ae (H.o.ext X1.o);go_upto_region 3 with fail;rw[<-I,<-S5];clear I S5 ho hx l0 l1 l2 c0 c1 c2 c3 c4 cf;obtain⟨l0,l1,l2,c0,c1,c2,c3,c4,cf⟩:=HS.o.cells;rw[Ea.o]at c2;have b0:=am J.o;have b1:=aD J.o;have b2:=aG J.o;have Ah:=mr J.o;have hne:gE≠S:=fun e=>jK J.o HS.o.box (by decide) e
  have AT:=ae (fun f'=>HS.o.step HO.o f');rw[II.o]at AT;cases o with
  | none =>
    go_wp2_with fail;refine ab8 (aaF rfl _ _ _) rfl ⟨rfl,(Mod.of X1.o).trans (((((Mod.set _ _ _ _).trans (Mod.set _ _ _ _)).trans (Mod.set _ _ _ _)).trans (Mod.set _ _ _ _)).trans (Mod.set _ _ _ _)),?_⟩;rw[HP.o];exact⟨_,_,_,_,_,_,_,_,_,AT.o true⟩
  | some O =>
    go_wp2_with fail;refine ab8 (aaF rfl _ _ _) rfl ⟨rfl,(Mod.of X1.o).trans (((((Mod.set _ _ _ _).trans (Mod.set _ _ _ _)).trans (Mod.set _ _ _ _)).trans (Mod.set _ _ _ _)).trans (Mod.set _ _ _ _)),?_⟩;rw[HP.o];exact⟨_,_,_,_,_,_,_,AT.o false⟩
end
def RunW(S:Nat)(a:j6)(na ca:Nat)(b:j6)(nb cb:Nat)(c:j6)(nc cc:Nat)(w:World)(e:Ending)(w':World)(o:Option Ph):Prop :=
 Mod S w w'/\∃ra rn rc ba bn bc vs,match o with
  | some p=>∃v,e=.returned (.tuple #[v,.int .i64 p.zp])/\o0 w' w.heap.size v p.costs/\bS w' S a na ca b nb cb c nc cc ra rn rc ba bn bc vs p.t (1000-p.left) false
  | none=>∃v zp t n,e=.returned (.tuple #[v,.int .i64 zp])/\bS w' S a na ca b nb cb c nc cc ra rn rc ba bn bc vs t n true
section
variable{w:World}{S:Nat}{a:j6}{na ca:Nat}{b:j6}{nb cb:Nat}{c:j6}{nc cc:Nat}
structure Pz(w wr:World)(S:Nat)(a:j6)(na ca:Nat)(b:j6)(nb cb:Nat)(c:j6)(nc cc:Nat)(N m:Nat)(T0:Nat->Nat->Rat)(cost:j4)(o:Option Ph)(gk:Nat)(nn:Nat)(tt:Tb)(ra:j6)(rc:Nat)(ba:j6)(bc:Nat)(vs:List Value):Prop where
 meas:gk=1000-nn
 mod:Mod S w wr
 st:bS wr S a na ca b nb cb c nc cc ra m rc ba m bc vs tt nn false
 inv:Ak N m T0 tt
 le:nn<=1000
 go:aY cost (1000-nn) tt=o
theorem bS.same{ra:j6}{rn rc:Nat}{ba:j6}{bn bc:Nat}{vs:List Value}{t:Tb}{n:Nat}{f:Bool}{N m:Nat}{T0:Nat->Nat->Rat}(h:bS w S a na ca b nb cb c nc cc ra rn rc ba bn bc vs t n f)(G:Ak N m T0 t):rn=m/\bn=m:=G.sizes h.tb.CW
theorem ri{ra:j6}{rc:Nat}{ba:j6}{bc:Nat}{vs:List Value}{t:Tb}{n:Nat}{N m:Nat}{T0:Nat->Nat->Rat}(h:bS w S a na ca b nb cb c nc cc ra m rc ba m bc vs t n false)(hT:Ak N m T0 t)(hN:N<=1000)(hm:m<=1000)(hn:n<=1000){ka:j6}{kn kc b0:Nat}{cost:j4}(hc:o0 w b0 (.slice ka kn kc) cost)(Ci:kn=N+m)(hv:Bb cost=true):
 Calls Tryz.prog 165 #[.pointer (some ⟨S,0,none⟩),.slice ka kn kc] w fun e w'=>RunW S a na ca b nb cb c nc cc w e w' (aY cost (1000-n) t):=by
 obtain⟨o,ho⟩:=b9 (aY cost (1000-n) t);rw[<-ho];have H0:=ae (show Pz w w S a na ca b nb cb c nc cc N m T0 cost o (1000-n) n t ra rc ba bc vs from⟨rfl,Mod.refl _ _,h,hT,hn,ho.symm⟩);have HC:=ae hc;have Au:=ae h.box;have Bs:=ae Ci;have QK:=ae hv;have hlt:=mr h.box;clear h hT ho hc Ci hv;go_enter Tryz.func165,Tryz.ntmps165
 go_wp2_with fail
 go_loopg [6] (1000-n) (fun gk s6 wr=>∃(G:Nat) (I:Tb) (ra:j6) (rc:Nat) (ba:j6) (bc:Nat) (vs:List Value),b7 (Pz w wr S a na ca b nb cb c nc cc N m T0 cost o gk G I ra rc ba bc vs))
 case atStart=>exact⟨n,t,_,_,_,_,_,H0⟩
 case round =>
  obtain⟨g1,o7⟩:=b9 gk;subst o7;obtain⟨o6,o5⟩:=b9 wr;subst o5;obtain⟨G,I,ra,rc,ba,bc,vs,HH⟩:=hrel;clear H0;obtain⟨J,l1,l2,c0,c1,c2,c3,c4,K⟩:=HH.o.st.cells;have YM:=mr HH.o.st.box;have DF:=HH.o.mod.size;have HT:=ae HH.o.inv;have B1:=HH.o.le;have Si:=ae HH.o.go;have Ea:=ae HH.o.inv.r7;rw[Ea.o]at c2;have QH:=ae (yD HH.o.st.tb.CW HT.o hN hm (HC.o.modW HH.o.mod Au.o).zj Bs.o QK.o);cases hcs:cJ I cost with
  | none =>
    have HO:=ae (show o=none by rw[<-Si.o];exact oQ _ hcs);rw[hcs]at QH;go_wp2_with fail;refine QH.o.mono ?_;simp only[aaa,acZ];rintro e w2 ⟨⟨v2,rfl,D7⟩,hx⟩;have HS:=ae (HH.o.st.ext hx);have HM:=ae (HH.o.mod.trans (Mod.of hx));clear D7 hx J l1 l2 c0 c1 c2 c3 c4 K hcs;obtain⟨J,l1,l2,c0,c1,c2,c3,c4,K⟩:=HS.o.cells;go_wp2_with fail
    go_ret2
    refine⟨HM.o.trans (Mod.set _ _ _ _),?_⟩;rw[HO.o];exact⟨_,_,_,_,_,_,_,_,_,_,_,rfl,HS.o.fail⟩
  | some cs =>
    rw[hcs]at QH;have Jd:=ae hcs;go_wp2_with fail;refine QH.o.mono ?_;simp only[l',aa7];rintro e w2 ⟨⟨v2,rfl,D7⟩,hx⟩;obtain⟨a2,n2,p2,rfl,Gu⟩:=D7.var;have HS:=ae (HH.o.st.ext hx);have HM:=ae (HH.o.mod.trans (Mod.of hx));have As:=ae (show o0 w2 w.heap.size (.slice a2 n2 p2) cs from o0.mono D7 DF);have IZ:N<=n2:=by have h1:=Gu.o;rw[(eu HT.o Jd.o).1.1]at h1;omega
    clear D7 hx J l1 l2 c0 c1 c2 c3 c4 K hcs;obtain⟨J,l1,l2,c0,c1,c2,c3,c4,K⟩:=HS.o.cells;rw[Ea.o]at c2;obtain⟨zp,Es⟩:=b9 (bz cs (N:Int));have CV:=ae Es;have U:=ae (show bz cs I.r7=zp by rw[Ea.o,Es]);have Yn:=iR cs N;rw[<-Es]at Yn;clear Es;go_upto_region 5 with fail;have k7:Ext w2 w2.drew:=Ext.drew w2;have zw:=k7;have k8:=ae (fun(w':World) (h:Ext w2 w')=>(⟨h.j9 c0,h.j9 c1,h.j9 c2,h⟩:w'.cell? ⟨S,3,none⟩=some (.slice ra m rc)/\w'.cell? ⟨S,4,none⟩=some (.slice ba m bc)/\w'.cell? ⟨S,5,none⟩=some (.int .i64 (N:Int))/\Ext w2 w'))
    go_region_held3 (fun w'=>w'.cell? ⟨S,3,none⟩=some (.slice ra m rc)/\w'.cell? ⟨S,4,none⟩=some (.slice ba m bc)/\w'.cell? ⟨S,5,none⟩=some (.int .i64 (N:Int))/\Ext w2 w')
     (with_reducible exact k8.o _ k7)
     (first
       | (go_at_call 216
          (with_reducible refine(nI (ra:=ra) (rn:=m) (rc:=rc) (ba:=ba) (bn:=m) (bc:=bc) (x:=(N:Int)) (As.o.zj.ext (by first|with_reducible exact k7|with_reducible exact zw|with_reducible exact k7.trans (Ext.alloc _ _))) N IZ).mono ?_)
          rw[<-CV.o];rintro e w3 ⟨rfl,y8⟩;have k7:Ext w2 w3:=k7.trans y8
          have F5:=k7.size)
       | fail)
    clear k8 zw;have Cz:=ae (HS.o.ext k7);have Fm:=ae (HM.o.trans (Mod.of k7));have zi:=ae (As.o.ext k7);clear k7 J l1 l2 c0 c1 c2 c3 c4 K
    rcases Yn with AB|⟨cN,Y9,It⟩
    ·subst AB;have HO:=ae (show o=some ⟨I,1000-G,cs,-1⟩by rw[<-Si.o];exact mI _ Jd.o (by rw[U.o];omega));go_wp2_with fail
     go_ret2
     refine⟨Fm.o,?_⟩;rw[HO.o];exact⟨_,_,_,_,_,_,_,_,rfl,zi.o,by rw[show 1000-(1000-G)=G by omega];exact Cz.o⟩
    ·subst Y9;obtain⟨J,l1,l2,c0,c1,c2,c3,c4,K⟩:=Cz.o.cells;rw[Ea.o]at c2;have I9:=ae (tG Cz.o.tb.CW HT.o hN hm It);obtain⟨row,o8⟩:=b9 (cW I (cN:Int));have CZ:=ae (show cW I (bz cs I.r7)=row by rw[U.o,o8]);have Ao:row=-1∨(0<=row/\row<m):=by
      rw[o8];unfold cW;split
      ·have:=jz I (Int.toNat (cN:Int)) I.rows.length;rw[HT.o.len]at this⊢;exact this
      ·exact aaJ rfl
     rw[<-o8]at I9;have hcn0:¬(cN:Int)<0:=by omega
     clear o8;go_wp2_with fail;refine I9.o.mono ?_;rintro e w4 ⟨rfl,hx⟩;have LU:=ae (Cz.o.ext hx);have Fl:=ae (Fm.o.trans (Mod.of hx));have Ar:=ae (zi.o.ext hx);clear hx J l1 l2 c0 c1 c2 c3 c4 K
     rcases Ao with A'|⟨A',AX⟩
     ·subst A'
      have HO:=ae (show o=some ⟨I,1000-G,cs,(cN:Int)⟩by
       rw[<-Si.o,mJ _ Jd.o (by rw[U.o];omega) (by rw[CZ.o];omega),U.o])
      go_wp2_with fail
      go_ret2
      refine⟨Fl.o,?_⟩;rw[HO.o];exact⟨_,_,_,_,_,_,_,_,rfl,Ar.o,by rw[show 1000-(1000-G)=G by omega];exact LU.o⟩
     ·obtain⟨Z,hrN⟩:∃k:Nat,row=k:=⟨row.toNat,by omega⟩;subst hrN;have CP:Z<m:=by omega
      have hrn0:¬(Z:Int)<0:=by omega
      have Hn:=ae (show o=(B7 I G (Z:Int) (cN:Int)).bind fun s=>aY cost (1000-s.2) s.1 by
       rw[<-Si.o,mK B1 Jd.o (by rw[U.o];omega) (by rw[CZ.o];omega),CZ.o,U.o])
      have FD:=ae (rl LU.o HT.o hN hm B1 CP It);have HME:=ae (show g1=1000-G from HH.o.meas);go_wp2_with fail;refine FD.o.mono ?_;rintro e w5 ⟨rfl,Fg,SH,TY,SG,Tm,Vo,Tl,QM,O⟩;cases DX:B7 I G (Z:Int) (cN:Int)with
      | none =>
        rw[DX]at O;obtain⟨t5,n5,EK⟩:=O;have HO:=ae (show o=none by rw[Hn.o,DX];rfl);have Ei:=ae EK;have D':=ae (Fl.o.trans Fg);clear EK DX Fg;obtain⟨J,l1,l2,c0,c1,c2,c3,c4,K⟩:=Ei.o.cells;go_wp2_with fail
        go_ret2
        refine⟨D'.o,?_⟩;rw[HO.o];exact⟨_,_,_,_,_,_,_,_,_,_,_,rfl,Ei.o⟩
      | some st =>
        obtain⟨t5,n5⟩:=st;rw[DX]at O;have C6:n5=G+1/\G<1000/\bJ I (Z:Int) (cN:Int)=some t5:=by
         unfold B7 at DX
         split at DX
         ·cases DX
         ·rw[U']at DX;obtain⟨t6,h6,h7⟩:=DX;simp only[aaG]at h7;obtain⟨rfl,rfl⟩:=h7;exact⟨rfl,by omega,h6⟩
        obtain⟨rfl,hlt5,Lv⟩:=C6;have HO:=ae (show aY cost (1000-(G+1)) t5=o by rw[Hn.o,DX];rfl);have Q:=fK HT.o Lv;obtain⟨e1,e2⟩:=bS.same O Q;have Mr:=e1.symm;have e2':=e2.symm;clear e1 e2;subst Mr;subst e2';have HH5:=ae (show Pz w w5 S a na ca b nb cb c nc cc N m T0 cost o (1000-(G+1)) (G+1) t5 SH SG Tm Tl QM from⟨rfl,Fl.o.trans Fg,O,Q,by omega,HO.o⟩);obtain⟨J,l1,l2,c0,c1,c2,c3,c4,K⟩:=bS.cells O;clear O DX Fg Lv Q;go_wp2_with fail
        go_roundg (1000-(G+1))
        case measure=>have:=HME.o;omega
        case rel=>exact⟨G+1,t5,_,_,_,_,_,HH5⟩
end
section
variable{w:World}{a:j6}{na ca:Nat}{b:j6}{nb cb:Nat}{c:j6}{nc cc:Nat}{A:j5}{B:j7}{C:j4}
def ib(first:Bool)(C:j4)(m:Nat):j4:=if first=true then ee C.length m else cz C m
theorem rh(h:EA w a na ca b nb cb c nc cc A B C)(first:Bool)(h1:nc<=1000)(h2:na<=1000):
 Calls Tryz.prog 166 #[DD a na ca b nb cb c nc cc,.bool first] w fun e w'=>(∃v,e=.returned v/\o0 w' w.heap.size v (ib first C na))/\Ext w w':=by
 have y9:=Ext.alloc w (bj a na ca b nb cb c nc cc);have y7:=ae y9;have zf:=ae (show(w.alloc (bj a na ca b nb cb c nc cc)).heap[w.heap.size]?=some (.cells #[.slice a na ca,.slice b nb cb,.slice c nc cc] 68 (0,0))from ai _ _ _ rfl);obtain⟨W,hW⟩:=b9 (w.alloc (bj a na ca b nb cb c nc cc));have H:=ae (h.ext y9);rw[<-hW]at y9 y7 zf H;have Ba:=h.c.l8;have CY:=h.c.l9;have Mq:=h.a.l8;have Mp:=h.a.l9;have HL:=ae h.c.hlen;have FM:W.heap.size=w.heap.size+1:=by rw[hW];simp
 have HO:=ae (o0.made W (w.heap.size+1) e7);have X0:=ae (Ext.alloc W (.cells #[] 62));rw[FM]at HO;clear h y9;go_enter Tryz.func166,Tryz.ntmps166
 go_upto_region 1 with fail;rw[<-hW];clear hW;obtain⟨D,Q⟩:=b9 (if first=true then List.replicate nc ((0:Int),(1:Int)) else C)
 have HD:=ae Q;have Fa:=ae (show D.length=nc by rw[Q];cases first<;>simp[HL.o])
 have TF:=ae (show ib first C na=D++List.replicate na (zA first,1)by
  unfold ib ee cz;rw[Q,HL.o];cases first<;>rfl)
 clear Q;go_wp2_with fail
 go_loopg [5,6] nc (fun gk oo ii wr=>∃(k:Nat) (a1:j6) (G p1:Nat),b7 (gk+k=nc)/\ii=.int .i64 (k:Int)/\oo=.slice a1 G p1/\b7 (o0 wr (w.heap.size+1) (.slice a1 G p1) (D.take k))/\b7 (Ext W wr))
 case atStart=>exact⟨0,_,_,_,ae e7,rfl,rfl,HO,X0⟩
 case round =>
  obtain⟨g1,o7⟩:=b9 gk;subst o7;obtain⟨o6,o5⟩:=b9 wr;subst o5;obtain⟨k,a1,G,q1,O,rfl,rfl,zv,HX⟩:=hrel;have p2:=aG (HX.o.blk zf.o);have hsz:=HX.o.size;by_cases hlt:k<nc
  ·have AN:=ae (show(D.take k).length=k by rw[FX,Fa.o];omega);have Bw:=ae (fun(p:j8) (hp:D[k]?.getD (0,0)=p)=>show D.take k++[p]=D.take (k+1)by rw[gN (by rw[Fa.o];exact hlt),hp]);cases first
   ·obtain⟨eb,zl,ex,Z,DT,Mo,AV,Ed⟩:=(H.o.ext HX.o).c.at hlt;subst DT;have B6:=ae (Bw.o (ex,Z) (by rw[HD.o];exact Mo));clear Mo
    go_wp2_with (first
     | (at_builtin;refine aM rfl _ _ rfl (w.heap.size+1) (.slice a1 G q1) _ rfl (zv.o.ext (Ext.alloc _ _)) _ 1 _ [(ex,Z)] rfl (Rats.one' _ _ _ _ _ e8) (by rw[AN.o];omega) (by simp;omega) ?_;intro v5 w5 ho hg k9;have X5:=ae (ak (HX.o.trans (Ext.alloc _ _)) hg (fun j hj=>by have:=(zv.o.lt j hj).1;omega));obtain⟨a5,K,J,rfl,CF⟩:=ho.var;have zW:=ae ho;clear ho hg k9))
    go_roundg (g1-1)
    case measure=>have:=O.o;omega
    case rel=>exact⟨k+1,a5,K,J,ae (j1 O.o),by go_num,rfl,ae (by rw[<-B6.o];exact zW.o),X5⟩
   ·have B6:=ae (Bw.o (0,1) (by rw[HD.o];exact tv hlt));go_wp2_with fail;refine(cO 0 _).mono ?_;rintro e w3 ⟨rfl,hx⟩;have X3:=ae (HX.o.trans hx);have I:=ae (zv.o.ext hx);have F6:=X3.o.size;clear hx p2
    go_wp2_with (first
     | (at_builtin;refine aM rfl _ _ rfl (w.heap.size+1) (.slice a1 G q1) _ rfl (I.o.ext (Ext.alloc _ _)) _ 1 _ [(0,1)] rfl (Rats.one' _ _ _ _ _ e8) (by rw[AN.o];omega) (by simp;omega) ?_;intro v5 w5 ho hg k9;have X5:=ae (ak (X3.o.trans (Ext.alloc _ _)) hg (fun j hj=>by have:=(I.o.lt j hj).1;omega));obtain⟨a5,K,J,rfl,CF⟩:=ho.var;have zW:=ae ho;clear ho hg k9))
    go_roundg (g1-1)
    case measure=>have:=O.o;omega
    case rel=>exact⟨k+1,a5,K,J,ae (j1 O.o),by go_num,rfl,ae (by rw[<-B6.o];exact zW.o),X5⟩
  ·have Cr:k=nc:=by have:=O.o;omega
   have As:=ae (show o0 o6 (w.heap.size+1) (.slice a1 G q1) (D++List.replicate 0 (zA first,1))by
    have:=zv.o;rw[p4 (by rw[Fa.o];omega)]at this;simpa using this)
   clear Cr;go_wp2_with fail;clear p2
   go_loopg [5,7] na (fun gk oo ii wr=>∃(k:Nat) (a1:j6) (G p1:Nat),b7 (gk+k=na)/\ii=.int .i64 (k:Int)/\oo=.slice a1 G p1/\b7 (o0 wr (w.heap.size+1) (.slice a1 G p1) (D++List.replicate k (zA first,1)))/\b7 (Ext W wr))
   case atStart=>exact⟨0,_,_,_,ae e7,rfl,rfl,As,HX⟩
   case round =>
    obtain⟨g2,Am⟩:=b9 gk;subst Am;obtain⟨wr2,zx⟩:=b9 wr;subst zx;obtain⟨j,a2,n2,q2,HJ,rfl,rfl,Ar,U⟩:=hrel;have p0:=am (U.o.blk zf.o);have Rq:=U.o.size;by_cases Ca:j<na
    ·have AN:=ae (show(D++List.replicate j (zA first,(1:Int))).length=nc+j by rw[pk,Fa.o,O5]);have Md:=ae (fun w'=>fk first w');go_wp2_with (first|(go_at_call 104;refine(Md.o _).mono ?_;rintro e w2 ⟨rfl,rfl⟩));refine(cO (zA first) _).mono ?_;rintro e w3 ⟨rfl,hx⟩;have X3:=ae (U.o.trans hx);have I:=ae (Ar.o.ext hx);have F6:=X3.o.size;clear hx p0
     go_wp2_with (first
      | (at_builtin;refine aM rfl _ _ rfl (w.heap.size+1) (.slice a2 n2 q2) _ rfl (I.o.ext (Ext.alloc _ _)) _ 1 _ [(zA first,1)] rfl (Rats.one' _ _ _ _ _ e8) (by rw[AN.o];omega) (by simp;omega) ?_;intro v5 w5 ho hg k9;have X5:=ae (ak (X3.o.trans (Ext.alloc _ _)) hg (fun j hj=>by have:=(I.o.lt j hj).1;omega));obtain⟨a5,K,J,rfl,CF⟩:=ho.var;have zW:=ae ho;clear ho hg k9))
     go_roundg (g2-1)
     case measure=>have:=HJ.o;omega
     case rel=>exact⟨j+1,a5,K,J,ae (j1 HJ.o),by go_num,rfl,ae (by have:=zW.o;rw[N7,<-aaA]at this;exact this),X5⟩
    ·have Ga:na=j:=by have:=HJ.o;omega
     subst Ga;go_wp2_with fail;go_ret;exact⟨⟨_,rfl,by rw[TF.o];exact Ar.o.mono e7⟩,y7.o.trans U.o⟩
end
theorem MT(a b:j8):-1000000000<=(zI a b).1.1/\(zI a b).1.1<=1000000000:=by
 cases h:(zI a b).2
 ·rw[rt h];simp
 ·have:=aQ (lZ h).2.2.1;omega
theorem ah.put0{W:World}{g:Nat}{p q:Int}(h:ah w W g p q)(G:Int):ah w (W.setCell ⟨g,0,none⟩ (.int .i64 G)) g G q :=
 ⟨h.ext.setCell (p:=⟨g,0,none⟩) h.ge (.int .i64 G),h.ge,by rw[ta _ _ _ _ _ _ h.cell];rfl⟩
section
variable{w:World}{S:Nat}{a:j6}{na ca:Nat}{b:j6}{nb cb:Nat}{c:j6}{nc cc:Nat}{ra:j6}{rn rc:Nat}{ba:j6}{bn bc:Nat}{vs:List Value}{t:Tb}{n:Nat}{f:Bool}
theorem tP{N:Nat}(h:bS w S a na ca b na cb c nc cc ra rn rc ba bn bc vs t n f)(Cu:t.r7=N){B:j7}(hB:Ints w b na cb B)(hca1:na<=ca)(hca2:ca<=9223372036854775807){ka:j6}{Q kc:Nat}{cs:j4}(hK:Rats w ka Q kc cs)(zQ:N+na<=Q)(hbig:Q<=100000)(base:Int):
 Calls Tryz.prog 168 #[.pointer (some ⟨S,0,none⟩),.slice ka Q kc,.int .i64 base] w fun e w'=>(∃v,e=.returned v/\o0 w' w.heap.size v ((List.range na).map (dA B (base,1) cs N)))/\Ext w w':=by
 have H:=ae h;have hlt:=mr h.box;have HB:=ae hB;have HK':=ae hK;have AS:=hB.l8;have AD:=hB.l9;have BR:=hK.l8;have Ks:=hK.l9;have Ea:=ae Cu;have HO:=ae (o0.made w w.heap.size (ao _));have X0:=ae (Ext.alloc w (.cells #[] 62));clear h hB hK Cu;go_enter Tryz.func168,Tryz.ntmps168
 go_wp2_with fail
 go_loopg [7,8] na (fun gk oo ii wr=>∃(k:Nat) (a1:j6) (n1 p1:Nat),b7 (gk+k=na)/\ii=.int .i64 (k:Int)/\oo=.slice a1 n1 p1/\b7 (o0 wr w.heap.size (.slice a1 n1 p1) ((List.range k).map (dA B (base,1) cs N)))/\b7 (Ext w wr))
 case atStart=>exact⟨0,_,_,_,ae e7,rfl,rfl,HO,X0⟩
 case round =>
  obtain⟨g1,o7⟩:=b9 gk;subst o7;obtain⟨G,o5⟩:=b9 wr;subst o5;obtain⟨k,a1,n1,q1,L6,rfl,rfl,zv,HX⟩:=hrel;have hsz:=HX.o.size;obtain⟨l0,l1,l2,c0,c1,c2,c3,c4,cf⟩:=(H.o.ext HX.o).cells;rw[Ea.o]at c2;by_cases Ah:k<na
  ·obtain⟨z,hz⟩:=b9 (N+k);have XG:z<Q:=by omega
   obtain⟨zb,zL,ex,Z,Dp,Mo,AV,K⟩:=(HK'.o.ext HX.o).at XG;subst Dp;obtain⟨d1,d2,Fz,I⟩:∃x y ok,zI (base,1) (ex,Z)=((x,y),ok):=⟨_,_,_,rfl⟩;have EH:=ae I;have UR:=MT (base,1) (ex,Z);rw[I]at UR;have Kj:IntKind.i64.wrap (-d1)=-d1:=by rw[cn];simp only at UR;omega
   obtain⟨bb,Cp,hba,Cn⟩:=(HB.o.ext HX.o).at Ah;subst hba;obtain⟨bi,B3⟩:=b9 (B[k]?.getD 0);rw[<-B3]at Cn;have EO:=ae Cn;have L9:=ae (show dA B (base,1) cs N k=BX bi (d1,d2)by unfold dA;rw[<-hz,Mo,I,B3]);have Qf:IntKind.i64.wrap ((N:Int)+(k:Int))=(z:Int):=by rw[cn];omega
   have NT:(0:Int)<=(z:Int):=by omega
   have NS:(z:Int)<(Q:Int):=by omega
   clear Mo I B3 hz UR;go_upto_region 5 with fail;go_upto_region 5 with fail
   go_cut [9,10] (fun sx so wx=>∃g:Nat,sx=.pointer (some ⟨g,0,none⟩)/\so=.bool Fz/\b7 (ah G wx g d1 d2))
   case first =>
    have k7:Ext G G.drew:=Ext.drew G;have zw:Ext G (G.alloc (.cells #[.int .i64 0,.int .i64 0] 62)).drew:=(Ext.alloc _ _).trans (Ext.drew _);have k8:=ae (fun(w':World) (h:Ext G w')=>(⟨h.j9 c2,h.j9 AV,h.j9 K,h⟩:w'.cell? ⟨S,5,none⟩=some (.int .i64 (N:Int))/\w'.cell? ⟨zb,zL+z*2,none⟩=some (.int .i64 ex)/\w'.cell? ⟨zb,zL+z*2+1,none⟩=some (.int .i64 Z)/\Ext G w'))
    go_region_held3 (fun w'=>w'.cell? ⟨S,5,none⟩=some (.int .i64 (N:Int))/\w'.cell? ⟨zb,zL+z*2,none⟩=some (.int .i64 ex)/\w'.cell? ⟨zb,zL+z*2+1,none⟩=some (.int .i64 Z)/\Ext G w')
     (first
       | with_reducible exact k8.o _ k7
       | with_reducible exact k8.o _ zw
       | with_reducible exact k8.o _ ((k7.setCell (by first|(simp;done)|(simp;omega)) _).setCell (by first|(simp;done)|(simp;omega)) _)
       | with_reducible exact k8.o _ (k7.trans (Ext.alloc _ _))
       | with_reducible exact k8.o _ (q8.put _ _).ext)
     (first
       | (go_at_call 49
          (with_reducible refine(cO base _).mono ?_)
          rintro e w7 ⟨rfl,O⟩
          first|(with_reducible have q8:=ah.grow q8 O)|(with_reducible have q8:=ah.zu O)|(with_reducible have q8:=ah.zy k7 O)|skip
          first|(have Dy:=q8.c0;have Dx:=q8.c1;have Ev:=q8.free)|skip
          have k7:Ext G w7:=by first|with_reducible exact k7.trans O|with_reducible exact zw.trans O|with_reducible exact(k7.trans (Ext.alloc _ _)).trans O
          have A0:=k7.size)
       | (go_at_call 180
          (with_reducible refine(tJ base 1 ex Z _).mono ?_)
          rw[EH.o];rintro e w8 ⟨rfl,U⟩
          first|(with_reducible have q8:=ah.grow q8 U)|(with_reducible have q8:=ah.zu U)|(with_reducible have q8:=ah.zy k7 U)|skip
          first|(have Dy:=q8.c0;have Dx:=q8.c1;have Ev:=q8.free)|skip
          have k7:Ext G w8:=by first|with_reducible exact k7.trans U|with_reducible exact zw.trans U|with_reducible exact(k7.trans (Ext.alloc _ _)).trans U
          have A0:=k7.size)
       | fail)
    all_goals(go_wp2_with fail;go_meet;first|exact⟨_,rfl,rfl,ae (q8.put _ _)⟩|exact⟨_,rfl,rfl,ae (ah.new k7 _ _)⟩|exact⟨_,rfl,rfl,ae (ah.new' k7 _ _ e8)⟩)
   obtain⟨g,rfl,rfl,J⟩:=hcut;have Le:=ae (HX.o.trans J.o.ext);clear Qf NT NS AV K l0 l1 l2 c0 c1 c2 c3 c4 cf Cn;obtain⟨l0,l1,l2,c0,c1,c2,c3,c4,cf⟩:=(H.o.ext Le.o).cells;have Cn:=J.o.ext.j9 EO.o;have As:=ae (zv.o.ext J.o.ext);obtain⟨e1,DQ⟩:∃e1,BX bi (d1,d2)=(e1,d2):=by unfold BX ze;split<;>exact⟨_,rfl⟩
   have Eh:=ae DQ;clear DQ
   go_upto_if 46 with fail
   go_cut [8] (fun s8 wx=>s8=.int .i64 (k:Int)/\b7 (ah G wx g e1 d2))
   case first =>
    have g0:=J.o.c0;have g1':=J.o.c1;have gf:=J.o.free;by_cases Hc:bi<0
    ·have K:-d1=e1:=by have:=Eh.o;unfold BX ze at this;rw[hI Hc]at this;exact Jr Prod.fst this
     rw[show decide (bi<0)=true from z' Hc];have HBN:=ae (J.o.put0 e1);rw[K]at Kj;clear Hc;go_wp2_with fail;go_meet;exact⟨rfl,by first|exact HBN|(rw[K];exact HBN)⟩
    ·have K:e1=d1:=by have:=Eh.o;unfold BX at this;rw[hD e7]at this;exact(Jr Prod.fst this).symm
     subst K;rw[show decide (bi<0)=false from u' e7];go_wp2_with fail;go_meet;exact⟨rfl,J⟩
   obtain⟨rfl,A6⟩:=hcut;have zi:=ae (zv.o.ext A6.o.ext);have zk:=ae (HX.o.trans A6.o.ext);have g0:=A6.o.c0;have g1':=A6.o.c1;have I1:=A6.o.lt;have F6:=zk.o.size;have Hi:=ae (show((List.range k).map (dA B (base,1) cs N)).length=k by simp);have Bw:=ae (show(List.range k).map (dA B (base,1) cs N)++[(e1,d2)]=(List.range (k+1)).map (dA B (base,1) cs N)by rw[<-Eh.o,<-L9.o];exact dm _ _);clear l0 l1 l2 c0 c1 c2 c3 c4 cf Cn Kj
   go_wp2_with (first
    | (at_builtin;refine aM rfl _ _ rfl w.heap.size (.slice a1 n1 q1) _ rfl (zi.o.ext (Ext.alloc _ _)) _ 1 _ [(e1,d2)] rfl (Rats.one' _ _ _ _ _ e8) (by rw[Hi.o];omega) (by simp;omega) ?_;intro v5 w5 ho hg k9;have X5:=ae (ak (zk.o.trans (Ext.alloc _ _)) hg (fun j hj=>(zi.o.lt j hj).1));obtain⟨a5,n5,p5,rfl,CF⟩:=ho.var;have zW:=ae ho;clear ho hg k9))
   go_roundg (g1-1)
   case measure=>have:=L6.o;omega
   case rel=>exact⟨k+1,a5,n5,p5,ae (j1 L6.o),by go_num,rfl,ae (by rw[<-Bw.o];exact zW.o),X5⟩
  ·have Jw:na=k:=by have:=L6.o;omega
   subst Jw;go_wp2_with fail;go_ret;exact⟨⟨_,rfl,zv.o⟩,HX.o⟩
end
section
variable{w:World}{S:Nat}{a:j6}{na ca:Nat}{b:j6}{nb cb:Nat}{c:j6}{nc cc:Nat}{ra:j6}{rc:Nat}{ba:j6}{bc:Nat}{vs:List Value}{t:Tb}{n:Nat}{N m:Nat}{T0:Nat->Nat->Rat}
theorem QU(h:bS w S a na ca b nb cb c nc cc ra m rc ba m bc vs t n false)(hT:Ak N m T0 t)(hN:N<=1000)(hm:m<=1000){I:Nat}(YQ:I<N):
 Calls Tryz.prog 171 #[.pointer (some ⟨S,0,none⟩),.int .i64 (I:Int)] w fun e w'=>(∃v,e=.returned v/\o0 w' w.heap.size v (AY t N I m))/\Ext w w':=by
 have H:=ae h;have hlt:=mr h.box;have HT:=ae hT;have Ea:=ae hT.r7;have AX:=h.tb.CW.rows.l8;have B9:=h.tb.CW.rows.l9;have AS:=h.tb.CW.basis.l8;have AD:=h.tb.CW.basis.l9;have HO:=ae (o0.made w w.heap.size (ao _));have X0:=ae (Ext.alloc w (.cells #[] 62));clear h hT;go_enter Tryz.func171,Tryz.ntmps171
 go_wp2_with fail
 go_loopg [5,6] N (fun gk oo ii wr=>∃(k:Nat) (a1:j6) (n1 p1:Nat),b7 (gk+k=N)/\ii=.int .i64 (k:Int)/\oo=.slice a1 n1 p1/\b7 (o0 wr w.heap.size (.slice a1 n1 p1) ((List.range k).map fun i=>if i=I then((1:Int),(1:Int)) else(0,1)))/\b7 (Ext w wr))
 case atStart=>exact⟨0,_,_,_,ae e7,rfl,rfl,HO,X0⟩
 case round =>
  obtain⟨g1,o7⟩:=b9 gk;subst o7;obtain⟨o6,o5⟩:=b9 wr;subst o5;obtain⟨k,a1,n1,q1,L6,rfl,rfl,zv,HX⟩:=hrel;have hsz:=HX.o.size;obtain⟨l0,l1,l2,c0,c1,c2,c3,c4,cf⟩:=(H.o.ext HX.o).cells;rw[Ea.o]at c2;by_cases Ah:k<N
  ·have AN:=ae (show((List.range k).map fun i=>if i=I then((1:Int),(1:Int)) else(0,1)).length=k by simp);obtain⟨un,EJ⟩:∃u:Int,u=if k=I then 1 else 0:=⟨_,rfl⟩
   have Bw:=ae (show(List.range k).map (fun i=>if i=I then((1:Int),(1:Int)) else(0,1))++[(un,1)]=(List.range (k+1)).map fun i=>if i=I then((1:Int),(1:Int)) else(0,1)by
    rw[<-dm,EJ];congr 2;split<;>rfl)
   have Ow:((k:Int) == (I:Int))=decide (k=I):=by by_cases h:k=I<;>simp[h]<;>omega
   have HUN:=ae (show zA (decide (k=I))=un by rw[EJ];by_cases h:k=I<;>simp[h,zA]);have Md:=ae (fun w'=>fk (decide (k=I)) w');rw[HUN.o]at Md;clear EJ;go_wp2_with (first|(go_at_call 104;refine(Md.o _).mono ?_;rintro e w2 ⟨rfl,rfl⟩));clear Ow;refine(cO un _).mono ?_;rintro e w3 ⟨rfl,hx⟩;have X3:=ae (HX.o.trans hx);have zi:=ae (zv.o.ext hx);have F6:=X3.o.size;clear hx l0 l1 l2 c0 c1 c2 c3 c4 cf
   go_wp2_with (first
    | (at_builtin;refine aM rfl _ _ rfl w.heap.size (.slice a1 n1 q1) _ rfl (zi.o.ext (Ext.alloc _ _)) _ 1 _ [(un,1)] rfl (Rats.one' _ _ _ _ _ e8) (by rw[AN.o];omega) (by simp;omega) ?_;intro v5 w5 ho hg k9;have X5:=ae (ak (X3.o.trans (Ext.alloc _ _)) hg (fun j hj=>(zi.o.lt j hj).1));obtain⟨a5,n5,p5,rfl,CF⟩:=ho.var;have zW:=ae ho;clear ho hg k9))
   go_roundg (g1-1)
   case measure=>have:=L6.o;omega
   case rel=>exact⟨k+1,a5,n5,p5,ae (j1 L6.o),by go_num,rfl,ae (by rw[<-Bw.o];exact zW.o),X5⟩
  ·have Jw:N=k:=by have:=L6.o;omega
   have Qz:=ae (show o0 o6 w.heap.size (.slice a1 n1 q1) (AY t N I 0)by rw[Jw];exact zv.o);obtain rfl:N=n1:=by have h1:=Qz.o.zj.hlen;rw[jd]at h1;exact h1
   clear Jw;go_wp2_with fail;clear l0 l1 l2 c0 c1 c2 c3 c4 cf
   go_loopg [7] m (fun gk ii wr=>∃i:Nat,b7 (gk+i=m)/\ii=.int .i64 (i:Int)/\b7 (o0 wr w.heap.size (.slice a1 N q1) (AY t N I i))/\b7 (Ext w wr))
   case atStart=>exact⟨0,ae e7,rfl,Qz,HX⟩
   case round =>
    obtain⟨g2,Am⟩:=b9 gk;subst Am;obtain⟨J,zx⟩:=b9 wr;subst zx;obtain⟨i,HI,rfl,HR,E6⟩:=hrel;have B6:=ae (H.o.ext E6.o);obtain⟨l0,l1,l2,c0,c1,c2,c3,c4,cf⟩:=B6.o.cells;rw[Ea.o]at c2;have Hw:=E6.o.size;by_cases DI:i<m
    ·obtain⟨U,Q,DT,AV⟩:=B6.o.tb.CW.basis.at DI;subst DT;obtain⟨Z,Bg⟩:=b9 (t.basis[i]?.getD 0);rw[<-Bg]at AV;have DC:=ae Bg;have GC:0<=Z/\Z<N+m:=by
      rw[Bg,bk (by rw[HT.o.De];exact DI)];exact HT.o.R7 _ (vl _)
     have YT:(0:Int)<=(i:Int):=by omega
     have hi1:(i:Int)<(m:Int):=by omega
     clear Bg;go_upto_region 9 with fail;have k7:Ext J J.drew:=Ext.drew J;have k8:=ae (fun(w':World) (h:Ext J w')=>(⟨h.j9 c1,h.j9 c2,h.j9 AV,h⟩:w'.cell? ⟨S,4,none⟩=some (.slice (some ⟨U,Q,none⟩) m bc)/\w'.cell? ⟨S,5,none⟩=some (.int .i64 (N:Int))/\w'.cell? ⟨U,Q+i,none⟩=some (.int .i64 Z)/\Ext J w'));refine rN (S:=(fun w'=>w'.cell? ⟨S,4,none⟩=some (.slice (some ⟨U,Q,none⟩) m bc)/\w'.cell? ⟨S,5,none⟩=some (.int .i64 (N:Int))/\w'.cell? ⟨U,Q+i,none⟩=some (.int .i64 Z)/\Ext J w')) e9 ?_ (fun l7=>?_)
     ·exact k8.o _ k7
     refine tk 0 ?_;refine tk 1 ?_;refine tk 2 ?_;refine tk 3 ?_;refine tk 4 ?_;refine tk 5 ?_;refine tk 6 ?_;refine tk 7 ?_;refine tk 8 ?_;refine tk 9 ?_;refine tk 10 ?_;refine tk 11 ?_;refine tk 12 ?_;refine tk 13 ?_;refine Gh e9 ?_ _;have zk:=ae (E6.o.trans k7);have IG:=ae (HR.o.ext k7);have Gx:∃x,x=J.drew:=⟨_,rfl⟩;obtain⟨w3,Gx⟩:=Gx;rw[<-Gx]at zk IG;rw[<-Gx];clear k7 l0 l1 l2 c0 c1 c2 c3 c4 cf AV Gx k8 l7;by_cases LD:Z<(N:Int)
     ·obtain⟨O,hbN⟩:∃n:Nat,Z=n:=⟨Z.toNat,by omega⟩;subst hbN;have JF:O<N:=by omega
      obtain⟨l0,l1,l2,c0,c1,c2,c3,c4,cf⟩:=H.o.cells;obtain⟨eb',Zu,OG,AV⟩:=H.o.tb.CW.basis.at DI;simp only[bA,mq,zz]at OG;obtain⟨rfl,rfl⟩:=OG;rw[<-DC.o]at AV;obtain⟨MH,Dk,ya,yn,yc,Kg,AU,o8⟩:=H.o.tb.CW.rows.at DI;subst Kg;have Em:yn=N+m+1:=by rw[<-o8.hlen];exact(HT.o.row i DI).1
      have An:=o8.l8;have EU:=o8.l9;obtain⟨yb,zE,p,q,ET,zR,Jm,Jl⟩:=o8.at (show I<yn by omega);subst ET;have Wx:(I:Int)<(yn:Int):=by omega
      have hj0:(0:Int)<=(I:Int):=by omega
      have hbI:(O:Int)<(N:Int):=by omega
      have hbI0:(0:Int)<=(O:Int):=by omega
      have Ay:=ae (show t.at i I=(p,q)from zR);have F7:-9223372036854775807<=p:=by have:=(HT.o.bounds.2 i I).1;rw[Ay.o]at this;exact this
      have G9:p<=9223372036854775807:=by have:=(HT.o.bounds.2 i I).2;rw[Ay.o]at this;exact this
      have EC:=ae F7;clear zR o8 Em GC;obtain⟨G,hG,Gf,_,_⟩:=IG.o.block (k:=O) JF;subst hG;go_upto_region 10 with fail;have k7:Ext w3 w3.drew:=Ext.drew w3;have k8:=ae (fun(w':World) (h:Ext w w')=>(⟨h.j9 c0,h.j9 c1,h.j9 AV,h.j9 AU,h.j9 Jm,h.j9 Jl,h⟩:w'.cell? ⟨S,3,none⟩=some (.slice (some ⟨MH,Dk,none⟩) m rc)/\w'.cell? ⟨S,4,none⟩=some (.slice (some ⟨U,Q,none⟩) m bc)/\w'.cell? ⟨U,Q+i,none⟩=some (.int .i64 (O:Int))/\w'.cell? ⟨MH,Dk+i,none⟩=some (.slice (some ⟨yb,zE,none⟩) yn yc)/\w'.cell? ⟨yb,zE+I*2,none⟩=some (.int .i64 p)/\w'.cell? ⟨yb,zE+I*2+1,none⟩=some (.int .i64 q)/\Ext w w'));refine rN (S:=(fun w'=>w'.cell? ⟨S,3,none⟩=some (.slice (some ⟨MH,Dk,none⟩) m rc)/\w'.cell? ⟨S,4,none⟩=some (.slice (some ⟨U,Q,none⟩) m bc)/\w'.cell? ⟨U,Q+i,none⟩=some (.int .i64 (O:Int))/\w'.cell? ⟨MH,Dk+i,none⟩=some (.slice (some ⟨yb,zE,none⟩) yn yc)/\w'.cell? ⟨yb,zE+I*2,none⟩=some (.int .i64 p)/\w'.cell? ⟨yb,zE+I*2+1,none⟩=some (.int .i64 q)/\Ext w w')) e9 ?_ (fun l7=>?_)
      ·exact k8.o _ (zk.o.trans k7)
      refine tk 0 ?_;refine tk 1 ?_;refine tk 2 ?_;refine tk 3 ?_;refine tk 4 ?_;refine tk 5 ?_;refine tk 6 ?_;refine tk 7 ?_;refine tk 8 ?_;refine tk 9 ?_;refine tk 10 ?_;refine tk 11 ?_;refine tk 12 ?_;refine tk 13 ?_;refine tk 14 ?_;refine tk 15 ?_;refine tk 16 ?_;refine tk 17 ?_;refine tk 18 ?_;refine tk 19 ?_;refine rd (i:=20) (h:=fun K hK=>?_);go_simp
      (go_at_call 51;refine(fm p q _ F7 G9).mono ?_;rintro e EP ⟨rfl,B8⟩;have k7:=k7.trans B8;have IH:=ae (IG.o.ext k7);obtain⟨G',K9,g1v,g2v,CD,Fv,Fh,DY⟩:=IH.o.zj.at JF;simp only[bA,mq,zz]at CD;obtain⟨rfl,rfl⟩:=CD;rw[Mf]at Fh DY;obtain⟨G2,Zm,U1,UM,Ve⟩:=IH.o.block (k:=O) JF;simp only[bA,mq,zz]at Zm;subst Zm;clear Fv)
      go_wp2_with fail;refine hK.out _ _ ?_ (fun l7=>?_)
      ·exact k8.o _ (zk.o.trans k7)
      clear hK K
      try simp only[Act.put,sA,sB,sC]
      refine tk 21 ?_;have IB:=ae (((zk.o.trans k7).setCell (p:=⟨G,O*2,none⟩) Gf (.int .i64 (-p))).setCell (p:=⟨G,O*2+1,none⟩) Gf (.int .i64 q));refine rd (i:=22) (h:=fun K hK=>?_);go_simp;refine hK.out _ _ ?_ (fun l7=>?_)
      ·exact k8.o _ IB.o
      clear hK K
      try simp only[Act.put,sA,sB,sC]
      refine Gh e9 ?_ _
      have Qy:=ae (show o0 ((EP.setCell ⟨G,O*2,none⟩ (.int .i64 (-p))).setCell ⟨G,O*2+1,none⟩ (.int .i64 q)) w.heap.size (.slice (some ⟨G,0,none⟩) N q1) (AY t N I (i+1))by
       rw[nv (by rw[<-DC.o];omega),<-DC.o,CI,Ay.o]
       exact IH.o.set (k:=O) (by rw[jd];exact JF) (-p) q)
      go_wp2_with fail
      go_roundg (g2-1)
      case measure=>have:=HI.o;omega
      case rel=>exact⟨i+1,ae (j1 HI.o),by go_num,Qy,IB⟩
     ·have Qy:=ae (show o0 w3 w.heap.size (.slice a1 N q1) (AY t N I (i+1))by rw[pT (by rw[<-DC.o];omega)];exact IG.o);clear GC;go_wp2_with fail
      go_roundg (g2-1)
      case measure=>have:=HI.o;omega
      case rel=>exact⟨i+1,ae (j1 HI.o),by go_num,Qy,zk⟩
    ·have zU:m=i:=by have:=HI.o;omega
     subst zU;go_wp2_with fail;go_ret;exact⟨⟨_,rfl,HR.o⟩,E6.o⟩
end
