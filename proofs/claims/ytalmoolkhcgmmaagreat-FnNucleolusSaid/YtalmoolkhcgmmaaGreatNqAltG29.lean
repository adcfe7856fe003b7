import Derived.Test.YtalmoolkhcgmmaaGreatNqAltG28
import Derived.Test.YtalmoolkhcgmmaaGreatNqAltG21
import Derived.Test.YtalmoolkhcgmmaaGreatNqAltG14
set_option linter.unusedVariables false
set_option linter.unusedSimpArgs false
namespace Go.Proofs.YtalmoolkhcgmmaaGreat
variable{w:World}{vs:List Value}{t:Tb}{N m:Nat}{T0:Nat->Nat->Rat}
set_option maxHeartbeats 16000000
set_option maxRecDepth 100000
open Go.RowKit
structure bI(w:World)(S:Nat)(a:j8)(na ca:Nat)(b:j8)(nb cb:Nat)(c:j8)(nc cc:Nat)(ra:j8)(rn rc:Nat)(ba:j8)(bn bc:Nat)(vs:List Value)(t:Tb)(n:Nat)(f:Bool):Prop where
 box:w.heap[S]?=some (.cells #[.slice a na ca,.slice b nb cb,.slice c nc cc,.slice ra rn rc,.slice ba bn bc,.int .i64 t.q8,.int .i64 (n:Int),.bool f] 111 (0,0))
 tb:yK w 0 (.slice ra rn rc) (.slice ba bn bc) vs t
theorem yK.setW{base S k:Nat}{I G:Value}{c:Array Value}{z:Nat×Nat}{v:Value}(h:yK w base I G vs t)(hb:w.heap[S]?=some (.cells c 111 z)):yK (w.setCell ⟨S,k,none⟩ v) base I G vs t :=
 ⟨ec h.a hb (by decide),⟨h.rows.len,fun i hi=>ec (h.rows.row i hi) hb (by decide),h.rows.apart⟩,ec h.b hb (by decide)⟩
section
variable{w:World}{S:Nat}{a:j8}{na ca:Nat}{b:j8}{nb cb:Nat}{c:j8}{nc cc:Nat}{ra:j8}{rn rc:Nat}{ba:j8}{bn bc:Nat}{vs:List Value}{t:Tb}{n:Nat}{f:Bool}
theorem bI.ext{w':World}(h:bI w S a na ca b nb cb c nc cc ra rn rc ba bn bc vs t n f)(hx:Ext w w'):bI w' S a na ca b nb cb c nc cc ra rn rc ba bn bc vs t n f:=⟨(hx.block _ (lt_of_block h.box)).trans h.box,h.tb.ext hx⟩
theorem bI.cells(h:bI w S a na ca b nb cb c nc cc ra rn rc ba bn bc vs t n f):
 w.cell? ⟨S,0,none⟩=some (.slice a na ca)/\w.cell? ⟨S,1,none⟩=some (.slice b nb cb)/\w.cell? ⟨S,2,none⟩=some (.slice c nc cc)/\w.cell? ⟨S,3,none⟩=some (.slice ra rn rc)/\w.cell? ⟨S,4,none⟩=some (.slice ba bn bc)/\w.cell? ⟨S,5,none⟩=some (.int .i64 t.q8)/\w.cell? ⟨S,6,none⟩=some (.int .i64 (n:Int))/\w.cell? ⟨S,7,none⟩=some (.bool f)/\∀k,w.frozen? ⟨S,k,none⟩=false:=by
 have hb:=h.box;refine⟨?_,?_,?_,?_,?_,?_,?_,?_,fun k=>frozen_of_row w S k _ _ hb⟩<;>rw[cell_of_row w S _ _ _ _ hb]<;>rfl
theorem bI.fail(h:bI w S a na ca b nb cb c nc cc ra rn rc ba bn bc vs t n f):bI (w.setCell ⟨S,7,none⟩ (.bool true)) S a na ca b nb cb c nc cc ra rn rc ba bn bc vs t n true :=
 ⟨heap_setCell_same w S 7 _ _ (.bool true) h.box,h.tb.setW h.box⟩
theorem bI.step(h:bI w S a na ca b nb cb c nc cc ra rn rc ba bn bc vs t n f){U:j8}{W G:Nat}{J:j8}{R I:Nat}{K:List Value}{O:Tb}(ho:yK w 0 (.slice U W G) (.slice J R I) K O)(Z:Bool):
 bI (((((w.setCell ⟨S,3,none⟩ (.slice U W G)).setCell ⟨S,4,none⟩ (.slice J R I)).setCell ⟨S,5,none⟩ (.int .i64 O.q8)).setCell ⟨S,6,none⟩ (.int .i64 ((n:Int)+1))).setCell ⟨S,7,none⟩ (.bool Z)) S a na ca b nb cb c nc cc U W G J R I K O (n+1) Z:=by
 have b1:=heap_setCell_same w S 3 _ _ (.slice U W G) h.box;have b2:=heap_setCell_same _ S 4 _ _ (.slice J R I) b1;have b3:=heap_setCell_same _ S 5 _ _ (.int .i64 O.q8) b2;have u:=heap_setCell_same _ S 6 _ _ (.int .i64 ((n:Int)+1)) b3;have b5:=heap_setCell_same _ S 7 _ _ (.bool Z) u;refine⟨?_,((((ho.setW h.box).setW b1).setW b2).setW b3).setW u⟩;rw[b5];have:((n+1:Nat):Int)=(n:Int)+1:=by simp
 rw[this];rfl
end
theorem l8.modW{w':World}{S b:Nat}{v:Value}{l:j6}(h:l8 w b v l)(hm:Mod S w w'){c:Array Value}{z:Nat×Nat}(hb:w.heap[S]?=some (.cells c 111 z)):l8 w' b v l :=
 h.keep fun k hk=>hm.block k (h.lt k hk).2 fun e=>(av h hb (by decide)) (by rw[hk,e])
def fG(S:Nat)(a:j8)(na ca:Nat)(b:j8)(nb cb:Nat)(c:j8)(nc cc:Nat)(w w':World)(o:Option (Tb×Nat)):Prop :=
 Mod S w w'/\∃ra rn rc ba bn bc vs,match o with
  | some (t,n)=>bI w' S a na ca b nb cb c nc cc ra rn rc ba bn bc vs t n false
  | none=>∃t n,bI w' S a na ca b nb cb c nc cc ra rn rc ba bn bc vs t n true
section
variable{w:World}{S:Nat}{a:j8}{na ca:Nat}{b:j8}{nb cb:Nat}{c:j8}{nc cc:Nat}{ra:j8}{rc:Nat}{ba:j8}{bc:Nat}{vs:List Value}{t:Tb}{n:Nat}
theorem pD{N m:Nat}{T0:Nat->Nat->Rat}(h:bI w S a na ca b nb cb c nc cc ra m rc ba m bc vs t n false)(hT:xY N m T0 t)(hN:N<=1000)(hm:m<=1000)(hn:n<=1000){r k:Nat}(hr:r<m)(hk:k<N):
 Calls Tryz.prog 159 #[.pointer (some ⟨S,0,none⟩),.int .i64 (r:Int),.int .i64 (k:Int)] w fun e w'=>e=.returned (.tuple #[])/\fG S a na ca b nb cb c nc cc w w' (Ar t n (r:Int) (k:Int)):=by
 have hlt:=lt_of_block h.box;obtain⟨u,l1,l2,c0,c1,c2,c3,c4,cf⟩:=h.cells;have H:=ae h;rw[hT.q8]at c2;by_cases F4:n=1000
 ·subst F4;have HP:=ae (show Ar t 1000 (r:Int) (k:Int)=none by unfold Ar;rw[if_pos rfl]);clear h hT;go_enter Tryz.func159,Tryz.ntmps159
  go_wp2_with fail;refine bodyPost_ret (results_none rfl _ _ _) rfl ⟨rfl,Mod.set _ _ _ _,?_⟩;rw[HP.o];exact⟨_,_,_,_,_,_,_,_,_,H.o.fail⟩
 ·have Jy:¬(n:Int)≥1000:=by omega
  have Bj:n<1000:=by omega
  have DM:=ae (oq h.tb.Be hT hN hm hr hk);have HP:=ae (show Ar t n (r:Int) (k:Int)=(bo t (r:Int) (k:Int)).map fun K=>(K,n+1)by unfold Ar;rw[if_neg F4]);have Cq:=ae hT.q8;clear h hT F4;unfold JJ dF at DM;obtain⟨o,ho⟩:=b8 (bo t (r:Int) (k:Int))
  have NQ:=ae (show(o.getD t).q8=(N:Int)by
   cases o with
   | none=>exact Cq.o
   | some K =>
      have h1:=ho.symm;unfold bo at h1;split at h1
      ·unfold fD at h1;cases hd:Bo (t.row (Int.toNat (r:Int))) (t.at (Int.toNat (r:Int)) (Int.toNat (k:Int)))with
       | none=>rw[hd]at h1;cases h1
       | some mm=>rw[hd,Option.bind_some,Option.map_eq_some_iff]at h1;obtain⟨rs,_,rfl⟩:=h1;exact Cq.o
      ·cases h1)
  rw[<-ho]at DM HP;clear ho;go_enter Tryz.func159,Tryz.ntmps159
  go_wp2_with fail;refine DM.o.mono ?_;rintro e w1 ⟨⟨va,vb,J,rfl,ho⟩,hx⟩;obtain⟨U,n7,O,rfl,E'⟩:=ho.a.var;obtain⟨R,n8,c8,rfl,FT⟩:=ho.b.var;rw[NQ.o];obtain⟨Z,I⟩:=b8 (w1.alloc (.cells #[.slice U n7 O,.slice R n8 c8,.int .i64 (N:Int)] 108));obtain⟨gE,W⟩:=b8 w1.heap.size;have X1:=ae (show Ext w Z by rw[I];exact hx.trans (Ext.alloc _ _));have HO:=ae (show yK Z 0 (.slice U n7 O) (.slice R n8 c8) J (o.getD t)by rw[I];exact(ho.ext (Ext.alloc _ _)).mono (Nat.zero_le _));have G:=ae (show Z.heap[gE]?=some (.cells #[.slice U n7 O,.slice R n8 c8,.int .i64 (N:Int)] 108 (0,0))by rw[I,W];exact ak _ _ _ rfl);have HS:=ae (H.o.ext X1.o);go_upto_region 3 with fail;rw[<-I,<-W];clear I W ho hx u l1 l2 c0 c1 c2 c3 c4 cf;obtain⟨u,l1,l2,c0,c1,c2,c3,c4,cf⟩:=HS.o.cells;rw[Cq.o]at c2;have b0:=au G.o;have b1:=aH G.o;have b2:=aI G.o;have yp:=lt_of_block G.o;have hne:gE≠S:=fun e=>jk G.o HS.o.box (by decide) e
  have zW:=ae (fun f'=>HS.o.step HO.o f');rw[NQ.o]at zW;cases o with
  | none =>
    go_wp2_with fail;refine bodyPost_end (results_none rfl _ _ _) rfl ⟨rfl,(Mod.of X1.o).trans (((((Mod.set _ _ _ _).trans (Mod.set _ _ _ _)).trans (Mod.set _ _ _ _)).trans (Mod.set _ _ _ _)).trans (Mod.set _ _ _ _)),?_⟩;rw[HP.o];exact⟨_,_,_,_,_,_,_,_,_,zW.o true⟩
  | some K =>
    go_wp2_with fail;refine bodyPost_end (results_none rfl _ _ _) rfl ⟨rfl,(Mod.of X1.o).trans (((((Mod.set _ _ _ _).trans (Mod.set _ _ _ _)).trans (Mod.set _ _ _ _)).trans (Mod.set _ _ _ _)).trans (Mod.set _ _ _ _)),?_⟩;rw[HP.o];exact⟨_,_,_,_,_,_,_,zW.o false⟩
end
def RunW(S:Nat)(a:j8)(na ca:Nat)(b:j8)(nb cb:Nat)(c:j8)(nc cc:Nat)(w:World)(e:Ending)(w':World)(o:Option Ph):Prop :=
 Mod S w w'/\∃ra rn rc ba bn bc vs,match o with
  | some p=>∃v,e=.returned (.tuple #[v,.int .i64 p.wX])/\l8 w' w.heap.size v p.costs/\bI w' S a na ca b nb cb c nc cc ra rn rc ba bn bc vs p.t (1000-p.left) false
  | none=>∃v wX t n,e=.returned (.tuple #[v,.int .i64 wX])/\bI w' S a na ca b nb cb c nc cc ra rn rc ba bn bc vs t n true
section
variable{w:World}{S:Nat}{a:j8}{na ca:Nat}{b:j8}{nb cb:Nat}{c:j8}{nc cc:Nat}
structure NI(w wr:World)(S:Nat)(a:j8)(na ca:Nat)(b:j8)(nb cb:Nat)(c:j8)(nc cc:Nat)(N m:Nat)(T0:Nat->Nat->Rat)(cost:j6)(o:Option Ph)(gk:Nat)(nn:Nat)(tt:Tb)(ra:j8)(rc:Nat)(ba:j8)(bc:Nat)(vs:List Value):Prop where
 meas:gk=1000-nn
 mod:Mod S w wr
 st:bI wr S a na ca b nb cb c nc cc ra m rc ba m bc vs tt nn false
 inv:xY N m T0 tt
 le:nn<=1000
 go:aJ cost (1000-nn) tt=o
theorem bI.same{ra:j8}{rn rc:Nat}{ba:j8}{bn bc:Nat}{vs:List Value}{t:Tb}{n:Nat}{f:Bool}{N m:Nat}{T0:Nat->Nat->Rat}(h:bI w S a na ca b nb cb c nc cc ra rn rc ba bn bc vs t n f)(hT:xY N m T0 t):rn=m/\bn=m:=hT.sizes h.tb.Be
theorem pC{ra:j8}{rc:Nat}{ba:j8}{bc:Nat}{vs:List Value}{t:Tb}{n:Nat}{N m:Nat}{T0:Nat->Nat->Rat}(h:bI w S a na ca b nb cb c nc cc ra m rc ba m bc vs t n false)(hT:xY N m T0 t)(hN:N<=1000)(hm:m<=1000)(hn:n<=1000){ka:j8}{kn kc b0:Nat}{cost:j6}(hc:l8 w b0 (.slice ka kn kc) cost)(yQ:kn=N+m)(hv:yz cost=true):
 Calls Tryz.prog 125 #[.pointer (some ⟨S,0,none⟩),.slice ka kn kc] w fun e w'=>RunW S a na ca b nb cb c nc cc w e w' (aJ cost (1000-n) t):=by
 obtain⟨o,ho⟩:=b8 (aJ cost (1000-n) t);rw[<-ho];have H0:=ae (show NI w w S a na ca b nb cb c nc cc N m T0 cost o (1000-n) n t ra rc ba bc vs from⟨rfl,Mod.refl _ _,h,hT,hn,ho.symm⟩);have HC:=ae hc;have yu:=ae h.box;have zD:=ae yQ;have Fw:=ae hv;have hlt:=lt_of_block h.box;clear h hT ho hc yQ hv;go_enter Tryz.func125,Tryz.ntmps125
 go_wp2_with fail
 go_loopg [6] (1000-n) (fun gk s6 wr=>∃(G:Nat) (I:Tb) (ra:j8) (rc:Nat) (ba:j8) (bc:Nat) (vs:List Value),b7 (NI w wr S a na ca b nb cb c nc cc N m T0 cost o gk G I ra rc ba bc vs))
 case atStart=>exact⟨n,t,_,_,_,_,_,H0⟩
 case round =>
  obtain⟨g1,r7⟩:=b8 gk;subst r7;obtain⟨o7,o6⟩:=b8 wr;subst o6;obtain⟨G,I,ra,rc,ba,bc,vs,HH⟩:=hrel;clear H0;obtain⟨J,l1,l2,c0,c1,c2,c3,c4,K⟩:=HH.o.st.cells;have hl1:=lt_of_block HH.o.st.box;have Cu:=HH.o.mod.size;have HT:=ae HH.o.inv;have Bj:=HH.o.le;have Z:=ae HH.o.go;have Cq:=ae HH.o.inv.q8;rw[Cq.o]at c2;have u:=ae (wl HH.o.st.tb.Be HT.o hN hm (HC.o.modW HH.o.mod yu.o).wK zD.o Fw.o);cases hcs:bS I cost with
  | none =>
    have HO:=ae (show o=none by rw[<-Z.o];exact mW _ hcs);rw[hcs]at u;go_wp2_with fail;refine u.o.mono ?_;simp only[Option.getD_none,Option.isSome_none];rintro e w2 ⟨⟨v2,rfl,U⟩,hx⟩;have HS:=ae (HH.o.st.ext hx);have HM:=ae (HH.o.mod.trans (Mod.of hx));clear U hx J l1 l2 c0 c1 c2 c3 c4 K hcs;obtain⟨J,l1,l2,c0,c1,c2,c3,c4,K⟩:=HS.o.cells;go_wp2_with fail
    go_ret2
    refine⟨HM.o.trans (Mod.set _ _ _ _),?_⟩;rw[HO.o];exact⟨_,_,_,_,_,_,_,_,_,_,_,rfl,HS.o.fail⟩
  | some cs =>
    rw[hcs]at u;have Gg:=ae hcs;go_wp2_with fail;refine u.o.mono ?_;simp only[Option.getD_some,Option.isSome_some];rintro e w2 ⟨⟨v2,rfl,U⟩,hx⟩;obtain⟨a2,n2,p2,rfl,Fa⟩:=U.var;have HS:=ae (HH.o.st.ext hx);have HM:=ae (HH.o.mod.trans (Mod.of hx));have yE:=ae (show l8 w2 w.heap.size (.slice a2 n2 p2) cs from l8.mono U Cu);have H6:N<=n2:=by have h1:=Fa.o;rw[(dT HT.o Gg.o).1.1]at h1;omega
    clear U hx J l1 l2 c0 c1 c2 c3 c4 K hcs;obtain⟨J,l1,l2,c0,c1,c2,c3,c4,K⟩:=HS.o.cells;rw[Cq.o]at c2;obtain⟨wX,zU⟩:=b8 (aX cs (N:Int));have B6:=ae zU;have DP:=ae (show aX cs I.q8=wX by rw[Cq.o,zU]);have WI:=is cs N;rw[<-zU]at WI;clear zU;go_upto_region 5 with fail;have k7:Ext w2 w2.drew:=Ext.drew w2;have xI:=k7;have k8:=ae (fun(w':World) (h:Ext w2 w')=>(⟨h.k6 c0,h.k6 c1,h.k6 c2,h⟩:w'.cell? ⟨S,3,none⟩=some (.slice ra m rc)/\w'.cell? ⟨S,4,none⟩=some (.slice ba m bc)/\w'.cell? ⟨S,5,none⟩=some (.int .i64 (N:Int))/\Ext w2 w'))
    go_region_held3 (fun w'=>w'.cell? ⟨S,3,none⟩=some (.slice ra m rc)/\w'.cell? ⟨S,4,none⟩=some (.slice ba m bc)/\w'.cell? ⟨S,5,none⟩=some (.int .i64 (N:Int))/\Ext w2 w')
     (with_reducible exact k8.o _ k7)
     (first
       | (go_at_call 157
          (with_reducible refine(lX (ra:=ra) (rn:=m) (rc:=rc) (ba:=ba) (bn:=m) (bc:=bc) (x:=(N:Int)) (yE.o.wK.ext (by first|with_reducible exact k7|with_reducible exact xI|with_reducible exact k7.trans (Ext.alloc _ _))) N H6).mono ?_)
          rw[<-B6.o];rintro e w3 ⟨rfl,wN⟩;have k7:Ext w2 w3:=k7.trans wN
          have IS:=k7.size)
       | fail)
    clear k8 xI;have DL:=ae (HS.o.ext k7);have Ca:=ae (HM.o.trans (Mod.of k7));have xp:=ae (yE.o.ext k7);clear k7 J l1 l2 c0 c1 c2 c3 c4 K
    rcases WI with y5|⟨cN,hcN,EH⟩
    ·subst y5;have HO:=ae (show o=some ⟨I,1000-G,cs,-1⟩by rw[<-Z.o];exact lm _ Gg.o (by rw[DP.o];omega));go_wp2_with fail
     go_ret2
     refine⟨Ca.o,?_⟩;rw[HO.o];exact⟨_,_,_,_,_,_,_,_,rfl,xp.o,by rw[show 1000-(1000-G)=G by omega];exact DL.o⟩
    ·subst hcN;obtain⟨J,l1,l2,c0,c1,c2,c3,c4,K⟩:=DL.o.cells;rw[Cq.o]at c2;have EI:=ae (rq DL.o.tb.Be HT.o hN hm EH);obtain⟨row,o9⟩:=b8 (bP I (cN:Int));have zQ:=ae (show bP I (aX cs I.q8)=row by rw[DP.o,o9]);have Dp:row=-1∨(0<=row/\row<m):=by
      rw[o9];unfold bP;split
      ·have:=iW I (Int.toNat (cN:Int)) I.rows.length;rw[HT.o.len]at this⊢;exact this
      ·exact Or.inl rfl
     rw[<-o9]at EI;have hcn0:¬(cN:Int)<0:=by omega
     clear o9;go_wp2_with fail;refine EI.o.mono ?_;rintro e w4 ⟨rfl,hx⟩;have OH:=ae (DL.o.ext hx);have CB:=ae (Ca.o.trans (Mod.of hx));have yW:=ae (xp.o.ext hx);clear hx J l1 l2 c0 c1 c2 c3 c4 K
     rcases Dp with yN|⟨yN,yC⟩
     ·subst yN
      have HO:=ae (show o=some ⟨I,1000-G,cs,(cN:Int)⟩by
       rw[<-Z.o,ln _ Gg.o (by rw[DP.o];omega) (by rw[zQ.o];omega),DP.o])
      go_wp2_with fail
      go_ret2
      refine⟨CB.o,?_⟩;rw[HO.o];exact⟨_,_,_,_,_,_,_,_,rfl,yW.o,by rw[show 1000-(1000-G)=G by omega];exact OH.o⟩
     ·obtain⟨W,hrN⟩:∃k:Nat,row=k:=⟨row.toNat,by omega⟩;subst hrN;have BF:W<m:=by omega
      have hrn0:¬(W:Int)<0:=by omega
      have NT:=ae (show o=(Ar I G (W:Int) (cN:Int)).bind fun s=>aJ cost (1000-s.2) s.1 by
       rw[<-Z.o,ls Bj Gg.o (by rw[DP.o];omega) (by rw[zQ.o];omega),zQ.o,DP.o])
      have DM:=ae (pD OH.o HT.o hN hm Bj BF EH);have HME:=ae (show g1=1000-G from HH.o.meas);go_wp2_with fail;refine DM.o.mono ?_;rintro e w5 ⟨rfl,Dr,Q5,Sy,Q4,RU,TY,RT,OY,O⟩;cases B8:Ar I G (W:Int) (cN:Int)with
      | none =>
        rw[B8]at O;obtain⟨t5,n5,A8⟩:=O;have HO:=ae (show o=none by rw[NT.o,B8];rfl);have Ep:=ae A8;have Cp:=ae (CB.o.trans Dr);clear A8 B8 Dr;obtain⟨J,l1,l2,c0,c1,c2,c3,c4,K⟩:=Ep.o.cells;go_wp2_with fail
        go_ret2
        refine⟨Cp.o,?_⟩;rw[HO.o];exact⟨_,_,_,_,_,_,_,_,_,_,_,rfl,Ep.o⟩
      | some st =>
        obtain⟨t5,n5⟩:=st;rw[B8]at O;have Rq:n5=G+1/\G<1000/\bo I (W:Int) (cN:Int)=some t5:=by
         unfold Ar at B8
         split at B8
         ·cases B8
         ·rw[Option.map_eq_some_iff]at B8;obtain⟨t6,h6,h7⟩:=B8;simp only[Prod.mk.injEq]at h7;obtain⟨rfl,rfl⟩:=h7;exact⟨rfl,by omega,h6⟩
        obtain⟨rfl,hlt5,BG⟩:=Rq;have HO:=ae (show aJ cost (1000-(G+1)) t5=o by rw[NT.o,B8];rfl);have R:=eT HT.o BG;obtain⟨e1,e2⟩:=bI.same O R;have Qn:=e1.symm;have e2':=e2.symm;clear e1 e2;subst Qn;subst e2';have Zb:=ae (show NI w w5 S a na ca b nb cb c nc cc N m T0 cost o (1000-(G+1)) (G+1) t5 Q5 Q4 RU RT OY from⟨rfl,CB.o.trans Dr,O,R,by omega,HO.o⟩);obtain⟨J,l1,l2,c0,c1,c2,c3,c4,K⟩:=bI.cells O;clear O B8 Dr BG R;go_wp2_with fail
        go_roundg (1000-(G+1))
        case measure=>have:=HME.o;omega
        case rel=>exact⟨G+1,t5,_,_,_,_,_,Zb⟩
end
section
variable{w:World}{a:j8}{na ca:Nat}{b:j8}{nb cb:Nat}{c:j8}{nc cc:Nat}{A:j7}{B:j9}{C:j6}
def gW(first:Bool)(C:j6)(m:Nat):j6:=if first=true then bM C.length m else bK C m
theorem pB(h:Cz w a na ca b nb cb c nc cc A B C)(first:Bool)(h1:nc<=1000)(h2:na<=1000):
 Calls Tryz.prog 126 #[C8 a na ca b nb cb c nc cc,.bool first] w fun e w'=>(∃v,e=.returned v/\l8 w' w.heap.size v (gW first C na))/\Ext w w':=by
 have wI:=Ext.alloc w (bE a na ca b nb cb c nc cc);have wM:=ae wI;have U:=ae (show(w.alloc (bE a na ca b nb cb c nc cc)).heap[w.heap.size]?=some (.cells #[.slice a na ca,.slice b nb cb,.slice c nc cc] 52 (0,0))from ak _ _ _ rfl);obtain⟨W,hW⟩:=b8 (w.alloc (bE a na ca b nb cb c nc cc));have H:=ae (h.ext wI);rw[<-hW]at wI wM U H;have yq:=h.c.o3;have AZ:=h.c.l9;have Ke:=h.a.o3;have ES:=h.a.l9;have HL:=ae h.c.hlen;have DT:W.heap.size=w.heap.size+1:=by rw[hW];simp
 have HO:=ae (l8.made W (w.heap.size+1) b9);have X0:=ae (Ext.alloc W (.cells #[] 46));rw[DT]at HO;clear h wI;go_enter Tryz.func126,Tryz.ntmps126
 go_upto_region 1 with fail;rw[<-hW];clear hW;obtain⟨D,O⟩:=b8 (if first=true then List.replicate nc ((0:Int),(1:Int)) else C)
 have HD:=ae O;have Gf:=ae (show D.length=nc by rw[O];cases first<;>simp[HL.o])
 have HCB:=ae (show gW first C na=D++List.replicate na (wL first,1)by
  unfold gW bM bK;rw[O,HL.o];cases first<;>rfl)
 clear O;go_wp2_with fail
 go_loopg [5,6] nc (fun gk oo ii wr=>∃(k:Nat) (a1:j8) (n1 p1:Nat),b7 (gk+k=nc)/\ii=.int .i64 (k:Int)/\oo=.slice a1 n1 p1/\b7 (l8 wr (w.heap.size+1) (.slice a1 n1 p1) (D.take k))/\b7 (Ext W wr))
 case atStart=>exact⟨0,_,_,_,ae b9,rfl,rfl,HO,X0⟩
 case round =>
  obtain⟨g1,r7⟩:=b8 gk;subst r7;obtain⟨o7,o6⟩:=b8 wr;subst o6;obtain⟨k,a1,n1,Z,K,rfl,rfl,xC,HX⟩:=hrel;have p2:=aI (HX.o.blk U.o);have hsz:=HX.o.size;by_cases hlt:k<nc
  ·have zR:=ae (show(D.take k).length=k by rw[List.length_take,Gf.o];omega);have AU:=ae (fun(p:k5) (hp:D[k]?.getD (0,0)=p)=>show D.take k++[p]=D.take (k+1)by rw[dV (by rw[Gf.o];exact hlt),hp]);cases first
   ·obtain⟨eb,xi,ex,ey,B2,IZ,yT,B3⟩:=(H.o.ext HX.o).c.at hlt;subst B2;have Ax:=ae (AU.o (ex,ey) (by rw[HD.o];exact IZ));clear IZ
    go_wp2_with (first
     | (at_builtin;refine aG rfl _ _ rfl (w.heap.size+1) (.slice a1 n1 Z) _ rfl (xC.o.ext (Ext.alloc _ _)) _ 1 _ [(ex,ey)] rfl (r8.one' _ _ _ _ _ e7) (by rw[zR.o];omega) (by simp;omega) ?_;intro v5 w5 ho hg l7;have X5:=ae (al (HX.o.trans (Ext.alloc _ _)) hg (fun j hj=>by have:=(xC.o.lt j hj).1;omega));obtain⟨a5,J,I,rfl,A9⟩:=ho.var;have xL:=ae ho;clear ho hg l7))
    go_roundg (g1-1)
    case measure=>have:=K.o;omega
    case rel=>exact⟨k+1,a5,J,I,ae (j4 K.o),by go_num,rfl,ae (by rw[<-Ax.o];exact xL.o),X5⟩
   ·have Ax:=ae (AU.o (0,1) (by rw[HD.o];exact rh hlt));go_wp2_with fail;refine(cl 0 _).mono ?_;rintro e w3 ⟨rfl,hx⟩;have X3:=ae (HX.o.trans hx);have G:=ae (xC.o.ext hx);have CY:=X3.o.size;clear hx p2
    go_wp2_with (first
     | (at_builtin;refine aG rfl _ _ rfl (w.heap.size+1) (.slice a1 n1 Z) _ rfl (G.o.ext (Ext.alloc _ _)) _ 1 _ [(0,1)] rfl (r8.one' _ _ _ _ _ e7) (by rw[zR.o];omega) (by simp;omega) ?_;intro v5 w5 ho hg l7;have X5:=ae (al (X3.o.trans (Ext.alloc _ _)) hg (fun j hj=>by have:=(G.o.lt j hj).1;omega));obtain⟨a5,J,I,rfl,A9⟩:=ho.var;have xL:=ae ho;clear ho hg l7))
    go_roundg (g1-1)
    case measure=>have:=K.o;omega
    case rel=>exact⟨k+1,a5,J,I,ae (j4 K.o),by go_num,rfl,ae (by rw[<-Ax.o];exact xL.o),X5⟩
  ·have Bf:k=nc:=by have:=K.o;omega
   have yE:=ae (show l8 o7 (w.heap.size+1) (.slice a1 n1 Z) (D++List.replicate 0 (wL first,1))by
    have:=xC.o;rw[List.take_of_length_le (by rw[Gf.o];omega)]at this;simpa using this)
   clear Bf;go_wp2_with fail;clear p2
   go_loopg [5,7] na (fun gk oo ii wr=>∃(k:Nat) (a1:j8) (n1 p1:Nat),b7 (gk+k=na)/\ii=.int .i64 (k:Int)/\oo=.slice a1 n1 p1/\b7 (l8 wr (w.heap.size+1) (.slice a1 n1 p1) (D++List.replicate k (wL first,1)))/\b7 (Ext W wr))
   case atStart=>exact⟨0,_,_,_,ae b9,rfl,rfl,yE,HX⟩
   case round =>
    obtain⟨g2,xK⟩:=b8 gk;subst xK;obtain⟨wr2,wT⟩:=b8 wr;subst wT;obtain⟨j,a2,n2,q2,u,rfl,rfl,yW,R⟩:=hrel;have p0:=au (R.o.blk U.o);have Ww:=R.o.size;by_cases zt:j<na
    ·have zR:=ae (show(D++List.replicate j (wL first,(1:Int))).length=nc+j by rw[List.length_append,Gf.o,List.length_replicate]);have OU:=ae (fun w'=>fR first w');go_wp2_with (first|(go_at_call 79;refine(OU.o _).mono ?_;rintro e w2 ⟨rfl,rfl⟩));refine(cl (wL first) _).mono ?_;rintro e w3 ⟨rfl,hx⟩;have X3:=ae (R.o.trans hx);have G:=ae (yW.o.ext hx);have CY:=X3.o.size;clear hx p0
     go_wp2_with (first
      | (at_builtin;refine aG rfl _ _ rfl (w.heap.size+1) (.slice a2 n2 q2) _ rfl (G.o.ext (Ext.alloc _ _)) _ 1 _ [(wL first,1)] rfl (r8.one' _ _ _ _ _ e7) (by rw[zR.o];omega) (by simp;omega) ?_;intro v5 w5 ho hg l7;have X5:=ae (al (X3.o.trans (Ext.alloc _ _)) hg (fun j hj=>by have:=(G.o.lt j hj).1;omega));obtain⟨a5,J,I,rfl,A9⟩:=ho.var;have xL:=ae ho;clear ho hg l7))
     go_roundg (g2-1)
     case measure=>have:=u.o;omega
     case rel=>exact⟨j+1,a5,J,I,ae (j4 u.o),by go_num,rfl,ae (by have:=xL.o;rw[List.append_assoc,<-List.replicate_succ']at this;exact this),X5⟩
    ·have DE:na=j:=by have:=u.o;omega
     subst DE;go_wp2_with fail;go_ret;exact⟨⟨_,rfl,by rw[HCB.o];exact yW.o.mono b9⟩,wM.o.trans R.o⟩
end
theorem KM(a b:k5):-1000000000<=(xy a b).1.1/\(xy a b).1.1<=1000000000:=by
 cases h:(xy a b).2
 ·rw[kC h];simp
 ·have:=aQ (fW h).2.2.1;omega
theorem aj.put0{W:World}{g:Nat}{p q:Int}(h:aj w W g p q)(G:Int):aj w (W.setCell ⟨g,0,none⟩ (.int .i64 G)) g G q :=
 ⟨h.ext.setCell (p:=⟨g,0,none⟩) h.ge (.int .i64 G),h.ge,by rw[heap_setCell_same _ _ _ _ _ _ h.cell];rfl⟩
section
variable{w:World}{S:Nat}{a:j8}{na ca:Nat}{b:j8}{nb cb:Nat}{c:j8}{nc cc:Nat}{ra:j8}{rn rc:Nat}{ba:j8}{bn bc:Nat}{vs:List Value}{t:Tb}{n:Nat}{f:Bool}
theorem rA{N:Nat}(h:bI w S a na ca b na cb c nc cc ra rn rc ba bn bc vs t n f)(zm:t.q8=N){B:j9}(hB:Ints w b na cb B)(hca1:na<=ca)(hca2:ca<=9223372036854775807){ka:j8}{U kc:Nat}{cs:j6}(hK:r8 w ka U kc cs)(xQ:N+na<=U)(hbig:U<=100000)(base:Int):
 Calls Tryz.prog 128 #[.pointer (some ⟨S,0,none⟩),.slice ka U kc,.int .i64 base] w fun e w'=>(∃v,e=.returned v/\l8 w' w.heap.size v ((List.range na).map (dt B (base,1) cs N)))/\Ext w w':=by
 have H:=ae h;have hlt:=lt_of_block h.box;have HB:=ae hB;have HK':=ae hK;have zN:=hB.o3;have zx:=hB.l9;have BH:=hK.o3;have Tl:=hK.l9;have Cq:=ae zm;have HO:=ae (l8.made w w.heap.size (Nat.le_refl _));have X0:=ae (Ext.alloc w (.cells #[] 46));clear h hB hK zm;go_enter Tryz.func128,Tryz.ntmps128
 go_wp2_with fail
 go_loopg [7,8] na (fun gk oo ii wr=>∃(k:Nat) (a1:j8) (n1 p1:Nat),b7 (gk+k=na)/\ii=.int .i64 (k:Int)/\oo=.slice a1 n1 p1/\b7 (l8 wr w.heap.size (.slice a1 n1 p1) ((List.range k).map (dt B (base,1) cs N)))/\b7 (Ext w wr))
 case atStart=>exact⟨0,_,_,_,ae b9,rfl,rfl,HO,X0⟩
 case round =>
  obtain⟨g1,r7⟩:=b8 gk;subst r7;obtain⟨G,o6⟩:=b8 wr;subst o6;obtain⟨k,a1,n1,q1,Bg,rfl,rfl,xC,HX⟩:=hrel;have hsz:=HX.o.size;obtain⟨l0,l1,l2,c0,c1,c2,c3,c4,cf⟩:=(H.o.ext HX.o).cells;rw[Cq.o]at c2;by_cases yp:k<na
  ·obtain⟨z,hz⟩:=b8 (N+k);have V2:z<U:=by omega
   obtain⟨zb,xJ,ex,Z,Bt,IZ,yT,K⟩:=(HK'.o.ext HX.o).at V2;subst Bt;obtain⟨d1,d2,DH,I⟩:∃x y ok,xy (base,1) (ex,Z)=((x,y),ok):=⟨_,_,_,rfl⟩;have CV:=ae I;have Tt:=KM (base,1) (ex,Z);rw[I]at Tt;have GX:IntKind.i64.wrap (-d1)=-d1:=by rw[IntKind.wrap_i64];simp only at Tt;omega
   obtain⟨bb,AO,hba,AR⟩:=(HB.o.ext HX.o).at yp;subst hba;obtain⟨bi,Ck⟩:=b8 (B[k]?.getD 0);rw[<-Ck]at AR;have Bh:=ae AR;have JX:=ae (show dt B (base,1) cs N k=Ac bi (d1,d2)by unfold dt;rw[<-hz,IZ,I,Ck]);have PE:IntKind.i64.wrap ((N:Int)+(k:Int))=(z:Int):=by rw[IntKind.wrap_i64];omega
   have L3:(0:Int)<=(z:Int):=by omega
   have L2:(z:Int)<(U:Int):=by omega
   clear IZ I Ck hz Tt;go_upto_region 5 with fail;go_upto_region 5 with fail
   go_cut [9,10] (fun sx so wx=>∃g:Nat,sx=.pointer (some ⟨g,0,none⟩)/\so=.bool DH/\b7 (aj G wx g d1 d2))
   case first =>
    have k7:Ext G G.drew:=Ext.drew G;have xI:Ext G (G.alloc (.cells #[.int .i64 0,.int .i64 0] 46)).drew:=(Ext.alloc _ _).trans (Ext.drew _);have k8:=ae (fun(w':World) (h:Ext G w')=>(⟨h.k6 c2,h.k6 yT,h.k6 K,h⟩:w'.cell? ⟨S,5,none⟩=some (.int .i64 (N:Int))/\w'.cell? ⟨zb,xJ+z*2,none⟩=some (.int .i64 ex)/\w'.cell? ⟨zb,xJ+z*2+1,none⟩=some (.int .i64 Z)/\Ext G w'))
    go_region_held3 (fun w'=>w'.cell? ⟨S,5,none⟩=some (.int .i64 (N:Int))/\w'.cell? ⟨zb,xJ+z*2,none⟩=some (.int .i64 ex)/\w'.cell? ⟨zb,xJ+z*2+1,none⟩=some (.int .i64 Z)/\Ext G w')
     (first
       | with_reducible exact k8.o _ k7
       | with_reducible exact k8.o _ xI
       | with_reducible exact k8.o _ ((k7.setCell (by first|(simp;done)|(simp;omega)) _).setCell (by first|(simp;done)|(simp;omega)) _)
       | with_reducible exact k8.o _ (k7.trans (Ext.alloc _ _))
       | with_reducible exact k8.o _ (r9.put _ _).ext)
     (first
       | (go_at_call 32
          (with_reducible refine(cl base _).mono ?_)
          rintro e w7 ⟨rfl,R⟩
          first|(with_reducible have r9:=aj.grow r9 R)|(with_reducible have r9:=aj.xu R)|(with_reducible have r9:=aj.xA k7 R)|skip
          first|(have BQ:=r9.c0;have BP:=r9.c1;have C3:=r9.free)|skip
          have k7:Ext G w7:=by first|with_reducible exact k7.trans R|with_reducible exact xI.trans R|with_reducible exact(k7.trans (Ext.alloc _ _)).trans R
          have zr:=k7.size)
       | (go_at_call 120
          (with_reducible refine(lY base 1 ex Z _).mono ?_)
          rw[CV.o];rintro e w8 ⟨rfl,O⟩
          first|(with_reducible have r9:=aj.grow r9 O)|(with_reducible have r9:=aj.xu O)|(with_reducible have r9:=aj.xA k7 O)|skip
          first|(have BQ:=r9.c0;have BP:=r9.c1;have C3:=r9.free)|skip
          have k7:Ext G w8:=by first|with_reducible exact k7.trans O|with_reducible exact xI.trans O|with_reducible exact(k7.trans (Ext.alloc _ _)).trans O
          have zr:=k7.size)
       | fail)
    all_goals(go_wp2_with fail;go_meet;first|exact⟨_,rfl,rfl,ae (r9.put _ _)⟩|exact⟨_,rfl,rfl,ae (aj.new k7 _ _)⟩|exact⟨_,rfl,rfl,ae (aj.new' k7 _ _ e7)⟩)
   obtain⟨g,rfl,rfl,J⟩:=hcut;have Ja:=ae (HX.o.trans J.o.ext);clear PE L3 L2 yT K l0 l1 l2 c0 c1 c2 c3 c4 cf AR;obtain⟨l0,l1,l2,c0,c1,c2,c3,c4,cf⟩:=(H.o.ext Ja.o).cells;have AR:=J.o.ext.k6 Bh.o;have yE:=ae (xC.o.ext J.o.ext);obtain⟨e1,Cf⟩:∃e1,Ac bi (d1,d2)=(e1,d2):=by unfold Ac wR;split<;>exact⟨_,rfl⟩
   have CA:=ae Cf;clear Cf
   go_upto_if 46 with fail
   go_cut [8] (fun s8 wx=>s8=.int .i64 (k:Int)/\b7 (aj G wx g e1 d2))
   case first =>
    have g0:=J.o.c0;have g1':=J.o.c1;have gf:=J.o.free;by_cases ER:bi<0
    ·have K:-d1=e1:=by have:=CA.o;unfold Ac wR at this;rw[if_pos ER]at this;exact congrArg Prod.fst this
     rw[show decide (bi<0)=true from decide_eq_true ER];have u:=ae (J.o.put0 e1);rw[K]at GX;clear ER;go_wp2_with fail;go_meet;exact⟨rfl,by first|exact u|(rw[K];exact u)⟩
    ·have K:e1=d1:=by have:=CA.o;unfold Ac at this;rw[if_neg b9]at this;exact(congrArg Prod.fst this).symm
     subst K;rw[show decide (bi<0)=false from decide_eq_false b9];go_wp2_with fail;go_meet;exact⟨rfl,J⟩
   obtain⟨rfl,W⟩:=hcut;have xp:=ae (xC.o.ext W.o.ext);have xj:=ae (HX.o.trans W.o.ext);have g0:=W.o.c0;have g1':=W.o.c1;have D':=W.o.lt;have CY:=xj.o.size;have Kj:=ae (show((List.range k).map (dt B (base,1) cs N)).length=k by simp);have AU:=ae (show(List.range k).map (dt B (base,1) cs N)++[(e1,d2)]=(List.range (k+1)).map (dt B (base,1) cs N)by rw[<-CA.o,<-JX.o];exact cj _ _);clear l0 l1 l2 c0 c1 c2 c3 c4 cf AR GX
   go_wp2_with (first
    | (at_builtin;refine aG rfl _ _ rfl w.heap.size (.slice a1 n1 q1) _ rfl (xp.o.ext (Ext.alloc _ _)) _ 1 _ [(e1,d2)] rfl (r8.one' _ _ _ _ _ e7) (by rw[Kj.o];omega) (by simp;omega) ?_;intro v5 w5 ho hg l7;have X5:=ae (al (xj.o.trans (Ext.alloc _ _)) hg (fun j hj=>(xp.o.lt j hj).1));obtain⟨a5,n5,p5,rfl,A9⟩:=ho.var;have xL:=ae ho;clear ho hg l7))
   go_roundg (g1-1)
   case measure=>have:=Bg.o;omega
   case rel=>exact⟨k+1,a5,n5,p5,ae (j4 Bg.o),by go_num,rfl,ae (by rw[<-AU.o];exact xL.o),X5⟩
  ·have PV:na=k:=by have:=Bg.o;omega
   subst PV;go_wp2_with fail;go_ret;exact⟨⟨_,rfl,xC.o⟩,HX.o⟩
end
section
variable{w:World}{S:Nat}{a:j8}{na ca:Nat}{b:j8}{nb cb:Nat}{c:j8}{nc cc:Nat}{ra:j8}{rc:Nat}{ba:j8}{bc:Nat}{vs:List Value}{t:Tb}{n:Nat}{N m:Nat}{T0:Nat->Nat->Rat}
theorem O5(h:bI w S a na ca b nb cb c nc cc ra m rc ba m bc vs t n false)(hT:xY N m T0 t)(hN:N<=1000)(hm:m<=1000){I:Nat}(MD:I<N):
 Calls Tryz.prog 131 #[.pointer (some ⟨S,0,none⟩),.int .i64 (I:Int)] w fun e w'=>(∃v,e=.returned v/\l8 w' w.heap.size v (ze t N I m))/\Ext w w':=by
 have H:=ae h;have hlt:=lt_of_block h.box;have HT:=ae hT;have Cq:=ae hT.q8;have yC:=h.tb.Be.rows.o3;have AX:=h.tb.Be.rows.l9;have zN:=h.tb.Be.basis.o3;have zx:=h.tb.Be.basis.l9;have HO:=ae (l8.made w w.heap.size (Nat.le_refl _));have X0:=ae (Ext.alloc w (.cells #[] 46));clear h hT;go_enter Tryz.func131,Tryz.ntmps131
 go_wp2_with fail
 go_loopg [5,6] N (fun gk oo ii wr=>∃(k:Nat) (a1:j8) (n1 p1:Nat),b7 (gk+k=N)/\ii=.int .i64 (k:Int)/\oo=.slice a1 n1 p1/\b7 (l8 wr w.heap.size (.slice a1 n1 p1) ((List.range k).map fun i=>if i=I then((1:Int),(1:Int)) else(0,1)))/\b7 (Ext w wr))
 case atStart=>exact⟨0,_,_,_,ae b9,rfl,rfl,HO,X0⟩
 case round =>
  obtain⟨g1,r7⟩:=b8 gk;subst r7;obtain⟨o7,o6⟩:=b8 wr;subst o6;obtain⟨k,a1,n1,q1,Bg,rfl,rfl,xC,HX⟩:=hrel;have hsz:=HX.o.size;obtain⟨l0,l1,l2,c0,c1,c2,c3,c4,cf⟩:=(H.o.ext HX.o).cells;rw[Cq.o]at c2;by_cases yp:k<N
  ·have zR:=ae (show((List.range k).map fun i=>if i=I then((1:Int),(1:Int)) else(0,1)).length=k by simp);obtain⟨un,F2⟩:∃u:Int,u=if k=I then 1 else 0:=⟨_,rfl⟩
   have AU:=ae (show(List.range k).map (fun i=>if i=I then((1:Int),(1:Int)) else(0,1))++[(un,1)]=(List.range (k+1)).map fun i=>if i=I then((1:Int),(1:Int)) else(0,1)by
    rw[<-cj,F2];congr 2;split<;>rfl)
   have DU:((k:Int) == (I:Int))=decide (k=I):=by by_cases h:k=I<;>simp[h]<;>omega
   have HUN:=ae (show wL (decide (k=I))=un by rw[F2];by_cases h:k=I<;>simp[h,wL]);have OU:=ae (fun w'=>fR (decide (k=I)) w');rw[HUN.o]at OU;clear F2;go_wp2_with (first|(go_at_call 79;refine(OU.o _).mono ?_;rintro e w2 ⟨rfl,rfl⟩));clear DU;refine(cl un _).mono ?_;rintro e w3 ⟨rfl,hx⟩;have X3:=ae (HX.o.trans hx);have xp:=ae (xC.o.ext hx);have CY:=X3.o.size;clear hx l0 l1 l2 c0 c1 c2 c3 c4 cf
   go_wp2_with (first
    | (at_builtin;refine aG rfl _ _ rfl w.heap.size (.slice a1 n1 q1) _ rfl (xp.o.ext (Ext.alloc _ _)) _ 1 _ [(un,1)] rfl (r8.one' _ _ _ _ _ e7) (by rw[zR.o];omega) (by simp;omega) ?_;intro v5 w5 ho hg l7;have X5:=ae (al (X3.o.trans (Ext.alloc _ _)) hg (fun j hj=>(xp.o.lt j hj).1));obtain⟨a5,n5,p5,rfl,A9⟩:=ho.var;have xL:=ae ho;clear ho hg l7))
   go_roundg (g1-1)
   case measure=>have:=Bg.o;omega
   case rel=>exact⟨k+1,a5,n5,p5,ae (j4 Bg.o),by go_num,rfl,ae (by rw[<-AU.o];exact xL.o),X5⟩
  ·have PV:N=k:=by have:=Bg.o;omega
   have OL:=ae (show l8 o7 w.heap.size (.slice a1 n1 q1) (ze t N I 0)by rw[PV];exact xC.o);obtain rfl:N=n1:=by have h1:=OL.o.wK.hlen;rw[iF]at h1;exact h1
   clear PV;go_wp2_with fail;clear l0 l1 l2 c0 c1 c2 c3 c4 cf
   go_loopg [7] m (fun gk ii wr=>∃i:Nat,b7 (gk+i=m)/\ii=.int .i64 (i:Int)/\b7 (l8 wr w.heap.size (.slice a1 N q1) (ze t N I i))/\b7 (Ext w wr))
   case atStart=>exact⟨0,ae b9,rfl,OL,HX⟩
   case round =>
    obtain⟨g2,xK⟩:=b8 gk;subst xK;obtain⟨J,wT⟩:=b8 wr;subst wT;obtain⟨i,HI,rfl,HR,CT⟩:=hrel;have Ax:=ae (H.o.ext CT.o);obtain⟨l0,l1,l2,c0,c1,c2,c3,c4,cf⟩:=Ax.o.cells;rw[Cq.o]at c2;have D4:=CT.o.size;by_cases Bb:i<m
    ·obtain⟨W,U,B2,yT⟩:=Ax.o.tb.Be.basis.at Bb;subst B2;obtain⟨Z,zd⟩:=b8 (t.basis[i]?.getD 0);rw[<-zd]at yT;have AF:=ae zd;have Du:0<=Z/\Z<N+m:=by
      rw[zd,List.getElem?_eq_getElem (by rw[HT.o.zP];exact Bb)];exact HT.o.Dk _ (List.getElem_mem _)
     have JD:(0:Int)<=(i:Int):=by omega
     have hi1:(i:Int)<(m:Int):=by omega
     clear zd;go_upto_region 9 with fail;have k7:Ext J J.drew:=Ext.drew J;have k8:=ae (fun(w':World) (h:Ext J w')=>(⟨h.k6 c1,h.k6 c2,h.k6 yT,h⟩:w'.cell? ⟨S,4,none⟩=some (.slice (some ⟨W,U,none⟩) m bc)/\w'.cell? ⟨S,5,none⟩=some (.int .i64 (N:Int))/\w'.cell? ⟨W,U+i,none⟩=some (.int .i64 Z)/\Ext J w'));refine wp_region_held_drew (S:=(fun w'=>w'.cell? ⟨S,4,none⟩=some (.slice (some ⟨W,U,none⟩) m bc)/\w'.cell? ⟨S,5,none⟩=some (.int .i64 (N:Int))/\w'.cell? ⟨W,U+i,none⟩=some (.int .i64 Z)/\Ext J w')) e8 ?_ (fun k9=>?_)
     ·exact k8.o _ k7
     refine tk 0 ?_;refine tk 1 ?_;refine tk 2 ?_;refine tk 3 ?_;refine tk 4 ?_;refine tk 5 ?_;refine tk 6 ?_;refine tk 7 ?_;refine tk 8 ?_;refine tk 9 ?_;refine tk 10 ?_;refine tk 11 ?_;refine tk 12 ?_;refine tk 13 ?_;refine wpAnyH_done e8 ?_ _;have xj:=ae (CT.o.trans k7);have R:=ae (HR.o.ext k7);have AK:∃x,x=J.drew:=⟨_,rfl⟩;obtain⟨w3,AK⟩:=AK;rw[<-AK]at xj R;rw[<-AK];clear k7 l0 l1 l2 c0 c1 c2 c3 c4 cf yT AK k8 k9;by_cases Ig:Z<(N:Int)
     ·obtain⟨O,ZU⟩:∃n:Nat,Z=n:=⟨Z.toNat,by omega⟩;subst ZU;have GH:O<N:=by omega
      obtain⟨l0,l1,l2,c0,c1,c2,c3,c4,cf⟩:=H.o.cells;obtain⟨eb',Yf,MN,yT⟩:=H.o.tb.Be.basis.at Bb;simp only[Option.some.injEq,Addr.mk.injEq,and_true]at MN;obtain⟨rfl,rfl⟩:=MN;rw[<-AF.o]at yT;obtain⟨KD,By,ya,yn,yc,Hr,y9,o9⟩:=H.o.tb.Be.rows.at Bb;subst Hr;have Dn:yn=N+m+1:=by rw[<-o9.hlen];exact(HT.o.row i Bb).1
      have xM:=o9.o3;have D1:=o9.l9;obtain⟨yb,xB,p,q,Da,xk,Gp,Gn⟩:=o9.at (show I<yn by omega);subst Da;have Vc:(I:Int)<(yn:Int):=by omega
      have Oj:(0:Int)<=(I:Int):=by omega
      have hbI:(O:Int)<(N:Int):=by omega
      have hbI0:(0:Int)<=(O:Int):=by omega
      have yt:=ae (show t.at i I=(p,q)from xk);have D6:-9223372036854775807<=p:=by have:=(HT.o.bounds.2 i I).1;rw[yt.o]at this;exact this
      have CG:p<=9223372036854775807:=by have:=(HT.o.bounds.2 i I).2;rw[yt.o]at this;exact this
      have Ev:=ae D6;clear xk o9 Dn Du;obtain⟨G,hG,DF,_,_⟩:=R.o.block (k:=O) GH;subst hG;go_upto_region 10 with fail;have k7:Ext w3 w3.drew:=Ext.drew w3;have k8:=ae (fun(w':World) (h:Ext w w')=>(⟨h.k6 c0,h.k6 c1,h.k6 yT,h.k6 y9,h.k6 Gp,h.k6 Gn,h⟩:w'.cell? ⟨S,3,none⟩=some (.slice (some ⟨KD,By,none⟩) m rc)/\w'.cell? ⟨S,4,none⟩=some (.slice (some ⟨W,U,none⟩) m bc)/\w'.cell? ⟨W,U+i,none⟩=some (.int .i64 (O:Int))/\w'.cell? ⟨KD,By+i,none⟩=some (.slice (some ⟨yb,xB,none⟩) yn yc)/\w'.cell? ⟨yb,xB+I*2,none⟩=some (.int .i64 p)/\w'.cell? ⟨yb,xB+I*2+1,none⟩=some (.int .i64 q)/\Ext w w'));refine wp_region_held_drew (S:=(fun w'=>w'.cell? ⟨S,3,none⟩=some (.slice (some ⟨KD,By,none⟩) m rc)/\w'.cell? ⟨S,4,none⟩=some (.slice (some ⟨W,U,none⟩) m bc)/\w'.cell? ⟨W,U+i,none⟩=some (.int .i64 (O:Int))/\w'.cell? ⟨KD,By+i,none⟩=some (.slice (some ⟨yb,xB,none⟩) yn yc)/\w'.cell? ⟨yb,xB+I*2,none⟩=some (.int .i64 p)/\w'.cell? ⟨yb,xB+I*2+1,none⟩=some (.int .i64 q)/\Ext w w')) e8 ?_ (fun k9=>?_)
      ·exact k8.o _ (xj.o.trans k7)
      refine tk 0 ?_;refine tk 1 ?_;refine tk 2 ?_;refine tk 3 ?_;refine tk 4 ?_;refine tk 5 ?_;refine tk 6 ?_;refine tk 7 ?_;refine tk 8 ?_;refine tk 9 ?_;refine tk 10 ?_;refine tk 11 ?_;refine tk 12 ?_;refine tk 13 ?_;refine tk 14 ?_;refine tk 15 ?_;refine tk 16 ?_;refine tk 17 ?_;refine tk 18 ?_;refine tk 19 ?_;refine rd (i:=20) (h:=fun K hK=>?_);go_simp
      (go_at_call 36;refine(fE p q _ D6 CG).mono ?_;rintro e IG ⟨rfl,Bi⟩;have k7:=k7.trans Bi;have FP:=ae (R.o.ext k7);obtain⟨G',I7,Z6,Z5,AL,BO,Ka,CK⟩:=FP.o.wK.at GH;simp only[Option.some.injEq,Addr.mk.injEq,and_true]at AL;obtain⟨rfl,rfl⟩:=AL;rw[Nat.zero_add]at Ka CK;obtain⟨G2,XX,Ty,To,TL⟩:=FP.o.block (k:=O) GH;simp only[Option.some.injEq,Addr.mk.injEq,and_true]at XX;subst XX;clear BO)
      go_wp2_with fail;refine hK.out _ _ ?_ (fun k9=>?_)
      ·exact k8.o _ (xj.o.trans k7)
      clear hK K
      try simp only[Act.put,sA,sB,sC]
      refine tk 21 ?_;have F':=ae (((xj.o.trans k7).setCell (p:=⟨G,O*2,none⟩) DF (.int .i64 (-p))).setCell (p:=⟨G,O*2+1,none⟩) DF (.int .i64 q));refine rd (i:=22) (h:=fun K hK=>?_);go_simp;refine hK.out _ _ ?_ (fun k9=>?_)
      ·exact k8.o _ F'.o
      clear hK K
      try simp only[Act.put,sA,sB,sC]
      refine wpAnyH_done e8 ?_ _
      have Jf:=ae (show l8 ((IG.setCell ⟨G,O*2,none⟩ (.int .i64 (-p))).setCell ⟨G,O*2+1,none⟩ (.int .i64 q)) w.heap.size (.slice (some ⟨G,0,none⟩) N q1) (ze t N I (i+1))by
       rw[lV (by rw[<-AF.o];omega),<-AF.o,Int.toNat_natCast,yt.o]
       exact FP.o.set (k:=O) (by rw[iF];exact GH) (-p) q)
      go_wp2_with fail
      go_roundg (g2-1)
      case measure=>have:=HI.o;omega
      case rel=>exact⟨i+1,ae (j4 HI.o),by go_num,Jf,F'⟩
     ·have Jf:=ae (show l8 w3 w.heap.size (.slice a1 N q1) (ze t N I (i+1))by rw[ol (by rw[<-AF.o];omega)];exact R.o);clear Du;go_wp2_with fail
      go_roundg (g2-1)
      case measure=>have:=HI.o;omega
      case rel=>exact⟨i+1,ae (j4 HI.o),by go_num,Jf,xj⟩
    ·have xR:m=i:=by have:=HI.o;omega
     subst xR;go_wp2_with fail;go_ret;exact⟨⟨_,rfl,HR.o⟩,CT.o⟩
end
end Go.Proofs.YtalmoolkhcgmmaaGreat
