import Derived.Test.YtdadoignenffgaaGreatDoorSvAllG26
import Derived.Test.YtdadoignenffgaaGreatDoorSvAllG19
set_option linter.unusedVariables false
set_option linter.unusedSimpArgs false
namespace Go.Proofs.YtdadoignenffgaaGreatDoor
variable{r c N m:Nat}{vs:List Value}{t:Tb}{T0:Nat->Nat->Rat}
set_option maxHeartbeats 16000000
set_option maxRecDepth 100000
open Go.RowKit
section
variable{w:World}{ra:j6}{rc:Nat}{ba:j6}{bc:Nat}{t:Tb}{n m:Nat}{T0:Nat->Nat->Rat}
theorem I4(h:Ds w ra m rc ba m bc t)(hm:m<=1000)(y7:t.q8=n)(CS:∀i,i<m->(t.row i).length<=1048576):
 Calls Tryz.prog 260 #[CR ra m rc ba m bc (n:Int)] w fun e w'=>(∃Z vb vs,e=.returned (.agg #[Z,vb,.int .i64 (n:Int)])/\wS w' w.heap.size Z vb vs t)/\Ext w w':=by
 have uS:=(Ext.alloc w (bT ra m rc ba m bc (n:Int))).trans (Ext.alloc _ (.cells #[.slice none 0 0,.slice none 0 0,.int .i64 0] 116));obtain⟨W,hW⟩:=b9 ((w.alloc (bT ra m rc ba m bc (n:Int))).alloc (.cells #[.slice none 0 0,.slice none 0 0,.int .i64 0] 116));rw[<-hW]at uS;have uV:=ae uS;have H:=ae (h.ext uS);have xm:=h.rows.l8;have yI:=h.rows.o0;have xE:=ae (show t.rows.length=m from h.rows.hlen);have xi:=ae (show t.basis.length=m from h.basis.hlen);have B6:=ae y7;have xW:=ae CS;have uW:=ae (show W.heap[w.heap.size]?=some (.cells #[.slice ra m rc,.slice ba m bc,.int .i64 (n:Int)] 116 (0,0))by rw[hW,bU _ _ _ e8];exact aj _ _ _ rfl);have wL:=ae (show W.heap[w.heap.size+1]?=some (.cells #[.slice none 0 0,.slice none 0 0,.int .i64 0] 116 (0,0))by rw[hW];exact aj _ _ _ e8);have zx:=ae (show W.heap.size=w.heap.size+1+1 by rw[hW];simp);have p1:=au uW.o;have p2:=av uW.o;clear h uS CS y7;go_enter Tryz.func260,Tryz.ntmps260
 go_upto_region 1 with fail;rw[<-hW];clear hW
 go_cut [3] (fun s wx=>∃(g:Nat) (a3:j6) (O c3:Nat),s=.pointer (some ⟨g,0,none⟩)/\b7 (Ah wx W.heap.size g (.slice none 0 0) (.slice a3 O c3) (n:Int) [] [] t.basis)/\b7 (Ext W wx))
 case first =>
  have k7:Ext W W.drew:=Ext.drew W;have k8:=ae (fun(w':World) (h:Ext W w')=>(⟨h.j9 p1,h.j9 p2,h⟩:(fun w'=>w'.cell? ⟨w.heap.size,1,none⟩=some (.slice ba m bc)/\w'.cell? ⟨w.heap.size,2,none⟩=some (.int .i64 (n:Int))/\Ext W w') w'));refine wp_region_held_drew (S:=(fun w'=>w'.cell? ⟨w.heap.size,1,none⟩=some (.slice ba m bc)/\w'.cell? ⟨w.heap.size,2,none⟩=some (.int .i64 (n:Int))/\Ext W w')) e9 ?_ (fun G=>?_)
  ·exact k8.o _ k7
  refine tk 1 ?_;refine tk 2 ?_;refine tk 4 ?_;refine tk 5 ?_;refine wpAnyH_ready (rs:=[0,7]) e9 e8 ?_;refine AllReadyH.cons (o:=?_) ?_ (fun K hK=>?_) ?_;rotate_left
  ·simp only[gA,gB,gC];rfl
  ·
   have k7:Ext W (W.alloc (.cells #[] 3)).drew:=(Ext.alloc _ _).trans (Ext.drew _);have J:=ae ((o5.wJ W W.heap.size W.heap.size rfl (Nat.le_refl _)).ext (Ext.drew _));go_simp;refine hK.out _ _ ?_ (fun G=>?_)
   ·exact k8.o _ k7
   clear hK K
   try simp only[Act.put,sA,sB,sC]
   obtain⟨gi,P7⟩:=b9 W.heap.size;obtain⟨I,D3⟩:=b9 ((W.alloc (.cells #[] 3)).drew);rw[<-D3]at k7 J;rw[show(Value.slice (some ⟨W.heap.size,0,none⟩) 0 0)=Value.slice (some ⟨gi,0,none⟩) 0 0 by rw[P7]]at J;rw[<-D3,<-P7];clear D3 P7 G;refine wpAnyH_ready (rs:=[3,7]) e9 e8 ?_;refine AllReadyH.cons (o:=?_) ?_ (fun K hK=>?_) ?_;rotate_left
   ·simp only[gA,gB,gC];rfl
   ·
    refine bW _ j0 ?_;refine cD _ _ j0 W.heap.size (.slice (some ⟨gi,0,none⟩) 0 0) [] j0 J.o ba m bc t.basis j0 (H.o.ext k7).basis (by simp;omega) k7.size ?_;intro v3 w3 xt Ke Fx;obtain⟨a3,O,c3,rfl,FF⟩:=xt.var;have vi:=ae (show o5 w3 W.heap.size (.slice a3 O c3) t.basis by simpa using xt);have vj:=Ext.grown k7 Ke (fun j hj=>(J.o.lt j hj).1);go_wp2_with fail;refine hK.out _ _ ?_ (fun G=>?_)
    ·exact k8.o _ vj
    clear hK K
    try simp only[Act.put,sA,sB,sC]
    have k7:=vj;refine tk 6 ?_;have Kc:=k7.size;have k7:=k7.trans (Ext.alloc w3 (.cells #[.slice none 0 0,.slice none 0 0,.int .i64 0] 116));have E:=ae (show(w3.alloc (.cells #[.slice none 0 0,.slice none 0 0,.int .i64 0] 116)).heap[w3.heap.size]?=some (.cells #[.slice none 0 0,.slice none 0 0,.int .i64 0] 116 (0,0))from heap_alloc_new w3 _);refine rd (i:=7) (h:=fun K hK=>?_);go_simp;refine hK.out _ _ ?_ (fun G=>?_)
    ·exact k8.o _ k7
    clear hK K
    try simp only[Act.put,sA,sB,sC]
    obtain⟨gt,Q⟩:=b9 w3.heap.size;obtain⟨W9,U⟩:=b9 (w3.alloc (.cells #[.slice none 0 0,.slice none 0 0,.int .i64 0] 116));have U2:=ae (show Ext w3 W9 by rw[U];exact Ext.alloc _ _);rw[<-U]at k7;rw[<-U,<-Q]at E;rw[<-U,<-Q];have AX:W.heap.size<=gt:=by rw[Q];exact Kc
    clear U Q G Kc;have vi:=ae (vi.o.ext U2.o);have Ag:=al E.o;have Af:=au E.o;have Ub:=av E.o;have T':=cO E.o;refine rd (i:=8) (h:=fun K hK=>?_);go_simp;refine hK.out _ _ ?_ (fun G=>?_)
    ·exact k8.o _ (Ext.zl k7 AX _ _ _)
    clear hK K
    try simp only[Act.put,sA,sB,sC]
    refine wpAnyH_done e9 ?_ _;go_wp2_with fail;go_meet;exact⟨gt,a3,O,c3,rfl,ae (Ah.Ms E.o vi.o (Nat.le_refl _) AX),ae (Ext.zl k7 AX _ _ _)⟩
   refine AllReadyH.cons (o:=?_) ?_ (fun K hK=>?_) AllReadyH.nil;rotate_left
   ·simp only[gA,gB,gC];rfl
   have Kc:=k7.size;have k7:=k7.trans (Ext.alloc I (.cells #[.slice none 0 0,.slice none 0 0,.int .i64 0] 116));have E:=ae (show(I.alloc (.cells #[.slice none 0 0,.slice none 0 0,.int .i64 0] 116)).heap[I.heap.size]?=some (.cells #[.slice none 0 0,.slice none 0 0,.int .i64 0] 116 (0,0))from heap_alloc_new I _);go_simp;refine hK.out _ _ ?_ (fun G=>?_)
   ·exact k8.o _ k7
   clear hK K
   try simp only[Act.put,sA,sB,sC]
   obtain⟨gt,Q⟩:=b9 I.heap.size;obtain⟨W9,U⟩:=b9 (I.alloc (.cells #[.slice none 0 0,.slice none 0 0,.int .i64 0] 116));have U2:=ae (show Ext I W9 by rw[U];exact Ext.alloc _ _);rw[<-U]at k7;rw[<-U,<-Q]at E;rw[<-U,<-Q];have AX:W.heap.size<=gt:=by rw[Q];exact Kc
   clear U Q G Kc;have J:=ae (J.o.ext U2.o);refine rd (i:=3) (h:=fun K hK=>?_);refine bW _ j0 ?_;refine cD _ _ j0 W.heap.size (.slice (some ⟨gi,0,none⟩) 0 0) [] j0 J.o ba m bc t.basis j0 (H.o.ext k7).basis (by simp;omega) k7.size ?_;intro v3 w3 xt Ke Fx;obtain⟨a3,O,c3,rfl,FF⟩:=xt.var;have vi:=ae (show o5 w3 W.heap.size (.slice a3 O c3) t.basis by simpa using xt);have vj:=Ext.grown k7 Ke (fun j hj=>(J.o.lt j hj).1);have E:=ae ((Ke.block gt (lt_of_block E.o) (an J.o E.o (by decide))).trans E.o);go_wp2_with fail;refine hK.out _ _ ?_ (fun G=>?_)
   ·exact k8.o _ vj
   clear hK K
   try simp only[Act.put,sA,sB,sC]
   have k7:=vj;refine tk 6 ?_;have Ag:=al E.o;have Af:=au E.o;have Ub:=av E.o;have T':=cO E.o;refine rd (i:=8) (h:=fun K hK=>?_);go_simp;refine hK.out _ _ ?_ (fun G=>?_)
   ·exact k8.o _ (Ext.zl k7 AX _ _ _)
   clear hK K
   try simp only[Act.put,sA,sB,sC]
   refine wpAnyH_done e9 ?_ _;go_wp2_with fail;go_meet;exact⟨gt,a3,O,c3,rfl,ae (Ah.Ms E.o vi.o (Nat.le_refl _) AX),ae (Ext.zl k7 AX _ _ _)⟩
  refine AllReadyH.cons (o:=?_) ?_ (fun K hK=>?_) AllReadyH.nil;rotate_left
  ·simp only[gA,gB,gC];rfl
  have k7:Ext W (W.alloc (.cells #[.slice none 0 0,.slice none 0 0,.int .i64 0] 116)).drew:=(Ext.alloc _ _).trans (Ext.drew _);have E:=ae (show(W.alloc (.cells #[.slice none 0 0,.slice none 0 0,.int .i64 0] 116)).drew.heap[W.heap.size]?=some (.cells #[.slice none 0 0,.slice none 0 0,.int .i64 0] 116 (0,0))from heap_alloc_new W _);go_simp;refine hK.out _ _ ?_ (fun G=>?_)
  ·exact k8.o _ k7
  clear hK K
  try simp only[Act.put,sA,sB,sC]
  obtain⟨gt,Q⟩:=b9 W.heap.size;obtain⟨I,D3⟩:=b9 ((W.alloc (.cells #[.slice none 0 0,.slice none 0 0,.int .i64 0] 116)).drew);rw[<-D3]at k7;rw[<-D3,<-Q]at E;rw[<-D3,<-Q];have AX:W.heap.size<=gt:=Nat.le_of_eq Q.symm;clear D3 Q G;have J:=ae (o5.wJ I W.heap.size I.heap.size rfl k7.size);have k7:=k7.trans (Ext.alloc I (.cells #[] 3));refine rd (i:=0) (h:=fun K hK=>?_);go_simp;refine hK.out _ _ ?_ (fun G=>?_)
  ·exact k8.o _ k7
  clear hK K
  try simp only[Act.put,sA,sB,sC]
  obtain⟨gi,P7⟩:=b9 I.heap.size;obtain⟨W2,Bo⟩:=b9 (I.alloc (.cells #[] 3));rw[<-Bo]at k7 J;rw[show(Value.slice (some ⟨I.heap.size,0,none⟩) 0 0)=Value.slice (some ⟨gi,0,none⟩) 0 0 by rw[P7]]at J;have E:=ae (show W2.heap[gt]?=some (.cells #[.slice none 0 0,.slice none 0 0,.int .i64 0] 116 (0,0))by rw[Bo];exact(Ext.alloc I (.cells #[] 3)).blk E.o);rw[<-Bo,<-P7];clear Bo P7 G;refine rd (i:=3) (h:=fun K hK=>?_);refine bW _ j0 ?_;refine cD _ _ j0 W.heap.size (.slice (some ⟨gi,0,none⟩) 0 0) [] j0 J.o ba m bc t.basis j0 (H.o.ext k7).basis (by simp;omega) k7.size ?_;intro v3 w3 xt Ke Fx;obtain⟨a3,O,c3,rfl,FF⟩:=xt.var;have vi:=ae (show o5 w3 W.heap.size (.slice a3 O c3) t.basis by simpa using xt);have vj:=Ext.grown k7 Ke (fun j hj=>(J.o.lt j hj).1);have E:=ae ((Ke.block gt (lt_of_block E.o) (an J.o E.o (by decide))).trans E.o);go_wp2_with fail;refine hK.out _ _ ?_ (fun G=>?_)
  ·exact k8.o _ vj
  clear hK K
  try simp only[Act.put,sA,sB,sC]
  have k7:=vj;refine tk 6 ?_;have Ag:=al E.o;have Af:=au E.o;have Ub:=av E.o;have T':=cO E.o;refine rd (i:=8) (h:=fun K hK=>?_);go_simp;refine hK.out _ _ ?_ (fun G=>?_)
  ·exact k8.o _ (Ext.zl k7 AX _ _ _)
  clear hK K
  try simp only[Act.put,sA,sB,sC]
  refine wpAnyH_done e9 ?_ _;go_wp2_with fail;go_meet;exact⟨gt,a3,O,c3,rfl,ae (Ah.Ms E.o vi.o (Nat.le_refl _) AX),ae (Ext.zl k7 AX _ _ _)⟩
 obtain⟨g,a3,O,c3,rfl,HT,vh⟩:=hcut;clear p1 p2;go_wp2_with fail
 go_loopg [4] m (fun gk ii wr=>∃(k:Nat) (Z:Value) (vs:List Value),b7 (gk+k=m)/\ii=.int .i64 (k:Int)/\b7 (Ah wr W.heap.size g Z (.slice a3 O c3) (n:Int) vs (t.rows.take k) t.basis)/\b7 (Ext W wr))
 case atStart=>exact⟨0,_,_,ae e7,rfl,HT,vh⟩
 case round =>
  obtain⟨g1,o6⟩:=b9 gk;subst o6;obtain⟨o8,o4⟩:=b9 wr;subst o4;obtain⟨k,Z,vs,HK,rfl,T,HX⟩:=hrel;have p0:=al (HX.o.blk uW.o);by_cases hlt:k<m
  ·obtain⟨zb,vF,za,zn,zc,zX,xr,o7⟩:=(H.o.ext HX.o).rows.at hlt;subst zX;have G4:zn<=1048576:=by rw[<-o7.hlen];exact xW.o k hlt
   have ze:=ae o7;have t0:=al T.o.box;have Ev:=T.o.lt;have MU:=HX.o.size;have xJ:=ae (show vs.length=k by rw[T.o.rows.len,List.length_take];have h2:=xE.o;omega);have BU:(0:Int)<=(k:Int):=by omega
   have yx:(k:Int)<(m:Int):=by omega
   have P0:=ae p0;obtain⟨Wh,IF,za',Rt,Wg,Cl,JG,S2⟩:=H.o.rows.at hlt;simp only[Option.some.injEq,Addr.mk.injEq,and_true]at Cl;obtain⟨rfl,rfl⟩:=Cl;have Vp:=xr.symm.trans (HX.o.j9 JG);simp only[Option.some.injEq,Value.slice.injEq]at Vp;obtain⟨rfl,rfl,rfl⟩:=Vp;have Hzz:=ae (fun(w':World) (hx:Ext W w')=>hx.j9 JG);clear S2 JG;clear o7;go_upto_region 5 with fail;have Bv:Ext o8 o8.drew:=Ext.drew o8;have k8:=ae (fun(w':World) (h:Ext o8 w')=>(⟨h.j9 t0,h.j9 p0,h.j9 xr,HX.o.trans h⟩:w'.cell? ⟨g,0,none⟩=some Z/\w'.cell? ⟨w.heap.size,0,none⟩=some (.slice (some ⟨zb,vF,none⟩) m rc)/\w'.cell? ⟨zb,vF+k,none⟩=some (.slice za zn zc)/\Ext W w'));refine dr (M:=[11]) (S:=fun w'=>w'.cell? ⟨g,0,none⟩=some Z/\w'.cell? ⟨w.heap.size,0,none⟩=some (.slice (some ⟨zb,vF,none⟩) m rc)/\w'.cell? ⟨zb,vF+k,none⟩=some (.slice za zn zc)/\Ext W w') e9 ?_;have G:=k8.o _ Bv;refine lp 0 ?_;refine ll 1 ?_;refine lp 2 ?_;refine ll 3 ?_;refine lp 4 ?_;refine lp 5 ?_;refine ll 6 ?_;refine aW (i:=7) (oi:=?_) ?_ ?_ ?_ (fun K hK=>?_);rotate_left
   ·simp only[gA,gB,gC];rfl
   ·kernel_rfl
   ·kernel_rfl
   go_simp;go_at_call 109;refine(kT (ze.o.ext Bv) e7).mono ?_;rintro e w5 ⟨⟨v5,rfl,BH⟩,wX⟩;have CL:=ae Bv.size;have Bv:Ext o8 w5:=Bv.trans wX;obtain⟨a5,n5,c5,rfl,zj⟩:=BH.var;have vU:=ae (show l9 w5 o8.heap.size (.slice a5 n5 c5) _ from BH.mono CL.o);have Bm:=Bv.size;clear BH;go_wp2_with fail;refine hK.out _ _ (fun _=>k8.o _ Bv) ?_;have G:=k8.o _ Bv;clear hK K
   try simp only[Act.put,sA,sB,sC]
   refine aW (i:=8) (oi:=?_) ?_ ?_ ?_ (fun K hK=>?_);rotate_left
   ·simp only[gA,gB,gC];rfl
   ·kernel_rfl
   ·kernel_rfl
   go_simp;refine hK.out _ _ (fun _=>k8.o _ (Bv.trans (Ext.alloc _ _))) ?_;clear hK K
   try simp only[Act.put,sA,sB,sC]
   refine aW (i:=9) (oi:=?_) ?_ ?_ ?_ (fun K hK=>?_);rotate_left
   ·simp only[gA,gB,gC];rfl
   ·kernel_rfl
   ·kernel_rfl
   refine eu _ _ j0 W.heap.size Z vs j0 ((T.o.a.ext Bv).ext (Ext.alloc _ _)) _ _ 1 j0 (by simp;rfl) rfl (by rw[xJ.o];omega) (by simp;omega) ?_;intro v7 w7 ho hg l7;obtain⟨a7,n7,q7,rfl,DP⟩:=ho.var;have Fj:=ae ho;have Lm:=ae hg;have yi:=T.o.F' (Bv.trans (Ext.alloc _ _)) hg;have LN:=al yi;have VO:=cO yi;have CZ:Ext W w7:=ak ((HX.o.trans Bv).trans (Ext.alloc _ _)) hg (fun j hj=>(T.o.a.lt j hj).1);have hZ7:=ae (show w7.cell? ⟨zb,vF+k,none⟩=some (.slice za zn zc)from Hzz.o _ CZ);clear ho hg l7 yi;refine hK.out _ _ (fun _=>And.intro LN (And.intro (Ext.j9 CZ (al uW.o)) (And.intro hZ7.out CZ))) ?_;have G:=And.intro LN (And.intro (Ext.j9 CZ (al uW.o)) (And.intro hZ7.out CZ));clear hK K
   try simp only[Act.put,sA,sB,sC]
   refine lp 10 ?_;refine dH (i:=11) (oi:=?_) (w':=?_) ?_ ?_ ?_ ?_ ?_ ?_ ?_;rotate_left 2
   ·simp only[gA,gB,gC];rfl
   ·kernel_rfl
   ·kernel_rfl
   ·exact of_decide_eq_true e9
   ·rfl
   ·go_simp;(try with_reducible rfl)
   try simp only[Act.put,sA,sB,sC]
   refine dM e9 ?_ _;have GP:=ae (T.o.Ch (Bv.trans (Ext.alloc _ _)) (vU.o.ext (Ext.alloc _ _)) MU Lm.o Fj.o);have D7:=ae (CZ.setCell (p:=⟨g,0,none⟩) T.o.hg (.slice a7 n7 q7));go_wp2_with fail
   go_roundg (g1-1)
   case measure=>have:=HK.o;omega
   case rel=>exact⟨k+1,_,_,ae (j1 HK.o),by go_num,ae (by have:=GP.o;rw[<-eT (by have h2:=xE.o;omega)]at this;exact this),D7⟩
  ·have vZ:m=k:=by have:=HK.o;omega
   subst vZ;have GO:=ae (show t.rows.take m=t.rows from List.take_of_length_le (Nat.le_of_eq xE.o))
   have GP:=ae (show wS o8 W.heap.size Z (.slice a3 O c3) vs t by
    have h1:=T.o.own
    rw[GO.o,<-B6.o]at h1;exact h1)
   have t0:=al T.o.box;have t1:=au T.o.box;have t2:=av T.o.box;obtain⟨a7,n7,c7,rfl,DP⟩:=T.o.a.var;have q0:=HX.o.blk wL.o;have r0:=al q0;have r1:=au q0;have r2:=av q0;have rf:=cO q0;have Gx:=zx.o;have MU:=HX.o.size;clear q0;go_wp2_with fail;refine bodyPost_ret (v:=.agg #[.slice a7 n7 c7,.slice a3 O c3,.int .i64 (n:Int)]) (by simp[results,Tryz.results260,go_sem,r0,r1,r2,rf]) rfl ⟨⟨_,_,vs,rfl,?_⟩,?_⟩
   ·exact(GP.o.wW fun k hk=>cz _ _ _ _ _ _ e7).mono e7
   ·exact(uV.o.trans HX.o).zl (Nat.le_succ _) _ _ _
end
theorem tG(a:j8)(q:Int):(xk a (0,q)).2=false:=by
 unfold xk
 split
 ·unfold az;rw[if_pos (Or.inl e8)]
 ·rfl
section
variable{w:World}{ra:j6}{rc:Nat}{ba:j6}{bc:Nat}{t:Tb}{n m:Nat}{T0:Nat->Nat->Rat}
theorem wo.args(h:wo n m T0 t)(hn:n<=1000){r c:Nat}(hr:r<m)(hc:c<n+m):dT t (r:Int) (c:Int)=true:=by
 unfold dT;rw[h.ok hn,h.q8,h.len];unfold r';simp;omega
theorem sQ(h:wo n m T0 t)(hn:n<=1000){r c:Nat}(hr:r<m)(hc:c<n+m){q:Int}(hp:t.at r c=(0,q)):bo t (r:Int) (c:Int)=none:=by
 rw[iW (h.args hn hr hc)];refine iV ?_;unfold Ad;rw[(h.row r hr).1];refine lX (k:=1) ?_ e7;simp only[runT,Option.bind_some];unfold CF;rw[hp,tG]
 rfl
theorem mJ(h:Ds w ra m rc ba m bc t)(Z:wo n m T0 t)(hn:n<=1000)(hm:m<=1000){r c:Nat}(hr:r<m)(hc:c<n):
 Calls Tryz.prog 243 #[CR ra m rc ba m bc (n:Int),.int .i64 (r:Int),.int .i64 (c:Int)] w fun e w'=>Ho w' w.heap.size e (dk t (r:Int) (c:Int)) (bo t (r:Int) (c:Int)).isSome/\Ext w w':=by
 have uS:=(Ext.alloc w (bT ra m rc ba m bc (n:Int))).trans (Ext.alloc _ (.cells #[.slice none 0 0,.slice none 0 0,.int .i64 0] 116));obtain⟨W,hW⟩:=b9 ((w.alloc (bT ra m rc ba m bc (n:Int))).alloc (.cells #[.slice none 0 0,.slice none 0 0,.int .i64 0] 116));rw[<-hW]at uS;have uV:=ae uS;have H:=ae (h.ext uS);have xm:=h.rows.l8;have yI:=h.rows.o0;have HT:=ae Z;have xE:=ae (show t.rows.length=m from Z.len);have B6:=ae Z.q8;have uW:=ae (show W.heap[w.heap.size]?=some (.cells #[.slice ra m rc,.slice ba m bc,.int .i64 (n:Int)] 116 (0,0))by rw[hW,bU _ _ _ e8];exact aj _ _ _ rfl);have wL:=ae (show W.heap[w.heap.size+1]?=some (.cells #[.slice none 0 0,.slice none 0 0,.int .i64 0] 116 (0,0))by rw[hW];exact aj _ _ _ e8);have zx:=ae (show W.heap.size=w.heap.size+1+1 by rw[hW];simp);have HG:=ae (iZ H.o Z hn hm);have zA:=ae (fun(w':World) (hx:Ext W w')=>I4 (H.o.ext hx) hm Z.q8 (fun i hi=>by rw[(Z.row i hi).1];omega));have N1:=ae (fun w'=>bm (r:Int) 0 ((m:Int)-1) w');rw[show r' (r:Int) 0 ((m:Int)-1)=true by unfold r';simp;omega]at N1;have FH:=ae (fun w'=>bm (c:Int) 0 ((n:Int)+(m:Int)-1) w');rw[show r' (c:Int) 0 ((n:Int)+(m:Int)-1)=true by unfold r';simp;omega]at FH;have DG:IntKind.i64.wrap ((n:Int)+(m:Int))=(n:Int)+(m:Int):=by rw[IntKind.wrap_i64];omega
 have DF:IntKind.i64.wrap ((n:Int)+(m:Int)-1)=(n:Int)+(m:Int)-1:=by rw[IntKind.wrap_i64];omega
 have Gy:IntKind.i64.wrap ((m:Int)-1)=(m:Int)-1:=by rw[IntKind.wrap_i64];omega
 have Uf:=ae (show bo t (r:Int) (c:Int)=fm t r c from iW (Z.args hn hr e7));have HZP:=ae (fun(q:Int) (hp:t.at r c=(0,q))=>sQ Z hn hr (show c<n+m by omega) hp);obtain⟨u,hu⟩:=b9 (n+m+1);have xW:=ae (show∀i,i<m->(t.row i).length=u by intro i hi;rw[hu];exact(Z.row i hi).1);have LK:c<u:=by omega
 have RB:u<=2001:=by omega
 have hrr:(r:Int)<(m:Int):=by omega
 have xA:(0:Int)<=(r:Int):=by omega
 have wK:(0:Int)<=(c:Int):=by omega
 have hcI:(c:Int)<(u:Int):=by omega
 obtain⟨zb,vF,za,zn,zc,zX,JG,o7⟩:=H.o.rows.at hr;subst zX;have G4:zn=u:=by rw[<-o7.hlen];exact xW.o r hr
 subst G4;have Xf:=o7.l8;have Xe:=o7.o0;have ze:=ae (show Rats W za zn zc (t.row r)from o7);have Hp:=ae JG;obtain⟨pb,FO,pp,pq,Xl,AP,CV,Dk⟩:=o7.at LK;subst Xl;have Bh:=ae CV;have Ee:=ae Dk;have B1:=ae (show t.at r c=(pp,pq)from AP);clear h Z uS hu AP o7;go_enter Tryz.func243,Tryz.ntmps243
 go_upto_region 1 with fail;rw[<-hW];clear hW;have p0:=al uW.o;have p1:=au uW.o;have p2:=av uW.o;go_wp2_with fail;refine HG.o.mono ?_;rintro e w1 ⟨rfl,hx⟩;have X1:=ae hx;clear hx p0 p1 p2 JG CV Dk;have p0:=al (X1.o.blk uW.o);have p1:=au (X1.o.blk uW.o);have p2:=av (X1.o.blk uW.o);have xr:=X1.o.j9 Hp.o;have k0:=X1.o.j9 Bh.o;by_cases hpz:pp=0
 ·have HN:=ae (show bo t (r:Int) (c:Int)=none from HZP.o pq (by rw[B1.o,hpz]));subst hpz;go_wp2_with fail;refine(N1.o _).mono ?_;rintro e w1' ⟨rfl,rfl⟩;go_wp2_with fail;refine(FH.o _).mono ?_;rintro e w1' ⟨rfl,rfl⟩;go_wp2_with fail;refine(zA.o _ X1.o).mono ?_;rintro e w8 ⟨⟨Vn,Vm,Me,rfl,J⟩,hx⟩;have I:=ae (X1.o.trans hx);have FD:=ae J;obtain⟨a7,n7,c7,rfl,DP⟩:=J.a.var;obtain⟨a8,n8,c8,rfl,Eg⟩:=J.b.var;have r0:=al (I.o.blk wL.o);have r1:=au (I.o.blk wL.o);have r2:=av (I.o.blk wL.o);have rf:=cO (I.o.blk wL.o);have hsz:=X1.o.size;have Gx:=zx.o;clear hx J p0 p1 p2;go_wp2_with fail;refine bodyPost_ret (v:=.tuple #[.agg #[.slice a7 n7 c7,.slice a8 n8 c8,.int .i64 (n:Int)],.bool false]) (by simp[results,Tryz.results243,go_sem,r0,r1,r2,rf]) rfl ⟨?_,(uV.o.trans I.o).zl (Nat.le_succ _) _ _ _⟩;refine⟨.slice a7 n7 c7,.slice a8 n8 c8,Me,?_,?_⟩
  ·unfold dk;rw[HN.o,Option.getD_none,B6.o];rfl
  ·unfold dk;rw[HN.o,Option.getD_none];exact(FD.o.wW fun k hk=>cz _ _ _ _ _ _ e7).mono e7
 ·have hppz:(pp == 0)=false:=by simpa using hpz
  clear hpz;go_wp2_with fail;refine(N1.o _).mono ?_;rintro e w1' ⟨rfl,rfl⟩;go_wp2_with fail;refine(FH.o _).mono ?_;rintro e w1' ⟨rfl,rfl⟩;go_wp2_with fail;refine(zA.o _ X1.o).mono ?_;rintro e w2 ⟨⟨va,vb,vs,rfl,ho⟩,hx⟩;have X2:=ae (X1.o.trans hx);obtain⟨aa,na,ca,rfl,O7⟩:=ho.a.var;obtain⟨ab,nb,cb,rfl,Ef⟩:=ho.b.var;obtain rfl:m=na:=by have h1:=ho.rows.len;have h3:=xE.o;have h4:=O7.o;omega
  obtain rfl:m=nb:=by have h1:=Ef.o;have h2:=HT.o.zM;omega
  obtain⟨G,hG,_,_⟩:=ho.a.cell hr;subst hG;obtain⟨B,hB,_,_,_⟩:=ho.b.block hr;subst hB;obtain⟨E,hE⟩:=b9 (w2.alloc (.cells #[.slice (some ⟨G,0,none⟩) m ca,.slice (some ⟨B,0,none⟩) m cb,.int .i64 (n:Int)] 116));obtain⟨gE,OG⟩:=b9 w2.heap.size;have yD:Ext w2 E:=by rw[hE];exact Ext.alloc _ _
  have Qk:w1.heap.size<=gE:=by rw[OG];exact hx.size
  have IB:=ae (show BZ E w1.heap.size gE G m ca (.slice (some ⟨B,0,none⟩) m cb) (n:Int) vs t.rows t.basis from
   ⟨by rw[hE,OG];exact aj _ _ _ rfl,Qk,⟨ho.a.ext yD,ho.rows.ext yD⟩,ho.b.ext yD⟩)
  have Uc:=ae (hx.trans yD);have XE:=ae (X1.o.trans Uc.o);have PO:w.heap.size+1+1<=w1.heap.size:=by have:=X1.o.size;have:=zx.o;omega
  clear ho p0 p1 p2 hx xr k0;go_upto_region 4 with fail;rw[<-hE,<-OG];clear hE OG yD;have p0:=al (XE.o.blk uW.o);have xr:=XE.o.j9 Hp.o;have k0:=XE.o.j9 Bh.o;have k1:=XE.o.j9 Ee.o;have H6:=ae (xW.o r hr);obtain⟨dv,As⟩:=b9 (Ad (t.row r) (pp,pq));have BD:=ae (show Ad (t.row r) (t.at r c)=dv by rw[B1.o,As]);have Fq:=ae (fun(w':World) (hx:Ext E w')=>te (k1:=pp) (k2:=pq) (ze.o.ext (XE.o.trans hx)) e7);simp only[<-As]at Fq;clear As;have k7:Ext E E.drew:=Ext.drew E;have k8:=ae (fun(w':World) (h:Ext E w')=>(⟨h.j9 p0,h.j9 xr,h.j9 k0,h.j9 k1,h⟩:w'.cell? ⟨w.heap.size,0,none⟩=some (.slice (some ⟨zb,vF,none⟩) m rc)/\w'.cell? ⟨zb,vF+r,none⟩=some (.slice (some ⟨pb,FO,none⟩) zn zc)/\w'.cell? ⟨pb,FO+c*2,none⟩=some (.int .i64 pp)/\w'.cell? ⟨pb,FO+c*2+1,none⟩=some (.int .i64 pq)/\Ext E w'));refine wp_region_held_drew (S:=(fun w'=>w'.cell? ⟨w.heap.size,0,none⟩=some (.slice (some ⟨zb,vF,none⟩) m rc)/\w'.cell? ⟨zb,vF+r,none⟩=some (.slice (some ⟨pb,FO,none⟩) zn zc)/\w'.cell? ⟨pb,FO+c*2,none⟩=some (.int .i64 pp)/\w'.cell? ⟨pb,FO+c*2+1,none⟩=some (.int .i64 pq)/\Ext E w')) e9 ?_ (fun k9=>?_)
  ·exact k8.o _ k7
  refine tk 0 ?_;refine tk 1 ?_;refine tk 2 ?_;refine tk 3 ?_;refine tk 4 ?_;refine tk 5 ?_;refine tk 6 ?_;refine tk 7 ?_;refine tk 8 ?_;refine tk 9 ?_;refine tk 10 ?_;refine tk 11 ?_;refine tk 12 ?_;refine rd (i:=13) (h:=fun K hK=>?_);go_simp
  (go_at_call 261;refine(Fq.o _ k7).mono ?_;rintro e w5 ⟨⟨v5,rfl,BH⟩,wX⟩;have Bm:=k7.size;have k7:=k7.trans wX;obtain⟨a5,n5,c5,rfl,zj⟩:=BH.var)
  go_wp2_with fail;refine hK.out _ _ ?_ (fun k9=>?_)
  ·exact k8.o _ k7
  clear hK K
  try simp only[Act.put,sA,sB,sC]
  refine tk 14 ?_;refine tk 15 ?_;refine tk 16 ?_;refine tk 17 ?_;refine tk 18 ?_;refine wpAnyH_done e9 ?_ _;have X5:=ae (XE.o.trans k7);have R3:=ae (Uc.o.trans k7);have Rp:=ae k7;have vU:=ae (BH.mono Bm);clear k7 BH p0 xr k0 k1;cases dv with
  | none =>
    have HN:=ae (show bo t (r:Int) (c:Int)=none by rw[Uf.o];exact iV BD.o);have p0:=al (X5.o.blk uW.o);have p1:=au (X5.o.blk uW.o);have p2:=av (X5.o.blk uW.o);go_wp2_with fail;refine(zA.o _ X5.o).mono ?_;rintro e w8 ⟨⟨Vn,Vm,Me,rfl,J⟩,hx⟩;have I:=ae (X5.o.trans hx);have FD:=ae J;obtain⟨a7,n7,c7,rfl,DP⟩:=J.a.var;obtain⟨a8,n8,c8,rfl,Eg⟩:=J.b.var;have r0:=al (I.o.blk wL.o);have r1:=au (I.o.blk wL.o);have r2:=av (I.o.blk wL.o);have rf:=cO (I.o.blk wL.o);have hsz:=X5.o.size;have Gx:=zx.o;clear hx J p0 p1 p2;go_wp2_with fail;refine bodyPost_ret (v:=.tuple #[.agg #[.slice a7 n7 c7,.slice a8 n8 c8,.int .i64 (n:Int)],.bool false]) (by simp[results,Tryz.results243,go_sem,r0,r1,r2,rf]) rfl ⟨?_,(uV.o.trans I.o).zl (Nat.le_succ _) _ _ _⟩;refine⟨.slice a7 n7 c7,.slice a8 n8 c8,Me,?_,?_⟩
    ·unfold dk;rw[HN.o,Option.getD_none,B6.o];rfl
    ·unfold dk;rw[HN.o,Option.getD_none];exact(FD.o.wW fun k hk=>cz _ _ _ _ _ _ e7).mono e7
  | some mm =>
    have Ld:=ae (show bo t (r:Int) (c:Int)=(xy t r c mm m).map fun rs=>⟨rs,t.basis.set r (c:Int),(n:Int)⟩by
     rw[Uf.o,ks BD.o,xE.o,B6.o])
    have R':=ae (show l9 w5 E.heap.size (.slice a5 n5 c5) mm from vU.o);have NW:=ae (show mm.length=zn by have h1:=BD.o;unfold Ad at h1;rw[H6.o]at h1;exact dp h1);have AU:=ae (IB.o.ext Rp.o);have c8:=AU.o.c0;obtain⟨G',Q,CB,OP⟩:=AU.o.m.own.cell hr;simp only[Option.some.injEq,Addr.mk.injEq,and_true]at Q;subst Q;have Yg:w5.cell? ⟨G,r,none⟩=some (vs[r]?.getD undef):=by
     rw[OP r hr];have:r<vs.length:=by rw[AU.o.m.yy];exact hr
     simp[this]
    obtain⟨G',Q,_,_,DN⟩:=AU.o.m.outer e7;simp only[Option.some.injEq,Addr.mk.injEq,and_true]at Q;subst Q;have HE1s:=ae (show w1.heap.size<=E.heap.size from Uc.o.size);have Gn:=ae (IB.o.put Rp.o HE1s.o R'.o hr)
    have UG:=ae (show l9 (w5.setCell ⟨G,r,none⟩ (.slice a5 n5 c5)) E.heap.size (.slice a5 n5 c5) mm from
     R'.o.keep fun k hk=>heap_setCell_other _ _ _ _ fun e=>aU (by decide) R'.o AU.o.m.own k hk (by subst e;rfl))
    have BA:=ae (R3.o.setCell (p:=⟨G,r,none⟩) CB (.slice a5 n5 c5));clear OP;go_upto_region 8 with fail;obtain⟨w6,Cn⟩:=b9 (w5.setCell ⟨G,r,none⟩ (.slice a5 n5 c5));rw[<-Cn]at Gn UG BA;rw[<-Cn];clear Cn c8 Yg DN CB;have p0:=al ((X1.o.trans BA.o).blk uW.o);go_wp2_with fail
    go_loopg [11] m (fun gk ii wr=>∃(k:Nat) (O:List Value) (M:List (j4)),b7 (gk+k=m)/\ii=.int .i64 (k:Int)/\b7 (xy t r c mm k=some M)/\b7 (BZ wr w1.heap.size gE G m ca (.slice (some ⟨B,0,none⟩) m cb) (n:Int) O M t.basis)/\b7 (l9 wr E.heap.size (.slice a5 n5 c5) mm)/\b7 (Ext w1 wr))
    case atStart=>exact⟨0,_,_,ae e7,rfl,ae rfl,Gn,UG,BA⟩
    case round =>
     obtain⟨g2,wv⟩:=b9 gk;subst wv;obtain⟨U,vo⟩:=b9 wr;subst vo;obtain⟨k,O,M,Gp,rfl,EC,zO,wG,wF⟩:=hrel;clear p0;have p0:=al ((X1.o.trans wF.o).blk uW.o);have WW:=wF.o.size;by_cases wm:k<m
     ·obtain⟨zb2,Sg,ya,yn,yc,JF,Py,zZ⟩:=(H.o.ext (X1.o.trans wF.o)).rows.at wm;simp only[Option.some.injEq,Addr.mk.injEq,and_true]at JF;obtain⟨rfl,rfl⟩:=JF;obtain rfl:zn=yn:=by rw[<-zZ.hlen];exact(xW.o k wm).symm
      have Iy:=ae (show Rats U ya zn yc (t.row k)from zZ);obtain⟨yb,vB,p,q,Bs,vK,AL,xG⟩:=Iy.o.at LK;subst Bs;have wI:=ae (show t.at k c=(p,q)from vK);have Wz:=zZ.l8;have Wy:=zZ.o0;have HZK:=ae Py;have FU:IntKind.i64.wrap (-p)=-p:=by
       have h1:=(HT.o.bounds.2 k c).1;have h2:=(HT.o.bounds.2 k c).2;rw[wI.o]at h1 h2;rw[IntKind.wrap_i64];simp only at h1 h2;omega
      clear vK zZ;have CK:=ae (show decide (k=r∨t.at k c=(0,1))=(decide (k=r)||((p == 0)&&(q == 1)))by rw[wI.o,Bool.eq_iff_iff];simp);obtain⟨E3,YY⟩:=b9 (U.alloc (.cells #[.int .i64 p,.int .i64 q] 62));obtain⟨gx,hgx⟩:=b9 U.heap.size;have wE:=ae (show ag U E3 gx p q by rw[YY,hgx];exact ag.new (Ext.refl _) _ _);go_upto_region 12 with fail;rw[<-YY,<-hgx];clear YY hgx p0 AL xG Py;have b0:=wE.o.c0;have b1:=wE.o.c1
      go_cut [103] (fun Pr wx=>Pr=.bool (decide (k=r∨t.at k c=(0,1)))/\b7 (Ext E3 wx))
      case first =>
       have k7:Ext E3 E3.drew:=Ext.drew E3;by_cases hkr:k=r
       ·have heq:((k:Int) == (r:Int))=true:=by simp;omega
        have N6:=ae (show decide (k=r∨t.at k c=(0,1))=true by rw[CK.o,decide_eq_true hkr];rfl);clear hkr;refine wp_region_held_drew (S:=(fun w'=>w'.cell? ⟨gx,0,none⟩=some (.int .i64 p)/\w'.cell? ⟨gx,1,none⟩=some (.int .i64 q)/\Ext E3 w')) e9 ?_ (fun k9=>?_)
        ·exact⟨k7.j9 b0,k7.j9 b1,k7⟩
        refine tk 0 ?_;refine tk 1 ?_;refine tk 2 ?_;refine tk 3 ?_;refine sk 4 ?_;refine sk 5 ?_;refine sk 6 ?_;refine tk 7 ?_;refine wpAnyH_done e9 ?_ _;go_wp2_with fail;go_meet;exact⟨by rw[N6.o],ae k7⟩
       ·have heq:((k:Int) == (r:Int))=false:=by simp;omega
        have N6:=ae (show decide (k=r∨t.at k c=(0,1))=((p == 0)&&(q == 1))by rw[CK.o,decide_eq_false hkr];rfl);clear hkr;cases h1:(p == 0)
        all_goals
         cases h2:(q == 1)
        all_goals
         have Pb:=ae N6.o;rw[h1,h2]at Pb;refine wp_region_held_drew (S:=(fun w'=>w'.cell? ⟨gx,0,none⟩=some (.int .i64 p)/\w'.cell? ⟨gx,1,none⟩=some (.int .i64 q)/\Ext E3 w')) e9 ?_ (fun k9=>?_)
         ·exact⟨k7.j9 b0,k7.j9 b1,k7⟩
         refine tk 0 ?_;refine tk 1 ?_;refine tk 2 ?_;refine tk 3 ?_;refine tk 4 ?_;refine rd (i:=5) (h:=fun K hK=>?_);go_simp
         (go_at_call 49;refine(cl _ _).mono ?_;rintro e w3 ⟨rfl,vj⟩;have k7:=k7.trans vj)
         go_wp2_with fail;refine hK.out _ _ ?_ (fun k9=>?_)
         ·exact⟨k7.j9 b0,k7.j9 b1,k7⟩
         clear hK K
         try simp only[Act.put,sA,sB,sC]
         refine tk 6 ?_;refine tk 7 ?_;refine wpAnyH_done e9 ?_ _;go_wp2_with fail;go_meet;exact⟨by rw[Pb.o];rfl,ae k7⟩
      obtain⟨rfl,Bz⟩:=hcut;have yF:=ae (wE.o.grow Bz.o);have K4:=ae (zO.o.ext yF.o.ext);have vi:=ae (wG.o.ext yF.o.ext);have vk:=ae (wF.o.trans yF.o.ext);have Q3:=ae (Iy.o.ext yF.o.ext);clear b0 b1;cases hsk:decide (k=r∨t.at k c=(0,1))
      ·have Rd:=ae (of_decide_eq_false hsk);clear hsk;have p0:=al ((X1.o.trans vk.o).blk uW.o);have Py:=yF.o.ext.j9 HZK.o;have b0:=yF.o.c0;have b1:=yF.o.c1;obtain⟨sv,Es⟩:=b9 (xP (t.row k) (-p,q) mm);have CJ:=ae (show xy t r c mm (k+1)=sv.map fun x=>M.set k x by rw[Es,rD EC.o Rd.o,wI.o];rfl);have LV:=ae (fun(w':World) (hx:Ext wc w')=>ku (k1:=-p) (k2:=q) (Q3.o.ext hx) (vi.o.ext hx).uZ e7);simp only[<-Es]at LV;have BU:(0:Int)<=(k:Int):=by omega
       have yx:(k:Int)<(m:Int):=by omega
       clear Es;go_upto_region 13 with fail;have k7:Ext wc wc.drew:=Ext.drew wc;have k8:=ae (fun(w':World) (h:Ext wc w')=>(⟨h.j9 p0,h.j9 Py,h.j9 b0,h.j9 b1,h⟩:w'.cell? ⟨w.heap.size,0,none⟩=some (.slice (some ⟨zb,vF,none⟩) m rc)/\w'.cell? ⟨zb,vF+k,none⟩=some (.slice (some ⟨yb,vB,none⟩) zn yc)/\w'.cell? ⟨gx,0,none⟩=some (.int .i64 p)/\w'.cell? ⟨gx,1,none⟩=some (.int .i64 q)/\Ext wc w'));refine wp_region_held_drew (S:=(fun w'=>w'.cell? ⟨w.heap.size,0,none⟩=some (.slice (some ⟨zb,vF,none⟩) m rc)/\w'.cell? ⟨zb,vF+k,none⟩=some (.slice (some ⟨yb,vB,none⟩) zn yc)/\w'.cell? ⟨gx,0,none⟩=some (.int .i64 p)/\w'.cell? ⟨gx,1,none⟩=some (.int .i64 q)/\Ext wc w')) e9 ?_ (fun k9=>?_)
       ·exact k8.o _ k7
       refine tk 0 ?_;refine tk 1 ?_;refine tk 2 ?_;refine tk 3 ?_;refine tk 4 ?_;refine tk 5 ?_;refine tk 6 ?_;refine tk 7 ?_;refine tk 8 ?_;refine tk 9 ?_;refine tk 10 ?_;refine tk 11 ?_;refine rd (i:=12) (h:=fun K hK=>?_);go_simp
       (go_at_call 241;refine(LV.o _ k7).mono ?_;rintro e w4 ⟨⟨v4,rfl,z8⟩,vW⟩;have PQ:=k7.size;have k7:=k7.trans vW;obtain⟨a4,n4,c4,rfl,EZ⟩:=z8.var)
       go_wp2_with fail;refine hK.out _ _ ?_ (fun k9=>?_)
       ·exact k8.o _ k7
       clear hK K
       try simp only[Act.put,sA,sB,sC]
       refine tk 13 ?_;refine tk 14 ?_;refine tk 15 ?_;refine tk 16 ?_;refine tk 17 ?_;refine wpAnyH_done e9 ?_ _;have xO:=ae (vk.o.trans k7);have LU:=ae (K4.o.ext k7);have wV:=ae (z8.mono PQ);have UH:=ae (vi.o.ext k7);have Z1:=ae k7;clear k7 z8 Py b0 b1 p0 FU;cases sv with
       | none =>
         have HN:=ae (show bo t (r:Int) (c:Int)=none by rw[Ld.o,nQ (k:=k+1) (by rw[CJ.o];rfl) wm];rfl);have XF:=ae (X1.o.trans xO.o);have p0:=al (XF.o.blk uW.o);have p1:=au (XF.o.blk uW.o);have p2:=av (XF.o.blk uW.o);go_wp2_with fail;refine(zA.o _ XF.o).mono ?_;rintro e w8 ⟨⟨Vn,Vm,Me,rfl,J⟩,hx⟩;have I:=ae (XF.o.trans hx);have FD:=ae J;obtain⟨a7,n7,c7,rfl,DP⟩:=J.a.var;obtain⟨a8,n8,c8,rfl,Eg⟩:=J.b.var;have r0:=al (I.o.blk wL.o);have r1:=au (I.o.blk wL.o);have r2:=av (I.o.blk wL.o);have rf:=cO (I.o.blk wL.o);have hsz:=XF.o.size;have Gx:=zx.o;clear hx J p0 p1 p2;go_wp2_with fail;refine bodyPost_ret (v:=.tuple #[.agg #[.slice a7 n7 c7,.slice a8 n8 c8,.int .i64 (n:Int)],.bool false]) (by simp[results,Tryz.results243,go_sem,r0,r1,r2,rf]) rfl ⟨?_,(uV.o.trans I.o).zl (Nat.le_succ _) _ _ _⟩;refine⟨.slice a7 n7 c7,.slice a8 n8 c8,Me,?_,?_⟩
         ·unfold dk;rw[HN.o,Option.getD_none,B6.o];rfl
         ·unfold dk;rw[HN.o,Option.getD_none];exact(FD.o.wW fun k hk=>cz _ _ _ _ _ _ e7).mono e7
       | some nr =>
         have c8:=LU.o.c0;obtain⟨G',Q,CB,OP⟩:=LU.o.m.own.cell wm;simp only[Option.some.injEq,Addr.mk.injEq,and_true]at Q;subst Q;have Yg:w4.cell? ⟨G,k,none⟩=some (O[k]?.getD undef):=by
          rw[OP k wm];have:k<O.length:=by rw[LU.o.m.yy];exact wm
          simp[this]
         obtain⟨G',Q,_,_,DN⟩:=LU.o.m.outer e7;simp only[Option.some.injEq,Addr.mk.injEq,and_true]at Q;subst Q;have LS:=ae (K4.o.put Z1.o (j1 vk.o.size) wV.o wm);have AH:=ae (xO.o.setCell (p:=⟨G,k,none⟩) CB (.slice a4 n4 c4))
         have ZF:=ae (show l9 (w4.setCell ⟨G,k,none⟩ (.slice a4 n4 c4)) E.heap.size (.slice a5 n5 c5) mm from
          UH.o.keep fun j hj=>heap_setCell_other _ _ _ _ fun e=>aU (by decide) UH.o LU.o.m.own j hj (by subst e;rfl))
         have ZD:=ae (show xy t r c mm (k+1)=some (M.set k nr)by rw[CJ.o];rfl);clear OP;go_wp2_with fail
         go_roundg (g2-1)
         case measure=>have:=Gp.o;omega
         case rel=>exact⟨k+1,_,_,ae (j1 Gp.o),by go_num,ZD,LS,ZF,AH⟩
      ·have AI:=ae (nU EC.o (of_decide_eq_true hsk));clear hsk FU;go_wp2_with fail
       go_roundg (g2-1)
       case measure=>have:=Gp.o;omega
       case rel=>exact⟨k+1,O,M,ae (j1 Gp.o),by go_num,AI,K4,vi,vk⟩
     ·have vZ:m=k:=by have:=Gp.o;omega
      subst vZ;have HN:=ae (show bo t (r:Int) (c:Int)=some ⟨M,t.basis.set r (c:Int),(n:Int)⟩by rw[Ld.o,EC.o];rfl);have Y6:=au zO.o.box;obtain⟨B',off',Ky,Hh⟩:=zO.o.b.ints.at hr;simp only[Option.some.injEq,Addr.mk.injEq,and_true]at Ky;obtain⟨rfl,rfl⟩:=Ky;obtain⟨B',Ky,YL,Qm,_⟩:=zO.o.b.block hr;simp only[Option.some.injEq,Addr.mk.injEq,and_true]at Ky;subst Ky;rw[Nat.zero_add]at Hh;have Gg:=ae (zO.o.Sp r (c:Int));have Ez:=ae (wF.o.setCell (p:=⟨B,r,none⟩) YL (.int .i64 (c:Int)));go_upto_region 18 with fail;obtain⟨W9,Dp⟩:=b9 (U.setCell ⟨B,r,none⟩ (.int .i64 (c:Int)));rw[<-Dp]at Gg Ez⊢;clear Dp Y6 Hh Qm;have r0:=al ((X1.o.trans Ez.o).blk wL.o);have r1:=au ((X1.o.trans Ez.o).blk wL.o);have r2:=av ((X1.o.trans Ez.o).blk wL.o);have rf:=cO ((X1.o.trans Ez.o).blk wL.o);have t0:=al Gg.o.box;have t1:=au Gg.o.box;have t2:=av Gg.o.box;go_wp2_with fail;refine bodyPost_ret (v:=.tuple #[.agg #[.slice (some ⟨G,0,none⟩) m ca,.slice (some ⟨B,0,none⟩) m cb,.int .i64 (n:Int)],.bool true]) (by simp[results,Tryz.results243,go_sem,r0,r1,r2,rf]) rfl ⟨?_,((uV.o.trans X1.o).trans Ez.o).zl (Nat.le_succ _) _ _ _⟩;refine⟨.slice (some ⟨G,0,none⟩) m ca,.slice (some ⟨B,0,none⟩) m cb,O,?_,?_⟩
      ·unfold dk;rw[HN.o,Option.getD_some];rfl
      ·unfold dk;rw[HN.o,Option.getD_some];exact(Gg.o.own.wW fun k hk=>cz _ _ _ _ _ _ e7).mono e7
end
structure bz(w:World)(S:Nat)(a:j6)(na ca:Nat)(b:j6)(nb cb:Nat)(c:j6)(nc cc:Nat)(ra:j6)(rn rc:Nat)(ba:j6)(bn bc:Nat)(vs:List Value)(t:Tb)(n:Nat)(f:Bool):Prop where
 box:w.heap[S]?=some (.cells #[.slice a na ca,.slice b nb cb,.slice c nc cc,.slice ra rn rc,.slice ba bn bc,.int .i64 t.q8,.int .i64 (n:Int),.bool f] 119 (0,0))
 tb:wS w 0 (.slice ra rn rc) (.slice ba bn bc) vs t
theorem wS.setW{w:World}{base S k:Nat}{G E:Value}{c:Array Value}{z:Nat×Nat}{v:Value}(h:wS w base G E vs t)(hb:w.heap[S]?=some (.cells c 119 z)):wS (w.setCell ⟨S,k,none⟩ v) base G E vs t :=
 ⟨dN h.a hb (by decide),⟨h.rows.len,fun i hi=>dN (h.rows.row i hi) hb (by decide),h.rows.apart⟩,dN h.b hb (by decide)⟩
section
variable{w:World}{S:Nat}{a:j6}{na ca:Nat}{b:j6}{nb cb:Nat}{c:j6}{nc cc:Nat}{ra:j6}{rn rc:Nat}{ba:j6}{bn bc:Nat}{vs:List Value}{t:Tb}{n:Nat}{f:Bool}
theorem bz.ext{w':World}(h:bz w S a na ca b nb cb c nc cc ra rn rc ba bn bc vs t n f)(hx:Ext w w'):bz w' S a na ca b nb cb c nc cc ra rn rc ba bn bc vs t n f:=⟨(hx.block _ (lt_of_block h.box)).trans h.box,h.tb.ext hx⟩
theorem bz.cells(h:bz w S a na ca b nb cb c nc cc ra rn rc ba bn bc vs t n f):
 w.cell? ⟨S,0,none⟩=some (.slice a na ca)/\w.cell? ⟨S,1,none⟩=some (.slice b nb cb)/\w.cell? ⟨S,2,none⟩=some (.slice c nc cc)/\w.cell? ⟨S,3,none⟩=some (.slice ra rn rc)/\w.cell? ⟨S,4,none⟩=some (.slice ba bn bc)/\w.cell? ⟨S,5,none⟩=some (.int .i64 t.q8)/\w.cell? ⟨S,6,none⟩=some (.int .i64 (n:Int))/\w.cell? ⟨S,7,none⟩=some (.bool f)/\∀k,w.frozen? ⟨S,k,none⟩=false:=by
 have hb:=h.box;refine⟨?_,?_,?_,?_,?_,?_,?_,?_,fun k=>frozen_of_row w S k _ _ hb⟩<;>rw[cell_of_row w S _ _ _ _ hb]<;>rfl
theorem bz.fail(h:bz w S a na ca b nb cb c nc cc ra rn rc ba bn bc vs t n f):bz (w.setCell ⟨S,7,none⟩ (.bool true)) S a na ca b nb cb c nc cc ra rn rc ba bn bc vs t n true :=
 ⟨heap_setCell_same w S 7 _ _ (.bool true) h.box,h.tb.setW h.box⟩
theorem bz.step(h:bz w S a na ca b nb cb c nc cc ra rn rc ba bn bc vs t n f){Q:j6}{U E:Nat}{I:j6}{O G:Nat}{J:List Value}{K:Tb}(ho:wS w 0 (.slice Q U E) (.slice I O G) J K)(W:Bool):
 bz (((((w.setCell ⟨S,3,none⟩ (.slice Q U E)).setCell ⟨S,4,none⟩ (.slice I O G)).setCell ⟨S,5,none⟩ (.int .i64 K.q8)).setCell ⟨S,6,none⟩ (.int .i64 ((n:Int)+1))).setCell ⟨S,7,none⟩ (.bool W)) S a na ca b nb cb c nc cc Q U E I O G J K (n+1) W:=by
 have b1:=heap_setCell_same w S 3 _ _ (.slice Q U E) h.box;have b2:=heap_setCell_same _ S 4 _ _ (.slice I O G) b1;have b3:=heap_setCell_same _ S 5 _ _ (.int .i64 K.q8) b2;have Z:=heap_setCell_same _ S 6 _ _ (.int .i64 ((n:Int)+1)) b3;have b5:=heap_setCell_same _ S 7 _ _ (.bool W) Z;refine⟨?_,((((ho.setW h.box).setW b1).setW b2).setW b3).setW Z⟩;rw[b5];have:((n+1:Nat):Int)=(n:Int)+1:=by simp
 rw[this];rfl
end
theorem l9.Ws{w w':World}{S b:Nat}{v:Value}{l:j4}(h:l9 w b v l)(hm:Mod S w w'){c:Array Value}{z:Nat×Nat}(hb:w.heap[S]?=some (.cells c 119 z)):l9 w' b v l :=
 h.keep fun k hk=>hm.block k (h.lt k hk).2 fun e=>(an h hb (by decide)) (by rw[hk,e])
def eY(S:Nat)(a:j6)(na ca:Nat)(b:j6)(nb cb:Nat)(c:j6)(nc cc:Nat)(w w':World)(o:Option (Tb×Nat)):Prop :=
 Mod S w w'/\∃ra rn rc ba bn bc vs,match o with
  | some (t,n)=>bz w' S a na ca b nb cb c nc cc ra rn rc ba bn bc vs t n false
  | none=>∃t n,bz w' S a na ca b nb cb c nc cc ra rn rc ba bn bc vs t n true
section
variable{w:World}{S:Nat}{a:j6}{na ca:Nat}{b:j6}{nb cb:Nat}{c:j6}{nc cc:Nat}{ra:j6}{rc:Nat}{ba:j6}{bc:Nat}{vs:List Value}{t:Tb}{n:Nat}
theorem oe{N m:Nat}{T0:Nat->Nat->Rat}(h:bz w S a na ca b nb cb c nc cc ra m rc ba m bc vs t n false)(I:wo N m T0 t)(hN:N<=1000)(hm:m<=1000)(hn:n<=1000){r k:Nat}(hr:r<m)(hk:k<N):
 Calls Tryz.prog 218 #[.pointer (some ⟨S,0,none⟩),.int .i64 (r:Int),.int .i64 (k:Int)] w fun e w'=>e=.returned (.tuple #[])/\eY S a na ca b nb cb c nc cc w w' (yG t n (r:Int) (k:Int)):=by
 have hlt:=lt_of_block h.box;obtain⟨l0,l1,l2,c0,c1,c2,c3,c4,cf⟩:=h.cells;have H:=ae h;rw[I.q8]at c2;by_cases F1:n=1000
 ·subst F1;have HP:=ae (show yG t 1000 (r:Int) (k:Int)=none by unfold yG;rw[if_pos rfl]);clear h I;go_enter Tryz.func218,Tryz.ntmps218
  go_wp2_with fail;refine bodyPost_ret (results_none rfl _ _ _) rfl ⟨rfl,Mod.set _ _ _ _,?_⟩;rw[HP.o];exact⟨_,_,_,_,_,_,_,_,_,H.o.fail⟩
 ·have LH:¬(n:Int)≥1000:=by omega
  have zv:n<1000:=by omega
  have B1:=ae (mJ h.tb.zB I hN hm hr hk);have HP:=ae (show yG t n (r:Int) (k:Int)=(bo t (r:Int) (k:Int)).map fun O=>(O,n+1)by unfold yG;rw[if_neg F1]);have AV:=ae I.q8;clear h I F1;unfold Ho dk at B1;obtain⟨o,E⟩:=b9 (bo t (r:Int) (k:Int))
  have Ed:=ae (show(o.getD t).q8=(N:Int)by
   cases o with
   | none=>exact AV.o
   | some O =>
      have h1:=E.symm;unfold bo at h1;split at h1
      ·unfold fm at h1;cases hd:Ad (t.row (Int.toNat (r:Int))) (t.at (Int.toNat (r:Int)) (Int.toNat (k:Int)))with
       | none=>rw[hd]at h1;cases h1
       | some mm=>rw[hd,Option.bind_some,Option.map_eq_some_iff]at h1;obtain⟨rs,_,rfl⟩:=h1;exact AV.o
      ·cases h1)
  rw[<-E]at B1 HP;clear E;go_enter Tryz.func218,Tryz.ntmps218
  go_wp2_with fail;refine B1.o.mono ?_;rintro e w1 ⟨⟨va,vb,K,rfl,E⟩,hx⟩;obtain⟨a7,U,W,rfl,DP⟩:=E.a.var;obtain⟨Z,Q,c8,rfl,Eg⟩:=E.b.var;rw[Ed.o];obtain⟨E1,J⟩:=b9 (w1.alloc (.cells #[.slice a7 U W,.slice Z Q c8,.int .i64 (N:Int)] 116));obtain⟨gE,OG⟩:=b9 w1.heap.size;have X1:=ae (show Ext w E1 by rw[J];exact hx.trans (Ext.alloc _ _));have HO:=ae (show wS E1 0 (.slice a7 U W) (.slice Z Q c8) K (o.getD t)by rw[J];exact(E.ext (Ext.alloc _ _)).mono (Nat.zero_le _));have G:=ae (show E1.heap[gE]?=some (.cells #[.slice a7 U W,.slice Z Q c8,.int .i64 (N:Int)] 116 (0,0))by rw[J,OG];exact aj _ _ _ rfl);have HS:=ae (H.o.ext X1.o);go_upto_region 3 with fail;rw[<-J,<-OG];clear J OG E hx l0 l1 l2 c0 c1 c2 c3 c4 cf;obtain⟨l0,l1,l2,c0,c1,c2,c3,c4,cf⟩:=HS.o.cells;rw[AV.o]at c2;have b0:=al G.o;have b1:=au G.o;have b2:=av G.o;have wm:=lt_of_block G.o;have hne:gE≠S:=fun e=>iv G.o HS.o.box (by decide) e
  have xh:=ae (fun f'=>HS.o.step HO.o f');rw[Ed.o]at xh;cases o with
  | none =>
    go_wp2_with fail;refine bodyPost_end (results_none rfl _ _ _) rfl ⟨rfl,(Mod.of X1.o).trans (((((Mod.set _ _ _ _).trans (Mod.set _ _ _ _)).trans (Mod.set _ _ _ _)).trans (Mod.set _ _ _ _)).trans (Mod.set _ _ _ _)),?_⟩;rw[HP.o];exact⟨_,_,_,_,_,_,_,_,_,xh.o true⟩
  | some O =>
    go_wp2_with fail;refine bodyPost_end (results_none rfl _ _ _) rfl ⟨rfl,(Mod.of X1.o).trans (((((Mod.set _ _ _ _).trans (Mod.set _ _ _ _)).trans (Mod.set _ _ _ _)).trans (Mod.set _ _ _ _)).trans (Mod.set _ _ _ _)),?_⟩;rw[HP.o];exact⟨_,_,_,_,_,_,_,xh.o false⟩
end
def Zg(S:Nat)(a:j6)(na ca:Nat)(b:j6)(nb cb:Nat)(c:j6)(nc cc:Nat)(w:World)(e:Ending)(w':World)(o:Option Ph):Prop :=
 Mod S w w'/\∃ra rn rc ba bn bc vs,match o with
  | some p=>∃v,e=.returned (.tuple #[v,.int .i64 p.ve])/\l9 w' w.heap.size v p.costs/\bz w' S a na ca b nb cb c nc cc ra rn rc ba bn bc vs p.t (1000-p.left) false
  | none=>∃v ve t n,e=.returned (.tuple #[v,.int .i64 ve])/\bz w' S a na ca b nb cb c nc cc ra rn rc ba bn bc vs t n true
section
variable{w:World}{S:Nat}{a:j6}{na ca:Nat}{b:j6}{nb cb:Nat}{c:j6}{nc cc:Nat}
structure KY(w wr:World)(S:Nat)(a:j6)(na ca:Nat)(b:j6)(nb cb:Nat)(c:j6)(nc cc:Nat)(N m:Nat)(T0:Nat->Nat->Rat)(cost:j4)(o:Option Ph)(gk:Nat)(nn:Nat)(tt:Tb)(ra:j6)(rc:Nat)(ba:j6)(bc:Nat)(vs:List Value):Prop where
 meas:gk=1000-nn
 mod:Mod S w wr
 st:bz wr S a na ca b nb cb c nc cc ra m rc ba m bc vs tt nn false
 inv:wo N m T0 tt
 le:nn<=1000
 go:aO cost (1000-nn) tt=o
theorem bz.same{ra:j6}{rn rc:Nat}{ba:j6}{bn bc:Nat}{vs:List Value}{t:Tb}{n:Nat}{f:Bool}{N m:Nat}{T0:Nat->Nat->Rat}(h:bz w S a na ca b nb cb c nc cc ra rn rc ba bn bc vs t n f)(E:wo N m T0 t):rn=m/\bn=m:=E.sizes h.tb.zB
theorem od{ra:j6}{rc:Nat}{ba:j6}{bc:Nat}{vs:List Value}{t:Tb}{n:Nat}{N m:Nat}{T0:Nat->Nat->Rat}(h:bz w S a na ca b nb cb c nc cc ra m rc ba m bc vs t n false)(hT:wo N m T0 t)(hN:N<=1000)(hm:m<=1000)(hn:n<=1000){ka:j6}{kn kc b0:Nat}{cost:j4}(hc:l9 w b0 (.slice ka kn kc) cost)(Ab:kn=N+m)(hv:xC cost=true):
 Calls Tryz.prog 165 #[.pointer (some ⟨S,0,none⟩),.slice ka kn kc] w fun e w'=>Zg S a na ca b nb cb c nc cc w e w' (aO cost (1000-n) t):=by
 obtain⟨o,ho⟩:=b9 (aO cost (1000-n) t);rw[<-ho];have H0:=ae (show KY w w S a na ca b nb cb c nc cc N m T0 cost o (1000-n) n t ra rc ba bc vs from⟨rfl,Mod.refl _ _,h,hT,hn,ho.symm⟩);have HC:=ae hc;have wE:=ae h.box;have xX:=ae Ab;have Md:=ae hv;have hlt:=lt_of_block h.box;clear h hT ho hc Ab hv;go_enter Tryz.func165,Tryz.ntmps165
 go_wp2_with fail
 go_loopg [6] (1000-n) (fun gk s6 wr=>∃(E:Nat) (G:Tb) (ra:j6) (rc:Nat) (ba:j6) (bc:Nat) (vs:List Value),b7 (KY w wr S a na ca b nb cb c nc cc N m T0 cost o gk E G ra rc ba bc vs))
 case atStart=>exact⟨n,t,_,_,_,_,_,H0⟩
 case round =>
  obtain⟨g1,o6⟩:=b9 gk;subst o6;obtain⟨o8,o4⟩:=b9 wr;subst o4;obtain⟨E,G,ra,rc,ba,bc,vs,HH⟩:=hrel;clear H0;obtain⟨I,l1,l2,c0,c1,c2,c3,c4,J⟩:=HH.o.st.cells;have XM:=lt_of_block HH.o.st.box;have BQ:=HH.o.mod.size;have HT:=ae HH.o.inv;have zv:=HH.o.le;have Z:=ae HH.o.go;have AV:=ae HH.o.inv.q8;rw[AV.o]at c2;have L8:=ae (uB HH.o.st.tb.zB HT.o hN hm (HC.o.Ws HH.o.mod wE.o).uZ xX.o Md.o);cases hcs:ch G cost with
  | none =>
    have HO:=ae (show o=none by rw[<-Z.o];exact lR _ hcs);rw[hcs]at L8;go_wp2_with fail;refine L8.o.mono ?_;simp only[Option.getD_none,Option.isSome_none];rintro e w2 ⟨⟨v2,rfl,U⟩,hx⟩;have HS:=ae (HH.o.st.ext hx);have HM:=ae (HH.o.mod.trans (Mod.of hx));clear U hx I l1 l2 c0 c1 c2 c3 c4 J hcs;obtain⟨I,l1,l2,c0,c1,c2,c3,c4,J⟩:=HS.o.cells;go_wp2_with fail
    go_ret2
    refine⟨HM.o.trans (Mod.set _ _ _ _),?_⟩;rw[HO.o];exact⟨_,_,_,_,_,_,_,_,_,_,_,rfl,HS.o.fail⟩
  | some cs =>
    rw[hcs]at L8;have EH:=ae hcs;go_wp2_with fail;refine L8.o.mono ?_;simp only[Option.getD_some,Option.isSome_some];rintro e w2 ⟨⟨v2,rfl,U⟩,hx⟩;obtain⟨a2,n2,p2,rfl,ED⟩:=U.var;have HS:=ae (HH.o.st.ext hx);have HM:=ae (HH.o.mod.trans (Mod.of hx));have wG:=ae (show l9 w2 w.heap.size (.slice a2 n2 p2) cs from l9.mono U BQ);have Eu:N<=n2:=by have h1:=ED.o;rw[(dW HT.o EH.o).1.1]at h1;omega
    clear U hx I l1 l2 c0 c1 c2 c3 c4 J hcs;obtain⟨I,l1,l2,c0,c1,c2,c3,c4,J⟩:=HS.o.cells;rw[AV.o]at c2;obtain⟨ve,A9⟩:=b9 (aZ cs (N:Int));have zA:=ae A9;have O:=ae (show aZ cs G.q8=ve by rw[AV.o,A9]);have S3:=gM cs N;rw[<-A9]at S3;clear A9;go_upto_region 5 with fail;have k7:Ext w2 w2.drew:=Ext.drew w2;have vt:=k7;have k8:=ae (fun(w':World) (h:Ext w2 w')=>(⟨h.j9 c0,h.j9 c1,h.j9 c2,h⟩:w'.cell? ⟨S,3,none⟩=some (.slice ra m rc)/\w'.cell? ⟨S,4,none⟩=some (.slice ba m bc)/\w'.cell? ⟨S,5,none⟩=some (.int .i64 (N:Int))/\Ext w2 w'))
    go_region_held3 (fun w'=>w'.cell? ⟨S,3,none⟩=some (.slice ra m rc)/\w'.cell? ⟨S,4,none⟩=some (.slice ba m bc)/\w'.cell? ⟨S,5,none⟩=some (.int .i64 (N:Int))/\Ext w2 w')
     (with_reducible exact k8.o _ k7)
     (first
       | (go_at_call 216
          (with_reducible refine(kP (ra:=ra) (rn:=m) (rc:=rc) (ba:=ba) (bn:=m) (bc:=bc) (x:=(N:Int)) (wG.o.uZ.ext (by first|with_reducible exact k7|with_reducible exact vt|with_reducible exact k7.trans (Ext.alloc _ _))) N Eu).mono ?_)
          rw[<-zA.o];rintro e w3 ⟨rfl,r9⟩;have k7:Ext w2 w3:=k7.trans r9
          have Cr:=k7.size)
       | fail)
    clear k8 vt;have W:=ae (HS.o.ext k7);have Cc:=ae (HM.o.trans (Mod.of k7));have vi:=ae (wG.o.ext k7);clear k7 I l1 l2 c0 c1 c2 c3 c4 J
    rcases S3 with wK|⟨cN,hcN,Nl⟩
    ·subst wK;have HO:=ae (show o=some ⟨G,1000-E,cs,-1⟩by rw[<-Z.o];exact kp _ EH.o (by rw[O.o];omega));go_wp2_with fail
     go_ret2
     refine⟨Cc.o,?_⟩;rw[HO.o];exact⟨_,_,_,_,_,_,_,_,rfl,vi.o,by rw[show 1000-(1000-E)=E by omega];exact W.o⟩
    ·subst hcN;obtain⟨I,l1,l2,c0,c1,c2,c3,c4,J⟩:=W.o.cells;rw[AV.o]at c2;have EF:=ae (pP W.o.tb.zB HT.o hN hm Nl);obtain⟨row,o7⟩:=b9 (cu G (cN:Int));have zD:=ae (show cu G (aZ cs G.q8)=row by rw[O.o,o7]);have Et:row=-1∨(0<=row/\row<m):=by
      rw[o7];unfold cu;split
      ·have:=im G (Int.toNat (cN:Int)) G.rows.length;rw[HT.o.len]at this⊢;exact this
      ·exact Or.inl rfl
     rw[<-o7]at EF;have hcn0:¬(cN:Int)<0:=by omega
     clear o7;go_wp2_with fail;refine EF.o.mono ?_;rintro e w4 ⟨rfl,hx⟩;have LW:=ae (W.o.ext hx);have BL:=ae (Cc.o.trans (Mod.of hx));have wV:=ae (vi.o.ext hx);clear hx I l1 l2 c0 c1 c2 c3 c4 J
     rcases Et with xA|⟨xA,xm⟩
     ·subst xA
      have HO:=ae (show o=some ⟨G,1000-E,cs,(cN:Int)⟩by
       rw[<-Z.o,kq _ EH.o (by rw[O.o];omega) (by rw[zD.o];omega),O.o])
      go_wp2_with fail
      go_ret2
      refine⟨BL.o,?_⟩;rw[HO.o];exact⟨_,_,_,_,_,_,_,_,rfl,wV.o,by rw[show 1000-(1000-E)=E by omega];exact LW.o⟩
     ·obtain⟨Q,hrN⟩:∃k:Nat,row=k:=⟨row.toNat,by omega⟩;subst hrN;have zu:Q<m:=by omega
      have hrn0:¬(Q:Int)<0:=by omega
      have Dy:=ae (show o=(yG G E (Q:Int) (cN:Int)).bind fun s=>aO cost (1000-s.2) s.1 by
       rw[<-Z.o,kr zv EH.o (by rw[O.o];omega) (by rw[zD.o];omega),zD.o,O.o])
      have B1:=ae (oe LW.o HT.o hN hm zv zu Nl);have V3:=ae (show g1=1000-E from HH.o.meas);go_wp2_with fail;refine B1.o.mono ?_;rintro e w5 ⟨rfl,BI,Of,Ps,Oe,OX,QJ,OW,Mf,K⟩;cases AG:yG G E (Q:Int) (cN:Int)with
      | none =>
        rw[AG]at K;obtain⟨t5,n5,Bm⟩:=K;have HO:=ae (show o=none by rw[Dy.o,AG];rfl);have CL:=ae Bm;have AU:=ae (BL.o.trans BI);clear Bm AG BI;obtain⟨I,l1,l2,c0,c1,c2,c3,c4,J⟩:=CL.o.cells;go_wp2_with fail
        go_ret2
        refine⟨AU.o,?_⟩;rw[HO.o];exact⟨_,_,_,_,_,_,_,_,_,_,_,rfl,CL.o⟩
      | some st =>
        obtain⟨t5,n5⟩:=st;rw[AG]at K;have OB:n5=E+1/\E<1000/\bo G (Q:Int) (cN:Int)=some t5:=by
         unfold yG at AG
         split at AG
         ·cases AG
         ·rw[Option.map_eq_some_iff]at AG;obtain⟨t6,h6,h7⟩:=AG;simp only[Prod.mk.injEq]at h7;obtain⟨rfl,rfl⟩:=h7;exact⟨rfl,by omega,h6⟩
        obtain⟨rfl,XJ,Hb⟩:=OB;have HO:=ae (show aO cost (1000-(E+1)) t5=o by rw[Dy.o,AG];rfl);have YV:=eQ HT.o Hb;obtain⟨e1,e2⟩:=bz.same K YV;have Iv:=e1.symm;have e2':=e2.symm;clear e1 e2;subst Iv;subst e2';have U9:=ae (show KY w w5 S a na ca b nb cb c nc cc N m T0 cost o (1000-(E+1)) (E+1) t5 Of Oe OX OW Mf from⟨rfl,BL.o.trans BI,K,YV,by omega,HO.o⟩);obtain⟨I,l1,l2,c0,c1,c2,c3,c4,J⟩:=bz.cells K;clear K AG BI Hb YV;go_wp2_with fail
        go_roundg (1000-(E+1))
        case measure=>have:=V3.o;omega
        case rel=>exact⟨E+1,t5,_,_,_,_,_,U9⟩
end
section
variable{w:World}{a:j6}{na ca:Nat}{b:j6}{nb cb:Nat}{c:j6}{nc cc:Nat}{A:j5}{B:j7}{C:j4}
def fL(first:Bool)(C:j4)(m:Nat):j4:=if first=true then dI C.length m else bY C m
theorem oc(h:Bf w a na ca b nb cb c nc cc A B C)(first:Bool)(h1:nc<=1000)(h2:na<=1000):
 Calls Tryz.prog 166 #[Al a na ca b nb cb c nc cc,.bool first] w fun e w'=>(∃v,e=.returned v/\l9 w' w.heap.size v (fL first C na))/\Ext w w':=by
 have uS:=Ext.alloc w (aV a na ca b nb cb c nc cc);have uV:=ae uS;have uW:=ae (show(w.alloc (aV a na ca b nb cb c nc cc)).heap[w.heap.size]?=some (.cells #[.slice a na ca,.slice b nb cb,.slice c nc cc] 68 (0,0))from aj _ _ _ rfl);obtain⟨W,hW⟩:=b9 (w.alloc (aV a na ca b nb cb c nc cc));have H:=ae (h.ext uS);rw[<-hW]at uS uV uW H;have xB:=h.c.l8;have zC:=h.c.o0;have Iu:=h.a.l8;have It:=h.a.o0;have HL:=ae h.c.hlen;have B9:W.heap.size=w.heap.size+1:=by rw[hW];simp
 have HO:=ae (l9.made W (w.heap.size+1) e7);have X0:=ae (Ext.alloc W (.cells #[] 62));rw[B9]at HO;clear h uS;go_enter Tryz.func166,Tryz.ntmps166
 go_upto_region 1 with fail;rw[<-hW];clear hW;obtain⟨D,Q⟩:=b9 (if first=true then List.replicate nc ((0:Int),(1:Int)) else C)
 have HD:=ae Q;have BD:=ae (show D.length=nc by rw[Q];cases first<;>simp[HL.o])
 have HCB:=ae (show fL first C na=D++List.replicate na (vX first,1)by
  unfold fL dI bY;rw[Q,HL.o];cases first<;>rfl)
 clear Q;go_wp2_with fail
 go_loopg [5,6] nc (fun gk oo ii wr=>∃(k:Nat) (a1:j6) (E p1:Nat),b7 (gk+k=nc)/\ii=.int .i64 (k:Int)/\oo=.slice a1 E p1/\b7 (l9 wr (w.heap.size+1) (.slice a1 E p1) (D.take k))/\b7 (Ext W wr))
 case atStart=>exact⟨0,_,_,_,ae e7,rfl,rfl,HO,X0⟩
 case round =>
  obtain⟨g1,o6⟩:=b9 gk;subst o6;obtain⟨o8,o4⟩:=b9 wr;subst o4;obtain⟨k,a1,E,q1,K,rfl,rfl,vw,HX⟩:=hrel;have p2:=av (HX.o.blk uW.o);have hsz:=HX.o.size;by_cases hlt:k<nc
  ·have xg:=ae (show(D.take k).length=k by rw[List.length_take,BD.o];omega);have xZ:=ae (fun(p:j8) (hp:D[k]?.getD (0,0)=p)=>show D.take k++[p]=D.take (k+1)by rw[fs (by rw[BD.o];exact hlt),hp]);cases first
   ·obtain⟨eb,vd,ex,ey,AD,Ir,xj,AY⟩:=(H.o.ext HX.o).c.at hlt;subst AD;have yX:=ae (xZ.o (ex,ey) (by rw[HD.o];exact Ir));clear Ir
    go_wp2_with (first
     | (at_builtin;refine aI rfl _ _ rfl (w.heap.size+1) (.slice a1 E q1) _ rfl (vw.o.ext (Ext.alloc _ _)) _ 1 _ [(ex,ey)] rfl (Rats.one' _ _ _ _ _ e8) (by rw[xg.o];omega) (by simp;omega) ?_;intro v5 w5 ho hg l7;have X5:=ae (ak (HX.o.trans (Ext.alloc _ _)) hg (fun j hj=>by have:=(vw.o.lt j hj).1;omega));obtain⟨a5,J,I,rfl,U⟩:=ho.var;have vU:=ae ho;clear ho hg l7))
    go_roundg (g1-1)
    case measure=>have:=K.o;omega
    case rel=>exact⟨k+1,a5,J,I,ae (j1 K.o),by go_num,rfl,ae (by rw[<-yX.o];exact vU.o),X5⟩
   ·have yX:=ae (xZ.o (0,1) (by rw[HD.o];exact pH hlt));go_wp2_with fail;refine(cl 0 _).mono ?_;rintro e w3 ⟨rfl,hx⟩;have X3:=ae (HX.o.trans hx);have G:=ae (vw.o.ext hx);have Cs:=X3.o.size;clear hx p2
    go_wp2_with (first
     | (at_builtin;refine aI rfl _ _ rfl (w.heap.size+1) (.slice a1 E q1) _ rfl (G.o.ext (Ext.alloc _ _)) _ 1 _ [(0,1)] rfl (Rats.one' _ _ _ _ _ e8) (by rw[xg.o];omega) (by simp;omega) ?_;intro v5 w5 ho hg l7;have X5:=ae (ak (X3.o.trans (Ext.alloc _ _)) hg (fun j hj=>by have:=(G.o.lt j hj).1;omega));obtain⟨a5,J,I,rfl,U⟩:=ho.var;have vU:=ae ho;clear ho hg l7))
    go_roundg (g1-1)
    case measure=>have:=K.o;omega
    case rel=>exact⟨k+1,a5,J,I,ae (j1 K.o),by go_num,rfl,ae (by rw[<-yX.o];exact vU.o),X5⟩
  ·have yV:k=nc:=by have:=K.o;omega
   have wG:=ae (show l9 o8 (w.heap.size+1) (.slice a1 E q1) (D++List.replicate 0 (vX first,1))by
    have:=vw.o;rw[List.take_of_length_le (by rw[BD.o];omega)]at this;simpa using this)
   clear yV;go_wp2_with fail;clear p2
   go_loopg [5,7] na (fun gk oo ii wr=>∃(k:Nat) (a1:j6) (E p1:Nat),b7 (gk+k=na)/\ii=.int .i64 (k:Int)/\oo=.slice a1 E p1/\b7 (l9 wr (w.heap.size+1) (.slice a1 E p1) (D++List.replicate k (vX first,1)))/\b7 (Ext W wr))
   case atStart=>exact⟨0,_,_,_,ae e7,rfl,rfl,wG,HX⟩
   case round =>
    obtain⟨g2,wv⟩:=b9 gk;subst wv;obtain⟨wr2,vo⟩:=b9 wr;subst vo;obtain⟨j,a2,n2,q2,HJ,rfl,rfl,Z,O⟩:=hrel;have p0:=al (O.o.blk uW.o);have SU:=O.o.size;by_cases yW:j<na
    ·have xg:=ae (show(D++List.replicate j (vX first,(1:Int))).length=nc+j by rw[List.length_append,BD.o,List.length_replicate]);have Mb:=ae (fun w'=>fD first w');go_wp2_with (first|(go_at_call 104;refine(Mb.o _).mono ?_;rintro e w2 ⟨rfl,rfl⟩));refine(cl (vX first) _).mono ?_;rintro e w3 ⟨rfl,hx⟩;have X3:=ae (O.o.trans hx);have G:=ae (Z.o.ext hx);have Cs:=X3.o.size;clear hx p0
     go_wp2_with (first
      | (at_builtin;refine aI rfl _ _ rfl (w.heap.size+1) (.slice a2 n2 q2) _ rfl (G.o.ext (Ext.alloc _ _)) _ 1 _ [(vX first,1)] rfl (Rats.one' _ _ _ _ _ e8) (by rw[xg.o];omega) (by simp;omega) ?_;intro v5 w5 ho hg l7;have X5:=ae (ak (X3.o.trans (Ext.alloc _ _)) hg (fun j hj=>by have:=(G.o.lt j hj).1;omega));obtain⟨a5,J,I,rfl,U⟩:=ho.var;have vU:=ae ho;clear ho hg l7))
     go_roundg (g2-1)
     case measure=>have:=HJ.o;omega
     case rel=>exact⟨j+1,a5,J,I,ae (j1 HJ.o),by go_num,rfl,ae (by have:=vU.o;rw[List.append_assoc,<-List.replicate_succ']at this;exact this),X5⟩
    ·have Cw:na=j:=by have:=HJ.o;omega
     subst Cw;go_wp2_with fail;go_ret;exact⟨⟨_,rfl,by rw[HCB.o];exact Z.o.mono e7⟩,uV.o.trans O.o⟩
end
end Go.Proofs.YtdadoignenffgaaGreatDoor
