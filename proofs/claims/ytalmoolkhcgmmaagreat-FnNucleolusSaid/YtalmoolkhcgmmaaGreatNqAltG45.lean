import Derived.Test.YtalmoolkhcgmmaaGreatNqAltG44
import Derived.Test.YtalmoolkhcgmmaaGreatNqAltG39
import Derived.Test.YtalmoolkhcgmmaaGreatNqAltG32
set_option linter.unusedVariables false
set_option linter.unusedSimpArgs false
namespace Go.Proofs.YtalmoolkhcgmmaaGreat
variable{k:Nat}
set_option maxHeartbeats 16000000
set_option maxRecDepth 100000
open Go.RowKit
theorem kW:IsGo Tryz.prog 99:=isGo Tryz.func99 e8 e8
theorem lN{w:World}(x y:Int){b:Nat}(hc:w.cell? ⟨b,0,none⟩=some (.int .i64 y))(hy:1<=zu y/\zu y<=100):
 Calls Tryz.prog 99 #[.int .i64 x,.pointer (some ⟨b,0,none⟩)] w fun e w'=>e=.returned (.bool (!wJ x 1 (zu y-1)))/\Ext w w':=by
 have ZB:IntKind.i64.wrap (zu y-1)=zu y-1:=by rw[IntKind.wrap_i64];omega
 go_enter Tryz.func99,Tryz.ntmps99
 go_wp2_with (first
  | (go_at_call 100;refine(kX _ _).mono ?_;rintro e w' ⟨rfl,rfl⟩)
  | (go_at_call 49;refine(aK _ _ _ _).mono ?_;rintro e w' ⟨rfl,rfl⟩))
 go_ret;exact⟨rfl,Ext.refl _⟩
def El(q:Nat)(l:j9)(k:Nat):j7:=(List.range q).map fun i=>if i<k then JH l i else wW l i
theorem uK(q:Nat)(l:j9):El q l 0=zM q l:=by
 unfold El zM;exact List.map_congr_left fun i _=>if_neg b9
theorem uJ(q:Nat)(l:j9):El q l q=zC q l:=by
 unfold El zC;exact List.map_congr_left fun i hi=>if_pos (List.mem_range.1 hi)
theorem sI{q:Nat}(l:j9)(h:k<q):(El q l k)[k]?.getD []=wW l k:=by
 unfold El;simp[h]
theorem NB{q:Nat}(l:j9)(h:k<q):(El q l k).set k (JH l k)=El q l (k+1):=by
 apply List.ext_getElem?
 intro i;unfold El;by_cases hi:i=k
 ·subst hi;rw[List.getElem?_set_self (by simp[h])];simp[h]
 ·rw[List.getElem?_set_ne (Ne.symm hi)];by_cases hq:i<q
  ·simp only[List.getElem?_map,List.getElem?_range hq,Option.map_some];by_cases h1:i<k
   ·rw[if_pos h1,if_pos b9]
   ·rw[if_neg h1,if_neg b9]
  ·simp[hq]
theorem pM{l:j9}{j n:Nat}(hL:l.length=n)(h:j<n):((wW l k).take (j+1)).sum=((wW l k).take j).sum+(wW l k)[j]?.getD 0:=by
 have h1:j<(wW l k).length:=by simp only[wW,List.length_map];omega
 rw[List.take_succ_eq_append_getElem h1,List.sum_append,List.sum_singleton,List.getElem?_eq_getElem h1,Option.getD_some]
theorem sp(n:Nat):dU (List.replicate n 0)=List.replicate n ((0:Int),(1:Int)):=by
 rw[fg (by intro x hx;rw[List.mem_replicate]at hx;omega)];simp[aw]
section
variable{w:World}{x:Int}{a:j8}{n cap:Nat}{l:j9}
theorem mO(h:Ints w a n cap l)(hl:∀k:Nat,l[k]?.getD 0<=9223372036854775807)(hb:n<=1048576):
 Calls Tryz.prog 48 #[.int .i64 x,.slice a n cap] w fun e w'=>e=.returned (.bool (DJ x l))/\Ext w w':=by
 have o3:=h.o3;have l9:=h.l9;have HL:=ae h.hlen;have HB:=ae hl;obtain⟨W,hW⟩:=b8 (w.alloc (.cells #[.int .i64 x] 3));have GW:Ext w W:=by rw[hW];exact Ext.alloc _ _
 have Em:=ae GW;have HI:=ae (h.ext GW);have yu:=ae (show W.cell? ⟨w.heap.size,0,none⟩=some (.int .i64 x)by rw[hW];simp);have Dx:=ae (fun w'=>aK x 1 5 w');have hsW:=GW.size;clear GW;cases hx:wJ x 1 5
 ·simp only[hx]at Dx;have HF:=ae (show DJ x l=false by unfold DJ eQ;rw[hx];rfl);clear h hl hx;go_enter Tryz.func48,Tryz.ntmps48
  go_upto_region 1 with fail;rw[<-hW];clear hW;have bx:=yu.o;go_wp2_with (first|(go_at_call 49;refine(Dx.o _).mono ?_;rintro e w' ⟨rfl,rfl⟩));go_ret;exact⟨ag HF.o.symm,Em.o⟩
 ·simp only[hx]at Dx;obtain⟨q,rfl⟩:∃q:Nat,x=q:=⟨x.toNat,by simp[wJ]at hx;omega⟩;have Au:1<=q:=by simp[wJ]at hx;omega
  have Dq:q<=5:=by simp[wJ]at hx;omega
  have Kk:=ae hx;by_cases hn:n<=40
  ·have F4:¬(n:Int) > 40:=by omega
   have A7:IntKind.i64.wrap ((n:Int)+2)=((n+2:Nat):Int):=by rw[IntKind.wrap_i64];omega
   have EH:=cu q Dq;have XD:=fJ q Dq;have JZ:=ae (dQ (ca:=#[.pointer (some ⟨w.heap.size,0,none⟩)]) (p:=fun s=>!wJ s 1 (zu (q:Int)-1)) HI.o kW (fun s w1 wO=>lN s (q:Int) (wO.k6 yu.o) (by rw[XD];omega)))
   have UQ:=ae (show eQ (q:Int) l=!(l.any fun s=>!wJ s 1 (zu (q:Int)-1))by
    unfold eQ;rw[hx,HL.o,decide_eq_true hn,List.any_eq_not_all_not]
    simp)
   obtain⟨an,han⟩:=b8 (l.any fun s=>!wJ s 1 (zu (q:Int)-1))
   rw[<-han]at JZ UQ;clear h hl hx XD han;go_enter Tryz.func48,Tryz.ntmps48
   go_upto_region 1 with fail;rw[<-hW];clear hW;have bx:=yu.o;go_wp2_with (first|(go_at_call 49;refine(Dx.o _).mono ?_;rintro e w' ⟨rfl,rfl⟩));refine JZ.o.mono ?_;rintro e w1 ⟨rfl,wO⟩;have X1:=ae wO;have bx1:=wO.k6 bx;clear wO bx;cases an
   case' true =>
    have HF:=ae (show DJ (q:Int) l=false by unfold DJ;rw[UQ.o];rfl);go_wp2_with fail;go_ret;exact⟨ag HF.o.symm,Em.o.trans X1.o⟩
   have GU:=ae (show eQ (q:Int) l=true by rw[UQ.o];rfl);have HM:=ae (oR q Dq (HI.o.ext X1.o) HB.o b9);have Cu:=X1.o.size;go_wp2_with fail;refine HM.o.mono ?_;rintro e w2 ⟨⟨vM,rfl,hoM⟩,xg⟩;have X2:=ae xg;obtain⟨O,Z,ZX⟩:=dI.mono' hoM (show w.heap.size<=w1.heap.size by omega);have HMV:=ae Z;have HMR:=ae ZX;obtain⟨aM,nM,cM,rfl,NW⟩:=Z.var;obtain rfl:q=nM:=by have h1:=NW.o;rw[ZX.len]at h1;simpa[zM]using h1
   have D4:=xg.size;clear hoM xg Z ZX;have HTM:=ae (kL (w:=w2) (n+2) 0 b9);go_wp2_with fail;refine HTM.o.mono ?_;rintro e w3 ⟨⟨vT,rfl,S'⟩,wS⟩;have X3:=ae (X2.o.trans wS);obtain⟨aT,nT,cT,rfl,HNT⟩:=S'.var;have R0:=ae (gX S'.ints (by have h1:=HNT.o;rw[List.length_replicate]at h1;omega));rw[sp]at R0;have CY:=wS.size;clear S';go_wp2_with fail;refine R0.o.mono ?_;rintro e w4 ⟨⟨vC,rfl,U⟩,xG⟩;have X4:=ae (wS.trans xG);obtain⟨aC,nC,cC,rfl,Gd⟩:=U.var;have J4:=xG.size;obtain⟨E,u⟩:=b8 (w4.alloc (.cells #[.slice aM q cM,.slice none 0 0,.slice aC nC cC] 52));obtain⟨g,hg⟩:=b8 w4.heap.size;have zw:Ext w1 E:=by rw[u];exact(X2.o.trans X4.o).trans (Ext.alloc _ _)
   have HXE:=ae ((Em.o.trans X1.o).trans zw)
   have ON:=ae (show xE E w.heap.size g (.slice aM q cM) (.slice none 0 0) (.slice aC nC cC) O (El q l 0) ((List.range 0).map (EX l)) (Bp l)from by
    rw[uK]
    exact⟨by rw[u,hg];exact ak _ _ _ rfl,by omega,by rw[u];exact(HMV.o.ext X4.o).ext (Ext.alloc _ _),by rw[u];exact(HMR.o.ext X4.o).ext (Ext.alloc _ _),o8.nil _ _,fun i k _ _ e=>by simp[Value.ownBlock]at e,by
     rw[u];unfold Bp;rw[HL.o]
     exact(U.ext (Ext.alloc _ _)).mono b9⟩)
   go_upto_region 6 with fail;rw[<-u,<-hg];clear u hg U A7 wS xG zw;have t0:=ON.o.c0;obtain⟨G,rfl,DF⟩:∃G,aM=some ⟨G,0,none⟩/\w.heap.size<=G:=by
    obtain⟨G,hG,zN,_⟩:=HMV.o.cell (k:=0) b9;exact⟨G,hG,zN⟩
   go_wp2_with fail
   go_loopg [34] q (fun gk ii wr=>∃(k:Nat) (vb:Value) (O:List Value),b7 (gk+k=q)/\ii=.int .i64 (k:Int)/\b7 (xE wr w.heap.size g (.slice (some ⟨G,0,none⟩) q cM) vb (.slice aC nC cC) O (El q l k) ((List.range k).map (EX l)) (Bp l))/\b7 (Ext w wr))
   case atStart=>exact⟨0,_,_,ae b9,rfl,ON,HXE⟩
   case round =>
    obtain⟨g1,r7⟩:=b8 gk;subst r7;obtain⟨o7,o6⟩:=b8 wr;subst o6;obtain⟨k,vb,O,HK,rfl,AQ,HX⟩:=hrel;have hsz:=HX.o.size;by_cases hlt:k<q
    ·have C5:=ae (show(wW l k).length=n by simp only[wW,List.length_map];rw[HL.o]);have o9:=AQ.o.rows.row k (by rw[AQ.o.rows.len.symm,AQ.o.a.len];exact hlt);rw[sI l hlt]at o9;obtain⟨ar,cr,GY,yq,AZ⟩:=o9.form;rw[C5.o]at GY yq;rw[GY]at o9;have Ay:=ae o9;have Dw:=ae GY;obtain⟨G',AL,_,I⟩:=AQ.o.a.cell hlt;simp only[Option.some.injEq,Addr.mk.injEq,and_true]at AL;subst AL;have tk:o7.cell? ⟨G,k,none⟩=some (.slice ar n cr):=by
      rw[I k hlt,<-GY];have:k<O.length:=by rw[AQ.o.a.len];exact hlt
      simp[this]
     clear o9 GY I;have FF:(0:Int)<=(k:Int):=by omega
     have BH:(k:Int)<(q:Int):=by omega
     go_wp2_with fail
     go_loopg [8,41] n (fun gk bb ii wr=>∃j:Nat,b7 (gk+j=n)/\ii=.int .i64 (j:Int)/\bb=.int .i64 (((wW l k).take j).sum)/\wr=o7)
     case atStart=>exact⟨0,ae b9,rfl,rfl,rfl⟩
     case round =>
      obtain⟨g2,xK⟩:=b8 gk;subst xK;obtain⟨wr2,wT⟩:=b8 wr;subst wT;obtain⟨j,HJ,rfl,rfl,rfl⟩:=hrel;have F3:=gS l k j;have Mj:=gS l k (j+1);obtain⟨sm,hsm⟩:=b8 (((wW l k).take j).sum);rw[<-hsm]at F3;rw[<-hsm];by_cases zt:j<n
      ·obtain⟨eb,xi,B2,yT⟩:=Ay.o.ints.at zt;subst B2;have PJ:=pM (k:=k) HL.o zt;rw[<-hsm]at PJ;rw[PJ]at Mj;obtain⟨s,hs⟩:=b8 ((wW l k)[j]?.getD 0);rw[<-hs]at yT PJ Mj;have RZ:=ae PJ;have GX:IntKind.i64.wrap (sm+s)=sm+s:=by rw[IntKind.wrap_i64];omega
       have Oj:(0:Int)<=(j:Int):=by omega
       have Ru:(j:Int)<(n:Int):=by omega
       clear hs PJ hsm;go_wp2_with fail
       go_roundg (g2-1)
       case measure=>have:=HJ.o;omega
       case rel=>exact⟨j+1,ae (j4 HJ.o),by go_num,by rw[RZ.o],rfl⟩
      ·have Ah:n=j:=by have:=HJ.o;omega
       have Km:=ae (show sm=(wW l k).sum by rw[hsm,List.take_of_length_le (by rw[C5.o];omega)]);obtain⟨bv,Tv⟩:=b8 (-sm);have GX:IntKind.i64.wrap (-sm)=bv:=by rw[IntKind.wrap_i64,Tv];omega
       have HBV:=ae (show EX l k=bv by rw[Tv,Km.o];rfl);have t1:=AQ.o.c1;have bf:=AQ.o.free;have D':=AQ.o.lt;have Ha:=ae (show((List.range k).map (EX l)).length=k by simp);have CT:=ae HX.o;clear Ah Tv hsm F3 Mj
       go_upto_region 16 with(first
        | (at_builtin;refine bm rfl _ _ rfl w.heap.size vb _ rfl (AQ.o.b.ext (Ext.alloc _ _)) _ 1 _ [bv] rfl (Ints.Ad _ _ _ _ e7) (by rw[Ha.o];omega) (by simp;omega) ?_;intro v9 w9 ho P3 l7;have JU:=ae (AQ.o.pushB (Ext.alloc _ _) P3 ho l7);have zH:=AQ.o.Io (Ext.alloc _ _) P3;have Vp:=xE.A2 zH;have Vn:=xE.B4 zH;have Kf:Ext w w9:=al (Ext.trans HX.o (Ext.alloc _ _)) P3 (fun j hj=>(AQ.o.b.lt j hj).1);obtain⟨a9,n9,q9,rfl,Kr⟩:=ho.var;clear ho P3 l7 zH))
       have GM:=ae (Kf.setCell (p:=⟨g,1,none⟩) AQ.o.hg (.slice a9 n9 q9));obtain⟨W8,Il⟩:=b8 (w9.setCell ⟨g,1,none⟩ (.slice a9 n9 q9));rw[<-Il]at JU GM;rw[<-Il];clear Il Vp Vn Kf tk t1 GX bf;have t0:=JU.o.c0;have Mm:=JU.o.rows.row k (by rw[JU.o.rows.len.symm,JU.o.a.len];exact hlt);rw[sI l hlt,Dw.o]at Mm;have hs8:w.heap.size<=W8.heap.size:=Below.size GM.o;have yJ:Ext W8 W8.drew:=Ext.drew W8;have NP:=ae (Mm.ext yJ);have GR:=ae (JU.o.ext yJ);have XS:Ext w W8.drew:=Ext.trans GM.o yJ;clear Mm;refine du (M:=[7]) (S:=fun w'=>w'.cell? ⟨g,0,none⟩=some (.slice (some ⟨G,0,none⟩) q cM)/\Ext w w') e8 ?_;have k9:=And.intro (yJ.k6 t0) XS;obtain⟨wd,R⟩:=b8 W8.drew;rw[<-R]at yJ NP GR XS k9;rw[<-R];clear R;have PL:=yJ.size;have td:=GR.o.c0;refine lp 0 ?_;refine ll 1 ?_;refine lp 2 ?_;refine lp 3 ?_;refine bh (i:=4) (oi:=?_) ?_ ?_ ?_ (fun K hK=>?_);rotate_left
       ·simp only[gA,gB,gC];rfl
       ·kernel_rfl
       ·kernel_rfl
       go_simp;refine hK.out _ _ (fun _=>And.intro ((Ext.alloc _ _).k6 td) (XS.trans (Ext.alloc _ _))) ?_;clear hK K
       try simp only[Act.put,sA,sB,sC]
       refine bh (i:=5) (oi:=?_) ?_ ?_ ?_ (fun K hK=>?_);rotate_left
       ·simp only[gA,gB,gC];rfl
       ·kernel_rfl
       ·kernel_rfl
       refine co _ _ j0 w.heap.size (.slice ar n cr) _ j0 (NP.o.ext (Ext.alloc _ _)) _ 2 _ [-1,1] j0 (Ints.SJ [-1,1] _ rfl j0 rfl (by decide)) (by rw[C5.o];omega) (by simp;omega) ?_;intro v6 w6 ho J' l7;obtain⟨a6,n6,q6,rfl,Jg⟩:=ho.var;have HP6:=ae (GR.o.putA (Ext.alloc _ _) hlt (by rw[Dw.o];exact J') ho (by rw[Dw.o];exact l7));have hb6:=(J'.block g ((GR.o.ext (Ext.alloc _ _)).lt) (by have h3:=GR.o.neR (i:=k) (by rw[GR.o.rows.len.symm,GR.o.a.len];exact hlt);rw[Dw.o]at h3;exact h3)).trans (GR.o.ext (Ext.alloc _ _)).box;have c06:=xE.A3 hb6;have hp6:=GR.o.VT (Ext.alloc _ _) hlt (by rw[Dw.o];exact J');obtain⟨ck6,cf6⟩:=hp6;rw[Dw.o]at ck6;have ZV:Ext w w6:=al (XS.trans (Ext.alloc _ _)) J' (fun j hj=>(NP.o.lt j hj).1);clear ho J' l7 hb6;refine hK.out _ _ (fun _=>And.intro c06 ZV) ?_;have k9:=And.intro c06 ZV;clear hK K
       try simp only[Act.put,sA,sB,sC]
       refine lp 6 ?_;refine dH (i:=7) (oi:=?_) (w':=?_) ?_ ?_ ?_ ?_ ?_ ?_ ?_;rotate_left 2
       ·simp only[gA,gB,gC];rfl
       ·kernel_rfl
       ·kernel_rfl
       ·exact of_decide_eq_true e8
       ·rfl
       ·go_simp;(try with_reducible rfl)
       try simp only[Act.put,sA,sB,sC]
       refine dL e8 ?_ _;have Fq:=ae (ZV.setCell (p:=⟨G,k,none⟩) DF (.slice a6 n6 q6));obtain⟨W9,ET⟩:=b8 (w6.setCell ⟨G,k,none⟩ (.slice a6 n6 q6));rw[<-ET]at HP6 Fq;go_upto_region 17 with fail;rw[<-ET];clear ET c06 ck6 cf6 k9 yJ XS ZV td t0;go_wp2_with fail
       go_roundg (g1-1)
       case measure=>have:=HK.o;omega
       case rel=>exact⟨k+1,_,_,ae (j4 HK.o),by go_num,ae (by
        have h1:=HP6.o;rw[<-HBV.o,cj]at h1;rw[<-NB l hlt]
        exact h1),Fq⟩
    ·have PU:q=k:=by have:=HK.o;omega
     rw[<-PU,uJ]at AQ;have J:=ae (show xE o7 w.heap.size g (.slice (some ⟨G,0,none⟩) q cM) vb (.slice aC nC cC) O (zC q l) (Cl q l) (Bp l)from AQ.o);obtain⟨aB,nB,cB,rfl,Kq⟩:=J.o.b.var
     have z8:=ae (show Cz o7 (some ⟨G,0,none⟩) q cM aB nB cB aC nC cC (zC q l) (Cl q l) (Bp l)from
      ⟨dI.Fg ⟨O,J.o.a,J.o.rows⟩,J.o.b.ints,J.o.c.wK⟩)
     have En:=ae (oP z8.o);obtain⟨r,hr⟩:=b8 (bV aV (zC q l) (Cl q l) (Bp l));rw[<-hr]at En
     have HR:=ae (show DJ (q:Int) l=(r.status == 1)by
      unfold DJ;rw[GU.o,Int.toNat_natCast,<-hr,Bool.true_and];rfl)
     have t0:=J.o.c0;have t1:=J.o.c1;have t2:=J.o.c2;clear PU hr;obtain⟨st,rX,rY,rr,⟨yZ,yY⟩,rp⟩:=r;go_wp2_with fail;refine En.o.mono ?_;rintro e w2 ⟨⟨xa,xn,xc,ya,yn,yc,ra,rn,rc,rfl,_⟩,hx⟩;unfold A6;have hfd:∀w:World,(Instr.field 56 (.agg #[.int .i64 st,.slice xa xn xc,.slice ya yn yc,.slice ra rn rc,.int .i64 yZ,.int .i64 yY,.int .i64 rp]) 0).run Tryz.prog w=.ok (.int .i64 st) w:=fun _=>by kernel_rfl
     go_wp2_with fail;go_ret;exact⟨ag HR.o.symm,HX.o.trans hx⟩
  ·have F4:(n:Int) > 40:=by omega
   have HF:=ae (show DJ (q:Int) l=false by unfold DJ eQ;rw[HL.o,decide_eq_false hn];simp);clear h hl hx;go_enter Tryz.func48,Tryz.ntmps48
   go_upto_region 1 with fail;rw[<-hW];clear hW;have bx:=yu.o;go_wp2_with (first|(go_at_call 49;refine(Dx.o _).mono ?_;rintro e w' ⟨rfl,rfl⟩));go_ret;exact⟨ag HF.o.symm,Em.o⟩
end
end Go.Proofs.YtalmoolkhcgmmaaGreat
