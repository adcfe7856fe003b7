import Derived.Test.YtdadoignenffgaaGreatDoorEbAllG42
set_option linter.unusedVariables false
set_option linter.unusedSimpArgs false
namespace Go.Proofs.YtdadoignenffgaaGreatDoor
variable{w:World}
set_option maxHeartbeats 16000000
set_option maxRecDepth 100000
open Go.RowKit
def Fx(s:Nat):Int:=if 2<=CJ s 5 then 6 else 0
def Iy(s:Nat):Int:=10*(CJ s 5:Int)*(CJ s 5:Int)
theorem ux:IsGo Tryz.prog 84:=isGo aeX e9 e9
theorem uy:IsGo Tryz.prog 89:=isGo Tryz.func89 e9 e9
theorem wy(s:Nat)(hs:s<32)(w:World):Calls Tryz.prog 84 #[.int .i64 (s:Int)] w fun e w'=>e=.returned (.int .i64 (Fx s))/\Ext w w':=by
 have HS:=ae (qu s e7 w);obtain⟨p,hp⟩:=b9 (CJ s 5);rw[<-hp]at HS;by_cases h2:2<=p
 ·have HF:=ae (show Fx s=6 by unfold Fx;rw[<-hp,hI h2]);have hi:(2:Int)<=(p:Int):=by omega
  clear hp h2;go_enter aeX,Tryz.ntmps84
  go_wp2_with fail;refine HS.o.mono ?_;rintro e w' ⟨rfl,rfl⟩;go_wp2_with fail;go_ret;exact⟨ap HF.o.symm,Ext.refl _⟩
 ·have HF:=ae (show Fx s=0 by unfold Fx;rw[<-hp,hD h2]);have hi:¬(2:Int)<=(p:Int):=by omega
  clear hp h2;go_enter aeX,Tryz.ntmps84
  go_wp2_with fail;refine HS.o.mono ?_;rintro e w' ⟨rfl,rfl⟩;go_wp2_with fail;go_ret;exact⟨ap HF.o.symm,Ext.refl _⟩
theorem wB(s:Nat)(hs:s<32)(w:World):Calls Tryz.prog 89 #[.int .i64 (s:Int)] w fun e w'=>e=.returned (.int .i64 (Iy s))/\Ext w w':=by
 have HS:=ae (fun w=>qu s e7 w);have G:=pS s 5;have HF:=ae (show Iy s=10*(CJ s 5:Int)*(CJ s 5:Int)from rfl);obtain⟨p,hp⟩:=b9 (CJ s 5);simp only[<-hp]at HS HF G;clear hp;have hb:10*(p:Int)*(p:Int)<=250:=by
  have:p*p<=5*5:=Y4 G G;have h2:((p*p:Nat):Int)<=25:=by omega
  rw[Int.mul_assoc,<-acv];omega
 have Cn:0<=10*(p:Int)*(p:Int):=by
  rw[Int.mul_assoc,<-acv];omega
 have GX:IntKind.i64.wrap (10*(p:Int))=10*(p:Int):=by rw[cn];omega
 have Ch:IntKind.i64.wrap (10*(p:Int)*(p:Int))=10*(p:Int)*(p:Int):=by rw[cn];omega
 go_enter Tryz.func89,Tryz.ntmps89
 go_wp2_with fail;refine(HS.o _).mono ?_;rintro e w' ⟨rfl,rfl⟩;go_wp2_with fail;refine(HS.o _).mono ?_;rintro e w' ⟨rfl,rfl⟩;go_wp2_with fail;go_ret;exact⟨ap HF.o.symm,Ext.refl _⟩
def B5(k:Int):Nat:=if k=1 then 3 else if k=2 then E4 2 2 [[5,8],[3,5]] else if k=3 then gu 200 [100,100,100] else if k=4 then gR 4 [3,2,1,1] else if k=5 then 4 else 0
def Bh(k:Int):j7:=if k=1 then Ag Fx (cN 3) else if k=2 then Ey 2 2 [[5,8],[3,5]] else if k=3 then fD 200 [100,100,100] else if k=4 then fL 4 [3,2,1,1] else if k=5 then Ag Iy (cN 4) else []
theorem Pd:Ag (iG [0,0,6,6]) (cN 3)=Ag Fx (cN 3):=by decide
theorem Pc:Ag (iG [0,10,40,90,160]) (cN 4)=Ag Iy (cN 4):=by decide
theorem Pa:∀k:Int,∀x∈Bh k,0<=x/\x<=1000000:=by
 have h1:∀x∈Ag Fx (cN 3),0<=x/\x<=1000000:=by decide
 have h2:∀x∈Ey 2 2 [[5,8],[3,5]],0<=x/\x<=1000000:=by decide
 have h3:∀x∈fD 200 [100,100,100],0<=x/\x<=1000000:=fun x hx=>by
  have h:(fD 200 [100,100,100]).all (fun x=>decide (0<=x/\x<=1000000))=true:=by kernel_rfl
  simpa using Di.1 h x hx
 have h4:∀x∈fL 4 [3,2,1,1],0<=x/\x<=1000000:=fun x hx=>by
  have h:(fL 4 [3,2,1,1]).all (fun x=>decide (0<=x/\x<=1000000))=true:=by kernel_rfl
  simpa using Di.1 h x hx
 have h5:∀x∈Ag Iy (cN 4),0<=x/\x<=1000000:=by decide
 intro k;unfold Bh
 split
 ·exact h1
 ·split
  ·exact h2
  ·split
   ·exact h3
   ·split
    ·exact h4
    ·split
     ·exact h5
     ·intro x hx;cases hx
theorem Pb(k:Int)(j:Nat):-1000000<=(Bh k)[j]?.getD 0/\(Bh k)[j]?.getD 0<=1000000:=by
 by_cases hj:j<(Bh k).length
 ·rw[bk hj,l'];have:=Pa k _ (vl hj);omega
 ·rw[G4 e7];decide
theorem Ints.Jj(w:World)(l:j7)(t:TypeId)(hl:l.length<=100)(c:Array Value)(hc:c=(l.map (Value.int .i64)).toArray):Ints (w.alloc (.cells c t)) (some ⟨w.heap.size,0,none⟩) l.length l.length l:=by
 subst hc;refine⟨rfl,ao _,by omega,fun k hk=>⟨_,0,rfl,fun k hk=>?_⟩⟩;rw[tn _ w.heap.size _ _ _ _ (L' w _)];simp[hk]
theorem SF{t G:TypeId}:cH (((w.alloc (.cells #[.int .i64 5,.int .i64 8] t)).alloc (.cells #[.int .i64 3,.int .i64 5] t)).alloc (.cells #[.slice (some ⟨w.heap.size,0,none⟩) 2 2,.slice (some ⟨w.heap.size+1,0,none⟩) 2 2] G)) (some ⟨w.heap.size+1+1,0,none⟩) 2 2 [[5,8],[3,5]]:=by
 have h1:Ints (w.alloc (.cells #[.int .i64 5,.int .i64 8] t)) (some ⟨w.heap.size,0,none⟩) 2 2 [5,8]:=Ints.Jj w [5,8] t (by decide) _ rfl;have h2:Ints ((w.alloc (.cells #[.int .i64 5,.int .i64 8] t)).alloc (.cells #[.int .i64 3,.int .i64 5] t)) (some ⟨w.heap.size+1,0,none⟩) 2 2 [3,5]:=by
  have:=Ints.Jj (w.alloc (.cells #[.int .i64 5,.int .i64 8] t)) [3,5] t (by decide) _ rfl;rw[V4]at this;exact this
 refine⟨rfl,ao _,by omega,fun k hk=>⟨_,0,rfl,fun k hk=>?_⟩⟩;have k7:k=0∨k=1:=by omega
 rcases k7 with rfl|rfl
 ·exact⟨_,_,_,by rw[tn _ (w.heap.size+1+1) _ _ _ _ (ai _ _ _ e8)];rfl,(h1.ext (Ext.alloc _ _)).ext (Ext.alloc _ _)⟩
 ·exact⟨_,_,_,by rw[tn _ (w.heap.size+1+1) _ _ _ _ (ai _ _ _ e8)];rfl,h2.ext (Ext.alloc _ _)⟩
def SA(w:World)(base:Nat)(e:Ending)(k:Int):Prop:=∃v ok,e=.returned (.tuple #[.agg #[.int .i64 (B5 k:Int),v],.bool ok])/\o4 w base v (Bh k)
theorem SA.of{base:Nat}{k:Int}{a:j6}{n c p:Nat}{ok:Bool}{L:j7}(hp:B5 k=p)(hl:Bh k=L)(ho:o4 w base (.slice a n c) L):SA w base (.returned (.tuple #[.agg #[.int .i64 (p:Int),.slice a n c],.bool ok])) k:=by
 subst hp;subst hl;exact⟨_,_,rfl,ho⟩
theorem ez{W:World}{b:Nat}{x:Int}{a:j6}{n c:Nat}{L:j7}{x0 x1:Value}{t:TypeId}(hb:W.heap[b]?=some (.cells #[x0,x1] t (0,0)))(hX:Ext w W)(G:w.heap.size<=b)(ho:o4 W (b+1) (.slice a n c) L):
 ((W.setCell ⟨b,0,none⟩ (.int .i64 x)).setCell ⟨b,1,none⟩ (.slice a n c)).cell? ⟨b,0,none⟩=some (.int .i64 x)/\((W.setCell ⟨b,0,none⟩ (.int .i64 x)).setCell ⟨b,1,none⟩ (.slice a n c)).cell? ⟨b,1,none⟩=some (.slice a n c) /\
   Ext w ((W.setCell ⟨b,0,none⟩ (.int .i64 x)).setCell ⟨b,1,none⟩ (.slice a n c))/\o4 ((W.setCell ⟨b,0,none⟩ (.int .i64 x)).setCell ⟨b,1,none⟩ (.slice a n c)) (b+1) (.slice a n c) L:=by
 have h1:=ta _ _ 1 _ _ (.slice a n c) (ta W b 0 _ _ (.int .i64 x) hb);exact⟨an h1,al h1,(hX.setCell (p:=⟨b,0,none⟩) G _).setCell (p:=⟨b,1,none⟩) G _,ho.keep fun j hj=>(bB _ _ _ _ (by have:=(ho.lt j hj).1;show j≠b;omega)).trans (bB _ _ _ _ (by have:=(ho.lt j hj).1;show j≠b;omega))⟩
theorem xO(k:Int):Calls Tryz.prog 31 #[.int .i64 k] w fun e w'=>SA w' w.heap.size e k/\Ext w w':=by
 obtain⟨W,hW⟩:=b9 (w.alloc (.cells #[.int .i64 0,.slice none 0 0] 32));have Ai:=ae (show W.heap.size=w.heap.size+1 by rw[hW];simp);have y7:=ae (show Ext w W by rw[hW];exact Ext.alloc _ _);have zF:=ae (show W.heap[w.heap.size]?=some (.cells #[.int .i64 0,.slice none 0 0] 32 (0,0))by rw[hW];exact ai _ _ _ rfl);by_cases h1:k=1
 ·subst h1
  have HM:=ae (show Calls Tryz.prog 83 #[.int .i64 3,.func (.func 84) #[] #[]] W fun e w'=>eT w' W.heap.size e 3 (Ag Fx (cN 3)) true/\Ext W w' from
   lq (n:=3) e7 e7 ux (fun s w1 hs hx=>by simpa using wy s (j1 ((bP 3 e7).2)) w1) (by decide) (by decide))
  have HF:=ae (show B5 1=3/\Bh 1=Ag Fx (cN 3)from⟨rfl,rfl⟩);have HC:=ae (show Ext W W from Ext.refl W);go_enter acj,ab'
  go_upto_region 1 with fail;rw[<-hW];clear hW;go_wp2_with fail;refine HM.o.mono ?_;rintro e w1 ⟨⟨v,rfl,ho⟩,hx⟩;obtain⟨a1,n1,c1,rfl,HN⟩:=ho.var;have I:=HC.o.trans hx;have G:=Cc I zF.o;have J0:=HC.o.size;have FL:=Ai.o;have K:=ae (ez (x:=3) G (y7.o.trans I) (ao _) (ho.mono e7));have r0:=an G;have r1:=al G;have rf:=fun j=>sd w1 w.heap.size j _ _ G
  obtain⟨f0,f1,fx,J⟩:=K.o;have Q:=ae fx;have U:=ae (J.mono (Cj _));clear K fx J hx I G ho FL;go_wp2_with fail;refine bR (v:=.tuple #[.agg #[.int .i64 3,.slice a1 n1 c1],.bool true]) (by simp[results,abK,go_sem,f0,f1]) rfl ⟨SA.of (p:=3) HF.o.1 HF.o.2 U.o,Q.o⟩
 by_cases h2:k=2
 ·subst h2;have HM:=ae (show Calls Tryz.prog 86 #[gP 2 2 (some ⟨W.heap.size+1+1,0,none⟩) 2 2] (((W.alloc (.cells #[.int .i64 5,.int .i64 8] 3)).alloc (.cells #[.int .i64 3,.int .i64 5] 3)).alloc (.cells #[.slice (some ⟨W.heap.size,0,none⟩) 2 2,.slice (some ⟨W.heap.size+1,0,none⟩) 2 2] 30)) fun e w'=>eT w' (((W.alloc (.cells #[.int .i64 5,.int .i64 8] 3)).alloc (.cells #[.int .i64 3,.int .i64 5] 3)).alloc (.cells #[.slice (some ⟨W.heap.size,0,none⟩) 2 2,.slice (some ⟨W.heap.size+1,0,none⟩) 2 2] 30)).heap.size e (E4 2 2 [[5,8],[3,5]]) (Ey 2 2 [[5,8],[3,5]]) (cq 2 2 [[5,8],[3,5]])/\Ext (((W.alloc (.cells #[.int .i64 5,.int .i64 8] 3)).alloc (.cells #[.int .i64 3,.int .i64 5] 3)).alloc (.cells #[.slice (some ⟨W.heap.size,0,none⟩) 2 2,.slice (some ⟨W.heap.size+1,0,none⟩) 2 2] 30)) w' from mZ SF);obtain⟨pp,Z⟩:=b9 (E4 2 2 [[5,8],[3,5]]);obtain⟨LL,O⟩:=b9 (Ey 2 2 [[5,8],[3,5]]);obtain⟨ok,zO⟩:=b9 (cq 2 2 [[5,8],[3,5]]);rw[<-Z,<-O,<-zO]at HM;have HF:=ae (show B5 2=pp/\Bh 2=LL from⟨Z.symm,O.symm⟩);clear Z O zO
  have HC:=ae (show Ext W (((W.alloc (.cells #[.int .i64 5,.int .i64 8] 3)).alloc (.cells #[.int .i64 3,.int .i64 5] 3)).alloc (.cells #[.slice (some ⟨W.heap.size,0,none⟩) 2 2,.slice (some ⟨W.heap.size+1,0,none⟩) 2 2] 30))from((((((Ext.refl W).trans (Ext.alloc _ _))).trans (Ext.alloc _ _))).trans (Ext.alloc _ _)));go_enter acj,ab'
  go_upto_region 1 with fail;rw[<-hW];clear hW;go_wp2_with fail;refine HM.o.mono ?_;rintro e w1 ⟨⟨v,rfl,ho⟩,hx⟩;obtain⟨a1,n1,c1,rfl,HN⟩:=ho.var;have I:=HC.o.trans hx;have G:=Cc I zF.o;have J0:=HC.o.size;have FL:=Ai.o;have K:=ae (ez (x:=(pp:Int)) G (y7.o.trans I) (ao _) (ho.mono e7));have r0:=an G;have r1:=al G;have rf:=fun j=>sd w1 w.heap.size j _ _ G
  obtain⟨f0,f1,fx,J⟩:=K.o;have Q:=ae fx;have U:=ae (J.mono (Cj _));clear K fx J hx I G ho FL;go_wp2_with fail;refine bR (v:=.tuple #[.agg #[.int .i64 (pp:Int),.slice a1 n1 c1],.bool ok]) (by simp[results,abK,go_sem,f0,f1]) rfl ⟨SA.of (p:=pp) HF.o.1 HF.o.2 U.o,Q.o⟩
 by_cases h3:k=3
 ·subst h3;have HM:=ae (show Calls Tryz.prog 87 #[pair 200 (some ⟨W.heap.size,0,none⟩) 3 3] (W.alloc (.cells #[.int .i64 100,.int .i64 100,.int .i64 100] 3)) fun e w'=>eT w' (W.alloc (.cells #[.int .i64 100,.int .i64 100,.int .i64 100] 3)).heap.size e (gu 200 [100,100,100]) (fD 200 [100,100,100]) (aJ 0 200 [100,100,100])/\Ext (W.alloc (.cells #[.int .i64 100,.int .i64 100,.int .i64 100] 3)) w' from nd (show Ints (W.alloc (.cells #[.int .i64 100,.int .i64 100,.int .i64 100] 3)) (some ⟨W.heap.size,0,none⟩) 3 3 [100,100,100]from Ints.Jj W [100,100,100] 3 (by decide) _ rfl));obtain⟨pp,Z⟩:=b9 (gu 200 [100,100,100]);obtain⟨LL,O⟩:=b9 (fD 200 [100,100,100]);obtain⟨ok,zO⟩:=b9 (aJ 0 200 [100,100,100]);rw[<-Z,<-O,<-zO]at HM;have HF:=ae (show B5 3=pp/\Bh 3=LL from⟨Z.symm,O.symm⟩);clear Z O zO;have HC:=ae (show Ext W (W.alloc (.cells #[.int .i64 100,.int .i64 100,.int .i64 100] 3))from((Ext.refl W).trans (Ext.alloc _ _)));go_enter acj,ab'
  go_upto_region 1 with fail;rw[<-hW];clear hW;go_wp2_with fail;refine HM.o.mono ?_;rintro e w1 ⟨⟨v,rfl,ho⟩,hx⟩;obtain⟨a1,n1,c1,rfl,HN⟩:=ho.var;have I:=HC.o.trans hx;have G:=Cc I zF.o;have J0:=HC.o.size;have FL:=Ai.o;have K:=ae (ez (x:=(pp:Int)) G (y7.o.trans I) (ao _) (ho.mono e7));have r0:=an G;have r1:=al G;have rf:=fun j=>sd w1 w.heap.size j _ _ G
  obtain⟨f0,f1,fx,J⟩:=K.o;have Q:=ae fx;have U:=ae (J.mono (Cj _));clear K fx J hx I G ho FL;go_wp2_with fail;refine bR (v:=.tuple #[.agg #[.int .i64 (pp:Int),.slice a1 n1 c1],.bool ok]) (by simp[results,abK,go_sem,f0,f1]) rfl ⟨SA.of (p:=pp) HF.o.1 HF.o.2 U.o,Q.o⟩
 by_cases h4:k=4
 ·subst h4;have HM:=ae (show Calls Tryz.prog 88 #[pair 4 (some ⟨W.heap.size,0,none⟩) 4 4] (W.alloc (.cells #[.int .i64 3,.int .i64 2,.int .i64 1,.int .i64 1] 3)) fun e w'=>eT w' (W.alloc (.cells #[.int .i64 3,.int .i64 2,.int .i64 1,.int .i64 1] 3)).heap.size e (gR 4 [3,2,1,1]) (fL 4 [3,2,1,1]) (aJ 1 4 [3,2,1,1])/\Ext (W.alloc (.cells #[.int .i64 3,.int .i64 2,.int .i64 1,.int .i64 1] 3)) w' from sE (show Ints (W.alloc (.cells #[.int .i64 3,.int .i64 2,.int .i64 1,.int .i64 1] 3)) (some ⟨W.heap.size,0,none⟩) 4 4 [3,2,1,1]from Ints.Jj W [3,2,1,1] 3 (by decide) _ rfl));obtain⟨pp,Z⟩:=b9 (gR 4 [3,2,1,1]);obtain⟨LL,O⟩:=b9 (fL 4 [3,2,1,1]);obtain⟨ok,zO⟩:=b9 (aJ 1 4 [3,2,1,1]);rw[<-Z,<-O,<-zO]at HM;have HF:=ae (show B5 4=pp/\Bh 4=LL from⟨Z.symm,O.symm⟩);clear Z O zO;have HC:=ae (show Ext W (W.alloc (.cells #[.int .i64 3,.int .i64 2,.int .i64 1,.int .i64 1] 3))from((Ext.refl W).trans (Ext.alloc _ _)));go_enter acj,ab'
  go_upto_region 1 with fail;rw[<-hW];clear hW;go_wp2_with fail;refine HM.o.mono ?_;rintro e w1 ⟨⟨v,rfl,ho⟩,hx⟩;obtain⟨a1,n1,c1,rfl,HN⟩:=ho.var;have I:=HC.o.trans hx;have G:=Cc I zF.o;have J0:=HC.o.size;have FL:=Ai.o;have K:=ae (ez (x:=(pp:Int)) G (y7.o.trans I) (ao _) (ho.mono e7));have r0:=an G;have r1:=al G;have rf:=fun j=>sd w1 w.heap.size j _ _ G
  obtain⟨f0,f1,fx,J⟩:=K.o;have Q:=ae fx;have U:=ae (J.mono (Cj _));clear K fx J hx I G ho FL;go_wp2_with fail;refine bR (v:=.tuple #[.agg #[.int .i64 (pp:Int),.slice a1 n1 c1],.bool ok]) (by simp[results,abK,go_sem,f0,f1]) rfl ⟨SA.of (p:=pp) HF.o.1 HF.o.2 U.o,Q.o⟩
 by_cases h5:k=5
 ·subst h5
  have HM:=ae (show Calls Tryz.prog 83 #[.int .i64 4,.func (.func 89) #[] #[]] W fun e w'=>eT w' W.heap.size e 4 (Ag Iy (cN 4)) true/\Ext W w' from
   lq (n:=4) e7 e7 uy (fun s w1 hs hx=>by simpa using wB s (j1 ((bP 4 e7).2)) w1) (by decide) (by decide))
  have HF:=ae (show B5 5=4/\Bh 5=Ag Iy (cN 4)from⟨rfl,rfl⟩);have HC:=ae (show Ext W W from Ext.refl W);go_enter acj,ab'
  go_upto_region 1 with fail;rw[<-hW];clear hW;go_wp2_with fail;refine HM.o.mono ?_;rintro e w1 ⟨⟨v,rfl,ho⟩,hx⟩;obtain⟨a1,n1,c1,rfl,HN⟩:=ho.var;have I:=HC.o.trans hx;have G:=Cc I zF.o;have J0:=HC.o.size;have FL:=Ai.o;have K:=ae (ez (x:=4) G (y7.o.trans I) (ao _) (ho.mono e7));have r0:=an G;have r1:=al G;have rf:=fun j=>sd w1 w.heap.size j _ _ G
  obtain⟨f0,f1,fx,J⟩:=K.o;have Q:=ae fx;have U:=ae (J.mono (Cj _));clear K fx J hx I G ho FL;go_wp2_with fail;refine bR (v:=.tuple #[.agg #[.int .i64 4,.slice a1 n1 c1],.bool true]) (by simp[results,abK,go_sem,f0,f1]) rfl ⟨SA.of (p:=4) HF.o.1 HF.o.2 U.o,Q.o⟩
 have e1:(k == 1)=false:=by simpa using h1
 have e2:(k == 2)=false:=by simpa using h2
 have e3:(k == 3)=false:=by simpa using h3
 have e4:(k == 4)=false:=by simpa using h4
 have e5:(k == 5)=false:=by simpa using h5
 have HF:=ae (show B5 k=0/\Bh k=[]by unfold B5 Bh;simp[h1,h2,h3,h4,h5]);have r0:=an zF.o;have r1:=al zF.o;have rf:=fun j=>sd W w.heap.size j _ _ zF.o
 obtain⟨f0,f1,fx,J⟩:=ez (x:=0) (a:=none) (n:=0) (c:=0) (L:=[]) zF.o y7.o (ao _) (o4.nil _ _);have Q:=ae fx;have U:=ae (J.mono (Cj _));clear fx J h1 h2 h3 h4 h5;go_enter acj,ab'
 go_upto_region 1 with fail;rw[<-hW];clear hW;go_wp2_with fail;refine bR (v:=.tuple #[.agg #[.int .i64 0,.slice none 0 0],.bool false]) (by simp[results,abK,go_sem,f0,f1]) rfl ⟨SA.of (p:=0) HF.o.1 HF.o.2 U.o,Q.o⟩
theorem yL(k:Int):Calls Tryz.prog 35 #[.int .i64 k] w fun e w'=>(∃v,e=.returned (.agg #[.int .i64 (B5 k:Int),v])/\o4 w' w.heap.size v (Bh k))/\Ext w w':=by
 obtain⟨W,hW⟩:=b9 ((w.alloc (.cells #[.int .i64 0,.slice none 0 0] 32)).alloc (.cells #[.int .i64 0,.slice none 0 0] 32));have Ai:=ae (show W.heap.size=w.heap.size+2 by rw[hW];simp);have y7:=ae (show Ext w W by rw[hW];exact(Ext.alloc _ _).trans (Ext.alloc _ _));have zF:=ae (show W.heap[w.heap.size]?=some (.cells #[.int .i64 0,.slice none 0 0] 32 (0,0))by rw[hW,aO _ _ _ e8];exact ai _ _ _ rfl);have Af:=ae (show W.heap[w.heap.size+1]?=some (.cells #[.int .i64 0,.slice none 0 0] 32 (0,0))by rw[hW];exact ai _ _ _ e8);by_cases h1:k=1
 ·subst h1
  have HM:=ae (show Calls Tryz.prog 94 #[.int .i64 3,.slice (some ⟨W.heap.size,0,none⟩) 4 4] (W.alloc (.cells #[.int .i64 0,.int .i64 0,.int .i64 6,.int .i64 6] 3)) fun e w'=>(∃v,e=.returned (.agg #[.int .i64 3,v])/\o4 w' (W.alloc (.cells #[.int .i64 0,.int .i64 0,.int .i64 6,.int .i64 6] 3)).heap.size v (Ag Fx (cN 3)))/\Ext (W.alloc (.cells #[.int .i64 0,.int .i64 0,.int .i64 6,.int .i64 6] 3)) w' from by
   have h:=ph (n:=3) (show Ints (W.alloc (.cells #[.int .i64 0,.int .i64 0,.int .i64 6,.int .i64 6] 3)) (some ⟨W.heap.size,0,none⟩) 4 4 [0,0,6,6]from Ints.Jj W [0,0,6,6] 3 (by decide) _ rfl) e7 (by decide);rw[Pd]at h
   exact h)
  have HF:=ae (show B5 1=3/\Bh 1=Ag Fx (cN 3)from⟨rfl,rfl⟩);have HC:=ae (show Ext W (W.alloc (.cells #[.int .i64 0,.int .i64 0,.int .i64 6,.int .i64 6] 3))from((Ext.refl W).trans (Ext.alloc _ _)));go_enter ack,aca
  go_upto_region 2 with fail;rw[<-hW];clear hW;go_wp2_with fail;refine HM.o.mono ?_;rintro e w1 ⟨⟨v,rfl,ho⟩,hx⟩;obtain⟨a1,O,c1,rfl,HN⟩:=ho.var;have J:=HC.o.trans hx;have I:=Cc J zF.o;have G:=Cc J Af.o;have J0:=HC.o.size;have FL:=Ai.o;have r0:=an I;have r1:=al I;have rf:=fun j=>sd w1 w.heap.size j _ _ I
  have g0:=an G;have g1:=al G;have gf:=fun j=>sd w1 (w.heap.size+1) j _ _ G
  have FH:=ae (ez (x:=3) G (y7.o.trans J) (Cj _) (ho.mono e7));have Q:=ae (ez (x:=3) (W:=(w1.setCell ⟨w.heap.size+1,0,none⟩ (.int .i64 3)).setCell ⟨w.heap.size+1,1,none⟩ (.slice a1 O c1)) (b:=w.heap.size) ((bB _ _ _ _ (by show w.heap.size≠w.heap.size+1;omega)).trans ((bB _ _ _ _ (by show w.heap.size≠w.heap.size+1;omega)).trans I)) FH.o.2.2.1 (ao _) (FH.o.2.2.2.mono (Cj _)));obtain⟨f0,f1,fx,K⟩:=Q.o;have Z:=ae fx;have FO:=ae (K.mono (Cj _));clear Q FH fx K hx J I G ho FL;go_wp2_with fail;refine bR (v:=.agg #[.int .i64 3,.slice a1 O c1]) (by simp[results,abL,go_sem,f0,f1]) rfl ⟨⟨_,by rw[HF.o.1];rfl,by rw[HF.o.2];exact FO.o⟩,Z.o⟩
 by_cases h2:k=2
 ·subst h2;have HM:=ae (show Calls Tryz.prog 95 #[gP 2 2 (some ⟨W.heap.size+1+1,0,none⟩) 2 2] (((W.alloc (.cells #[.int .i64 5,.int .i64 8] 3)).alloc (.cells #[.int .i64 3,.int .i64 5] 3)).alloc (.cells #[.slice (some ⟨W.heap.size,0,none⟩) 2 2,.slice (some ⟨W.heap.size+1,0,none⟩) 2 2] 30)) fun e w'=>eT w' (((W.alloc (.cells #[.int .i64 5,.int .i64 8] 3)).alloc (.cells #[.int .i64 3,.int .i64 5] 3)).alloc (.cells #[.slice (some ⟨W.heap.size,0,none⟩) 2 2,.slice (some ⟨W.heap.size+1,0,none⟩) 2 2] 30)).heap.size e (E4 2 2 [[5,8],[3,5]]) (Ey 2 2 [[5,8],[3,5]]) (cq 2 2 [[5,8],[3,5]])/\Ext (((W.alloc (.cells #[.int .i64 5,.int .i64 8] 3)).alloc (.cells #[.int .i64 3,.int .i64 5] 3)).alloc (.cells #[.slice (some ⟨W.heap.size,0,none⟩) 2 2,.slice (some ⟨W.heap.size+1,0,none⟩) 2 2] 30)) w' from nz SF);obtain⟨pp,FN⟩:=b9 (E4 2 2 [[5,8],[3,5]]);obtain⟨LL,U⟩:=b9 (Ey 2 2 [[5,8],[3,5]]);obtain⟨ok,zO⟩:=b9 (cq 2 2 [[5,8],[3,5]]);rw[<-FN,<-U,<-zO]at HM;have HF:=ae (show B5 2=pp/\Bh 2=LL from⟨FN.symm,U.symm⟩);clear FN U zO
  have HC:=ae (show Ext W (((W.alloc (.cells #[.int .i64 5,.int .i64 8] 3)).alloc (.cells #[.int .i64 3,.int .i64 5] 3)).alloc (.cells #[.slice (some ⟨W.heap.size,0,none⟩) 2 2,.slice (some ⟨W.heap.size+1,0,none⟩) 2 2] 30))from((((((Ext.refl W).trans (Ext.alloc _ _))).trans (Ext.alloc _ _))).trans (Ext.alloc _ _)));go_enter ack,aca
  go_upto_region 2 with fail;rw[<-hW];clear hW;go_wp2_with fail;refine HM.o.mono ?_;rintro e w1 ⟨⟨v,rfl,ho⟩,hx⟩;obtain⟨a1,O,c1,rfl,HN⟩:=ho.var;have J:=HC.o.trans hx;have I:=Cc J zF.o;have G:=Cc J Af.o;have J0:=HC.o.size;have FL:=Ai.o;have r0:=an I;have r1:=al I;have rf:=fun j=>sd w1 w.heap.size j _ _ I
  have g0:=an G;have g1:=al G;have gf:=fun j=>sd w1 (w.heap.size+1) j _ _ G
  have FH:=ae (ez (x:=(pp:Int)) G (y7.o.trans J) (Cj _) (ho.mono e7));have Q:=ae (ez (x:=(pp:Int)) (W:=(w1.setCell ⟨w.heap.size+1,0,none⟩ (.int .i64 (pp:Int))).setCell ⟨w.heap.size+1,1,none⟩ (.slice a1 O c1)) (b:=w.heap.size) ((bB _ _ _ _ (by show w.heap.size≠w.heap.size+1;omega)).trans ((bB _ _ _ _ (by show w.heap.size≠w.heap.size+1;omega)).trans I)) FH.o.2.2.1 (ao _) (FH.o.2.2.2.mono (Cj _)));obtain⟨f0,f1,fx,K⟩:=Q.o;have Z:=ae fx;have FO:=ae (K.mono (Cj _));clear Q FH fx K hx J I G ho FL;go_wp2_with fail;refine bR (v:=.agg #[.int .i64 (pp:Int),.slice a1 O c1]) (by simp[results,abL,go_sem,f0,f1]) rfl ⟨⟨_,by rw[HF.o.1],by rw[HF.o.2];exact FO.o⟩,Z.o⟩
 by_cases h3:k=3
 ·subst h3;have HM:=ae (show Calls Tryz.prog 96 #[pair 200 (some ⟨W.heap.size,0,none⟩) 3 3] (W.alloc (.cells #[.int .i64 100,.int .i64 100,.int .i64 100] 3)) fun e w'=>eT w' (W.alloc (.cells #[.int .i64 100,.int .i64 100,.int .i64 100] 3)).heap.size e (gu 200 [100,100,100]) (fD 200 [100,100,100]) (aJ 0 200 [100,100,100])/\Ext (W.alloc (.cells #[.int .i64 100,.int .i64 100,.int .i64 100] 3)) w' from nD (show Ints (W.alloc (.cells #[.int .i64 100,.int .i64 100,.int .i64 100] 3)) (some ⟨W.heap.size,0,none⟩) 3 3 [100,100,100]from Ints.Jj W [100,100,100] 3 (by decide) _ rfl));obtain⟨pp,FN⟩:=b9 (gu 200 [100,100,100]);obtain⟨LL,U⟩:=b9 (fD 200 [100,100,100]);obtain⟨ok,zO⟩:=b9 (aJ 0 200 [100,100,100]);rw[<-FN,<-U,<-zO]at HM;have HF:=ae (show B5 3=pp/\Bh 3=LL from⟨FN.symm,U.symm⟩);clear FN U zO;have HC:=ae (show Ext W (W.alloc (.cells #[.int .i64 100,.int .i64 100,.int .i64 100] 3))from((Ext.refl W).trans (Ext.alloc _ _)));go_enter ack,aca
  go_upto_region 2 with fail;rw[<-hW];clear hW;go_wp2_with fail;refine HM.o.mono ?_;rintro e w1 ⟨⟨v,rfl,ho⟩,hx⟩;obtain⟨a1,O,c1,rfl,HN⟩:=ho.var;have J:=HC.o.trans hx;have I:=Cc J zF.o;have G:=Cc J Af.o;have J0:=HC.o.size;have FL:=Ai.o;have r0:=an I;have r1:=al I;have rf:=fun j=>sd w1 w.heap.size j _ _ I
  have g0:=an G;have g1:=al G;have gf:=fun j=>sd w1 (w.heap.size+1) j _ _ G
  have FH:=ae (ez (x:=(pp:Int)) G (y7.o.trans J) (Cj _) (ho.mono e7));have Q:=ae (ez (x:=(pp:Int)) (W:=(w1.setCell ⟨w.heap.size+1,0,none⟩ (.int .i64 (pp:Int))).setCell ⟨w.heap.size+1,1,none⟩ (.slice a1 O c1)) (b:=w.heap.size) ((bB _ _ _ _ (by show w.heap.size≠w.heap.size+1;omega)).trans ((bB _ _ _ _ (by show w.heap.size≠w.heap.size+1;omega)).trans I)) FH.o.2.2.1 (ao _) (FH.o.2.2.2.mono (Cj _)));obtain⟨f0,f1,fx,K⟩:=Q.o;have Z:=ae fx;have FO:=ae (K.mono (Cj _));clear Q FH fx K hx J I G ho FL;go_wp2_with fail;refine bR (v:=.agg #[.int .i64 (pp:Int),.slice a1 O c1]) (by simp[results,abL,go_sem,f0,f1]) rfl ⟨⟨_,by rw[HF.o.1],by rw[HF.o.2];exact FO.o⟩,Z.o⟩
 by_cases h4:k=4
 ·subst h4;have HM:=ae (show Calls Tryz.prog 97 #[pair 4 (some ⟨W.heap.size,0,none⟩) 4 4] (W.alloc (.cells #[.int .i64 3,.int .i64 2,.int .i64 1,.int .i64 1] 3)) fun e w'=>eT w' (W.alloc (.cells #[.int .i64 3,.int .i64 2,.int .i64 1,.int .i64 1] 3)).heap.size e (gR 4 [3,2,1,1]) (fL 4 [3,2,1,1]) (aJ 1 4 [3,2,1,1])/\Ext (W.alloc (.cells #[.int .i64 3,.int .i64 2,.int .i64 1,.int .i64 1] 3)) w' from tK (show Ints (W.alloc (.cells #[.int .i64 3,.int .i64 2,.int .i64 1,.int .i64 1] 3)) (some ⟨W.heap.size,0,none⟩) 4 4 [3,2,1,1]from Ints.Jj W [3,2,1,1] 3 (by decide) _ rfl));obtain⟨pp,FN⟩:=b9 (gR 4 [3,2,1,1]);obtain⟨LL,U⟩:=b9 (fL 4 [3,2,1,1]);obtain⟨ok,zO⟩:=b9 (aJ 1 4 [3,2,1,1]);rw[<-FN,<-U,<-zO]at HM;have HF:=ae (show B5 4=pp/\Bh 4=LL from⟨FN.symm,U.symm⟩);clear FN U zO;have HC:=ae (show Ext W (W.alloc (.cells #[.int .i64 3,.int .i64 2,.int .i64 1,.int .i64 1] 3))from((Ext.refl W).trans (Ext.alloc _ _)));go_enter ack,aca
  go_upto_region 2 with fail;rw[<-hW];clear hW;go_wp2_with fail;refine HM.o.mono ?_;rintro e w1 ⟨⟨v,rfl,ho⟩,hx⟩;obtain⟨a1,O,c1,rfl,HN⟩:=ho.var;have J:=HC.o.trans hx;have I:=Cc J zF.o;have G:=Cc J Af.o;have J0:=HC.o.size;have FL:=Ai.o;have r0:=an I;have r1:=al I;have rf:=fun j=>sd w1 w.heap.size j _ _ I
  have g0:=an G;have g1:=al G;have gf:=fun j=>sd w1 (w.heap.size+1) j _ _ G
  have FH:=ae (ez (x:=(pp:Int)) G (y7.o.trans J) (Cj _) (ho.mono e7));have Q:=ae (ez (x:=(pp:Int)) (W:=(w1.setCell ⟨w.heap.size+1,0,none⟩ (.int .i64 (pp:Int))).setCell ⟨w.heap.size+1,1,none⟩ (.slice a1 O c1)) (b:=w.heap.size) ((bB _ _ _ _ (by show w.heap.size≠w.heap.size+1;omega)).trans ((bB _ _ _ _ (by show w.heap.size≠w.heap.size+1;omega)).trans I)) FH.o.2.2.1 (ao _) (FH.o.2.2.2.mono (Cj _)));obtain⟨f0,f1,fx,K⟩:=Q.o;have Z:=ae fx;have FO:=ae (K.mono (Cj _));clear Q FH fx K hx J I G ho FL;go_wp2_with fail;refine bR (v:=.agg #[.int .i64 (pp:Int),.slice a1 O c1]) (by simp[results,abL,go_sem,f0,f1]) rfl ⟨⟨_,by rw[HF.o.1],by rw[HF.o.2];exact FO.o⟩,Z.o⟩
 by_cases h5:k=5
 ·subst h5
  have HM:=ae (show Calls Tryz.prog 94 #[.int .i64 4,.slice (some ⟨W.heap.size,0,none⟩) 5 5] (W.alloc (.cells #[.int .i64 0,.int .i64 10,.int .i64 40,.int .i64 90,.int .i64 160] 3)) fun e w'=>(∃v,e=.returned (.agg #[.int .i64 4,v])/\o4 w' (W.alloc (.cells #[.int .i64 0,.int .i64 10,.int .i64 40,.int .i64 90,.int .i64 160] 3)).heap.size v (Ag Iy (cN 4)))/\Ext (W.alloc (.cells #[.int .i64 0,.int .i64 10,.int .i64 40,.int .i64 90,.int .i64 160] 3)) w' from by
   have h:=ph (n:=4) (show Ints (W.alloc (.cells #[.int .i64 0,.int .i64 10,.int .i64 40,.int .i64 90,.int .i64 160] 3)) (some ⟨W.heap.size,0,none⟩) 5 5 [0,10,40,90,160]from Ints.Jj W [0,10,40,90,160] 3 (by decide) _ rfl) e7 (by decide);rw[Pc]at h
   exact h)
  have HF:=ae (show B5 5=4/\Bh 5=Ag Iy (cN 4)from⟨rfl,rfl⟩);have HC:=ae (show Ext W (W.alloc (.cells #[.int .i64 0,.int .i64 10,.int .i64 40,.int .i64 90,.int .i64 160] 3))from((Ext.refl W).trans (Ext.alloc _ _)));go_enter ack,aca
  go_upto_region 2 with fail;rw[<-hW];clear hW;go_wp2_with fail;refine HM.o.mono ?_;rintro e w1 ⟨⟨v,rfl,ho⟩,hx⟩;obtain⟨a1,O,c1,rfl,HN⟩:=ho.var;have J:=HC.o.trans hx;have I:=Cc J zF.o;have G:=Cc J Af.o;have J0:=HC.o.size;have FL:=Ai.o;have r0:=an I;have r1:=al I;have rf:=fun j=>sd w1 w.heap.size j _ _ I
  have g0:=an G;have g1:=al G;have gf:=fun j=>sd w1 (w.heap.size+1) j _ _ G
  have FH:=ae (ez (x:=4) G (y7.o.trans J) (Cj _) (ho.mono e7));have Q:=ae (ez (x:=4) (W:=(w1.setCell ⟨w.heap.size+1,0,none⟩ (.int .i64 4)).setCell ⟨w.heap.size+1,1,none⟩ (.slice a1 O c1)) (b:=w.heap.size) ((bB _ _ _ _ (by show w.heap.size≠w.heap.size+1;omega)).trans ((bB _ _ _ _ (by show w.heap.size≠w.heap.size+1;omega)).trans I)) FH.o.2.2.1 (ao _) (FH.o.2.2.2.mono (Cj _)));obtain⟨f0,f1,fx,K⟩:=Q.o;have Z:=ae fx;have FO:=ae (K.mono (Cj _));clear Q FH fx K hx J I G ho FL;go_wp2_with fail;refine bR (v:=.agg #[.int .i64 4,.slice a1 O c1]) (by simp[results,abL,go_sem,f0,f1]) rfl ⟨⟨_,by rw[HF.o.1];rfl,by rw[HF.o.2];exact FO.o⟩,Z.o⟩
 have e1:(k == 1)=false:=by simpa using h1
 have e2:(k == 2)=false:=by simpa using h2
 have e3:(k == 3)=false:=by simpa using h3
 have e4:(k == 4)=false:=by simpa using h4
 have e5:(k == 5)=false:=by simpa using h5
 have HF:=ae (show B5 k=0/\Bh k=[]by unfold B5 Bh;simp[h1,h2,h3,h4,h5]);have r0:=an zF.o;have r1:=al zF.o;have rf:=fun j=>sd W w.heap.size j _ _ zF.o
 have g0:=an Af.o;have g1:=al Af.o;obtain⟨f0,f1,fx,K⟩:=ez (x:=0) (a:=none) (n:=0) (c:=0) (L:=[]) zF.o y7.o (ao _) (o4.nil _ _);have Z:=ae fx;have FO:=ae (K.mono (Cj _));clear fx K h1 h2 h3 h4 h5;go_enter ack,aca
 go_upto_region 2 with fail;rw[<-hW];clear hW;go_wp2_with fail;refine bR (v:=.agg #[.int .i64 0,.slice none 0 0]) (by simp[results,abL,go_sem,f0,f1]) rfl ⟨⟨_,by rw[HF.o.1];rfl,by rw[HF.o.2];exact FO.o⟩,Z.o⟩
def Fj(k:Int):List UInt8:=cY (B5 k) (Bh k)
theorem kE {w: World}(k : Int)(ht : Lib.TabIs Tryz.prog w "internal/strconv.uint64pow10" .u64 Lib.pow10Tab) :
 Calls Tryz.prog 12 #[.int .i64 k] w fun e w'=>e=.returned (.string (bs (Fj k)))/\Ext w w':=by
 have HA:=ae (xO (w:=w) k);have HT:=ae ht;have HE:=ae (show Fj k=cY (B5 k) (Bh k)from rfl);have HV:=ae (Pb k);obtain⟨T,hT⟩:=b9 (Fj k);rw[<-hT]at HE;rw[<-hT];clear ht hT;go_enter Tryz.func12,Tryz.ntmps12
 go_wp2_with fail;refine HA.o.mono ?_;rintro e w1 ⟨⟨v,ok,rfl,ho⟩,hx⟩;obtain⟨a1,n1,p1,rfl,ED⟩:=ho.var;obtain⟨P,hP⟩:=b9 (B5 k);obtain⟨V,hV⟩:=b9 (Bh k);rw[<-hV]at ho HE HV;rw[<-hP]at HE;rw[<-hP];obtain⟨w2,Ch⟩:=b9 (w1.alloc (.cells #[.int .i64 (P:Int),.slice a1 n1 p1] 32));have zJ:Ext w1 w2:=by rw[Ch];exact Ext.alloc _ _
 have X2:=ae (hx.trans zJ);have c0:w2.cell? ⟨w1.heap.size,0,none⟩=some (.int .i64 (P:Int)):=by rw[Ch];simp
 have c1:w2.cell? ⟨w1.heap.size,1,none⟩=some (.slice a1 n1 p1):=by rw[Ch];simp
 have HF:=ae (lg (p:=P) (ho.ext zJ).ints HV.o (ec HT.o X2.o));rw[<-HE.o]at HF;clear hx zJ ho hP hV ED;go_upto_region 2 with fail;rw[<-Ch];clear Ch;go_wp2_with fail;refine HF.o.mono ?_;rintro e w3 ⟨rfl,hx⟩;have X3:=ae (X2.o.trans hx);clear hx;go_wp2_with fail;go_ret;exact⟨rfl,X3.o⟩
theorem kI(k:Int):Calls Tryz.prog 14 #[.int .i64 k] w fun e w'=>e=.returned (.string (bs (Fj k)))/\Ext w w':=by
 have HA:=ae (yL (w:=w) k);have HE:=ae (show Fj k=cY (B5 k) (Bh k)from rfl);have HV:=ae (Pb k);obtain⟨T,G⟩:=b9 (Fj k);rw[<-G]at HE;rw[<-G];clear G;go_enter Tryz.func14,Tryz.ntmps14
 go_wp2_with fail;refine HA.o.mono ?_;rintro e w1 ⟨⟨v,rfl,ho⟩,hx⟩;obtain⟨a1,n1,p1,rfl,ED⟩:=ho.var;have HF:=ae (jg (p:=B5 k) ho.ints HV.o);rw[<-HE.o]at HF;have X2:=ae hx;clear hx ho ED;go_wp2_with fail;refine HF.o.mono ?_;rintro e w3 ⟨rfl,hx⟩;have X3:=ae (X2.o.trans hx);clear hx;go_wp2_with fail;go_ret;exact⟨rfl,X3.o⟩
