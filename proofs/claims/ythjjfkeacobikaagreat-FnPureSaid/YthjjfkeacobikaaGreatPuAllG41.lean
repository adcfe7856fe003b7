import Derived.Test.YthjjfkeacobikaaGreatPuAllG40
import Derived.Test.YthjjfkeacobikaaGreatPuAllG39
set_option linter.unusedVariables false
set_option linter.unusedSimpArgs false
namespace Go.Proofs.YthjjfkeacobikaaGreat
set_option maxRecDepth 100000
open Go.RowKit
theorem oZ {v:Int × Int} (hv:valR v=true):cmpR v (0,1)<0 ↔ v.1<0:=by
 have hb:=bh hv;unfold cmpR;rw [if_pos (by rw [hv];decide)];simp only;constructor
 ·intro h
  split at h
  ·next h1=>omega
  ·split at h
   ·omega
   ·omega
 ·intro h;rw [if_pos (by omega)];omega
theorem nd (n m:Nat):allV (dm n m)=true:=by
 unfold allV dm;rw [List.all_append,List.all_replicate,List.all_replicate];have h0:valR ((0:Int),(1:Int))=true:=by decide
 have h1:valR ((1:Int),(1:Int))=true:=by decide
 rw [h0,h1];simp
theorem nf {C:List (Int × Int)} (h:allV C=true) (m:Nat):allV (bU C m)=true:=by
 unfold allV bU at *;rw [List.all_append,h,List.all_replicate];have h0:valR ((0:Int),(1:Int))=true:=by decide
 rw [h0];simp
def SolW (w:World) (S:Nat) (a:Option Addr) (na ca:Nat) (b:Option Addr) (nb cb:Nat) (c:Option Addr) (nc cc:Nat) (e:Ending) (w':World) (o:Option LpR):Prop :=
 Mod S w w'/\match o with
  | some r=>∃ xa xn xc ya yn yc za zn zc,e=.returned (lrW ⟨r.status,r.X,r.Y,r.ray,r.value,0⟩ xa xn xc ya yn yc za zn zc)/\LrOw w' w.heap.size xa xn xc ya yn yc za zn zc r/\∃ ra rn rc ba bn bc vs t n,bD w' S a na ca b nb cb c nc cc ra rn rc ba bn bc vs t n false/\(n:Int)=r.pivots
  | none=>∃ r xa xn xc ya yn yc za zn zc,e=.returned (lrW r xa xn xc ya yn yc za zn zc)/\∃ ra rn rc ba bn bc vs t n,bD w' S a na ca b nb cb c nc cc ra rn rc ba bn bc vs t n true
theorem OwnT.set7 {w:World} {base g:Nat} {va vb:Value} {vs:List Value} {t:Tb} {c:Array Value} {z:Nat × Nat} (h:OwnT w base va vb vs t) (hb:w.heap[g]?=some (.cells c 113 z)) (x0 x1 x2 x3 x4 x5 x6:Value) :
 OwnT (((((((w.setCell ⟨g,0,none⟩ x0).setCell ⟨g,1,none⟩ x1).setCell ⟨g,2,none⟩ x2).setCell ⟨g,3,none⟩ x3).setCell ⟨g,4,none⟩ x4).setCell ⟨g,5,none⟩ x5).setCell ⟨g,6,none⟩ x6) base va vb vs t:=by
 refine ⟨h.a.keep fun k hk=>bF _ ?_ _ _ _ _ _ _ _,h.rows.keep fun i k hi hk=>bF _ ?_ _ _ _ _ _ _ _,h.b.keep fun k hk=>bF _ ?_ _ _ _ _ _ _ _⟩
 ·exact fun e=>(an h.a hb (by decide)) (by rw [hk,e])
 ·exact fun e=>(an (h.rows.row i hi) hb (by decide)) (by rw [hk,e])
 ·exact fun e=>(an h.b hb (by decide)) (by rw [hk,e])
section
variable {w:World} {S:Nat} {a:Option Addr} {na ca:Nat} {b:Option Addr} {nb cb:Nat} {c:Option Addr} {nc cc:Nat} {ra:Option Addr} {rn rc:Nat} {ba:Option Addr} {bn bc:Nat} {vs:List Value} {t:Tb} {n:Nat} {f:Bool}
theorem bD.set7 {g:Nat} {cs:Array Value} {z:Nat × Nat} (h:bD w S a na ca b nb cb c nc cc ra rn rc ba bn bc vs t n f) (hb:w.heap[g]?=some (.cells cs 113 z)) (x0 x1 x2 x3 x4 x5 x6:Value) :
 bD (((((((w.setCell ⟨g,0,none⟩ x0).setCell ⟨g,1,none⟩ x1).setCell ⟨g,2,none⟩ x2).setCell ⟨g,3,none⟩ x3).setCell ⟨g,4,none⟩ x4).setCell ⟨g,5,none⟩ x5).setCell ⟨g,6,none⟩ x6) S a na ca b nb cb c nc cc ra rn rc ba bn bc vs t n f :=
 ⟨(bF _ (gG h.box hb (by decide)) _ _ _ _ _ _ _).trans h.box,h.tb.set7 hb _ _ _ _ _ _ _⟩
end
theorem Mod.set7 {S:Nat} {w0 w:World} (h:Mod S w0 w) {g:Nat} (hg:w0.heap.size<=g) (x0 x1 x2 x3 x4 x5 x6:Value) :
 Mod S w0 (((((((w.setCell ⟨g,0,none⟩ x0).setCell ⟨g,1,none⟩ x1).setCell ⟨g,2,none⟩ x2).setCell ⟨g,3,none⟩ x3).setCell ⟨g,4,none⟩ x4).setCell ⟨g,5,none⟩ x5).setCell ⟨g,6,none⟩ x6):=by
 have hx:=Ext.set7 (Ext.refl w) (b:=w.heap.size) (Nat.le_refl _) x0 x1 x2 x3 x4 x5 x6;refine ⟨?_,?_,?_,?_,fun k hk hn=>?_⟩
 ·have:=((((((Below.refl g w).setCell (p:=⟨g,0,none⟩) (Nat.le_refl g) x0).setCell (p:=⟨g,1,none⟩) (Nat.le_refl g) x1).setCell (p:=⟨g,2,none⟩) (Nat.le_refl g) x2).setCell (p:=⟨g,3,none⟩) (Nat.le_refl g) x3).setCell (p:=⟨g,4,none⟩) (Nat.le_refl g) x4).setCell (p:=⟨g,5,none⟩) (Nat.le_refl g) x5 |>.setCell (p:=⟨g,6,none⟩) (Nat.le_refl g) x6
  exact this.os.trans h.os
 ·have:=((((((Below.refl g w).setCell (p:=⟨g,0,none⟩) (Nat.le_refl g) x0).setCell (p:=⟨g,1,none⟩) (Nat.le_refl g) x1).setCell (p:=⟨g,2,none⟩) (Nat.le_refl g) x2).setCell (p:=⟨g,3,none⟩) (Nat.le_refl g) x3).setCell (p:=⟨g,4,none⟩) (Nat.le_refl g) x4).setCell (p:=⟨g,5,none⟩) (Nat.le_refl g) x5 |>.setCell (p:=⟨g,6,none⟩) (Nat.le_refl g) x6
  exact this.tape.trans h.tape
 ·have:=((((((Below.refl g w).setCell (p:=⟨g,0,none⟩) (Nat.le_refl g) x0).setCell (p:=⟨g,1,none⟩) (Nat.le_refl g) x1).setCell (p:=⟨g,2,none⟩) (Nat.le_refl g) x2).setCell (p:=⟨g,3,none⟩) (Nat.le_refl g) x3).setCell (p:=⟨g,4,none⟩) (Nat.le_refl g) x4).setCell (p:=⟨g,5,none⟩) (Nat.le_refl g) x5 |>.setCell (p:=⟨g,6,none⟩) (Nat.le_refl g) x6
  exact this.output.trans h.output
 ·have:=h.size;simpa using this
 ·exact (bF _ (by omega) _ _ _ _ _ _ _).trans (h.block k hk hn)
theorem OwnR.cellsAt {w:World} {b0:Nat} {yb yoff n cap u:Nat} {l:List (Int × Int)} {x y:Int} (h:OwnR w b0 (.slice (some ⟨yb,yoff,none⟩) n cap) l) (hu:u<n) (hl:l[u]?.getD (0,0)=(x,y)):w.cell? ⟨yb,yoff+u*2,none⟩=some (.int .i64 x)/\w.cell? ⟨yb,yoff+u*2+1,none⟩=some (.int .i64 y):=by
 obtain ⟨yb',yoff',x',y',e,hl',h0,h1⟩:=h.rats.at hu;simp only [Option.some.injEq,Addr.mk.injEq,and_true] at e;obtain ⟨rfl,rfl⟩:=e;rw [hl] at hl';simp only [Prod.mk.injEq] at hl';obtain ⟨rfl,rfl⟩:=hl';exact ⟨h0,h1⟩
section
variable {w0 w:World} {S:Nat} {a:Option Addr} {na ca:Nat} {b:Option Addr} {cb:Nat} {c:Option Addr} {nc cc:Nat} {A:List (List Int)} {B:List Int} {C:List (Int × Int)} {ra:Option Addr} {rc:Nat} {ba:Option Addr} {bc:Nat} {vs:List Value}
set_option maxHeartbeats 32000000 in
theorem qp (h0:LpC w0 a na ca b na cb c nc cc A B C) (ok:okLP A B C=true) (hx:Ext w0 w) (hS:w0.heap.size<=S) (h:bD w S a na ca b na cb c nc cc ra na rc ba na bc vs (bC A B nc) 0 false) :
 Calls Tryz.prog 161 #[.pointer (some ⟨S,0,none⟩)] w fun e w'=>SolW w S a na ca b na cb c nc cc e w' (rawS A B C):=by
 have HX0:=ae hx;have H0:=ae h0;have HS0:=ae h;have hlt:=lt_of_block h.box;obtain ⟨r1,r2,r3,r4,r5,r6⟩:=cg h0 ok;have HLA:=ae (show A.length=na from h0.a.hlen);have HLB:=ae (show B.length=na from h0.b.hlen);have HLC:=ae (show C.length=nc from h0.c.hlen);have TI:=ae (show TInv nc na (fun k j=>vrow (bZ A B k) j) (bC A B nc) by have:=eF ok;rw [HLC.out,HLA.out] at this;exact this)
 have HVC:=ae (show allV C=true by
  rw [gO] at ok;simp only [Bool.and_eq_true] at ok;exact ok.2.2.2.1)
 have ha1:=h0.a.hcap;have ha2:=h0.a.hmax;have hb1:=h0.b.hcap;have hb2:=h0.b.hmax;have hc1:=h0.c.hcap;have hc2:=h0.c.hmax;obtain ⟨W,hW⟩:∃ W,W=w.alloc lrZ:=⟨_,rfl⟩;have XW:=ae (show Ext w W by rw [hW];exact Ext.alloc _ _);have HGB:=ae (show W.heap[w.heap.size]?=some (.cells #[.int .i64 0,.slice none 0 0,.slice none 0 0,.slice none 0 0,.int .i64 0,.int .i64 0,.int .i64 0] 113 (0,0)) by rw [hW];exact aj _ _ _ rfl);have HRB:=ae (fun (w':World) (hm:Mod S W w')=>(hm.block _ (lt_of_block HGB.out) (by omega)).trans HGB.out);have HLP:=ae (fun (w':World) (hm:Mod S W w')=>H0.out.ext (hm.ext (hx.trans XW.out) hS));have HSW:=ae (HS0.out.ext XW.out);clear h0 hx h r3 r4 r5 r6 ok;go_enter Tryz.func161,Tryz.ntmps161
 go_upto_region 1 with fail;rw [<-hW];clear hW;obtain ⟨l0,l1,l2,c0,c1,c2,c3,c4,cf⟩:=HSW.out.cells;have HCO:=ae (lv (HLP.out W (Mod.refl _ _)) true (by omega) (by omega));go_wp2_with fail;refine HCO.out.mono ?_;rintro e w4 ⟨⟨v4,rfl,ho4⟩,hx⟩;obtain ⟨a4,n4,c4',rfl,HN4⟩:=ho4.var;have HS4:=ae (HSW.out.ext hx);have hn4:n4=nc+na:=by have h1:=HN4.out;simp only [fc,if_true,dm,List.length_append,List.length_replicate] at h1;rw [HLC.out] at h1;omega
 have HRUN:=ae (lw HS4.out TI.out (by omega) (by omega) (by omega) ho4 hn4 (nd _ _));have HM4:=ae (Mod.of (S:=S) hx);clear ho4 hx hn4 HN4 l0 l1 l2 c0 c1 c2 c3 c4 cf;go_wp2_with fail;refine HRUN.out.mono ?_;rintro e w5 ⟨hm5,ra5,rn5,rc5,ba5,bn5,bc5,vs5,hp5⟩;have HM5:=ae (HM4.out.trans hm5);obtain ⟨o1,ho1⟩:∃ o,o=aO (dm C.length B.length) 1000 (bC A B C.length):=⟨_,rfl⟩;have hpe:aO (fc true C na) (1000-0) (bC A B nc)=o1:=by rw [ho1,HLC.out,HLB.out];simp only [fc,if_true];rw [HLC.out]
 rw [hpe] at hp5;have HO1:=ae ho1;clear hpe ho1 hm5;obtain ⟨q0,q1,q2,q3,q4,q5,q6,qf⟩:=lbox (HRB.out _ HM5.out);have HMW:=ae ((Mod.of (S:=S) XW.out).trans HM5.out);cases o1 with
 | none =>
   obtain ⟨v5,col5,t5,n5,rfl,hs5⟩:=hp5;have HS5:=ae hs5;have HNO:=ae (show rawS A B C=none by unfold rawS;rw [<-HO1.out];rfl);clear hs5;obtain ⟨l0,l1,l2,c0,c1,c2,c3,c4,cf⟩:=HS5.out.cells;go_wp2_with fail;refine bodyPost_ret (v:=lrW (aL 0) none 0 0 none 0 0 none 0 0) (by simp [results,Tryz.results161,go_sem,q0,q1,q2,q3,q4,q5,q6,qf,aL]) rfl ⟨HMW.out.set7 (Nat.le_refl _) _ _ _ _ _ _ _,?_⟩;rw [HNO.out];exact ⟨aL 0,none,0,0,none,0,0,none,0,0,rfl,_,_,_,_,_,_,_,_,_,HS5.out.set7 (HRB.out _ HM5.out) _ _ _ _ _ _ _⟩
 | some p1 =>
   obtain ⟨v5,rfl,ho5,hs5⟩:=hp5;obtain ⟨a5,n5,c5,rfl,HN5⟩:=ho5.var;have hinv:=dg (t:=bC A B nc) TI.out (show aO (dm C.length B.length) 1000 (bC A B nc)=some p1 by rw [<-HLC.out];exact HO1.out.symm);have HQT:=ae hinv.1;have HQC:=ae (dE HQT.out hinv.2.1).1;have HQL:=ae hinv.2.2;obtain ⟨e1,e2⟩:=bD.same hs5 HQT.out;have e1':=e1.symm;have e2':=e2.symm;clear e1 e2;subst e1';subst e2';have HS5:=ae hs5;have HO5:=ae ho5;clear hs5 ho5 hinv;obtain ⟨u,hu⟩:∃ u,u=nc+na:=⟨_,rfl⟩;have HU:=ae hu;have HN:=ae (show n5=u+1 by have h1:=HN5.out;rw [HQC.out.1] at h1;omega);obtain ⟨yb,yoff,lx,ly,hya,hlv,hy0,hy1⟩:=HO5.out.rats.at (show u<n5 by have:=HN.out;omega);subst hya;have hvv:=HQC.out.2 u (by omega);rw [hlv] at hvv;have hr5a:=HO5.out.rats.hcap;have hr5b:=HO5.out.rats.hmax;have HLV:=ae (show p1.costs[C.length+B.length]?.getD (0,0)=(lx,ly) by rw [HLC.out,HLB.out,<-HU.out];exact hlv);have hwu:IntKind.i64.wrap ((n5:Int)-1)=(u:Int):=by have:=HN.out;rw [IntKind.wrap_i64];omega
   have hu1:(u:Int)<(n5:Int):=by have:=HN.out;omega
   have hu0:(0:Int)<=(u:Int):=by omega
   have HSN:=ae (js lx ly w5);obtain ⟨sg,hsg⟩:∃ s,s=cmpR (lx,ly) (0,1):=⟨_,rfl⟩;have HSG:=ae (show sg<0 ↔ lx<0 by rw [hsg];exact oZ hvv);rw [<-hsg] at HSN;obtain ⟨l0,l1,l2,c0,c1,c2,c3,c4,cf⟩:=HS5.out.cells;clear hsg hlv hu hvv;go_wp2_with fail;refine HSN.out.mono ?_;rintro e w6 ⟨rfl,hx⟩;have HS6:=ae (HS5.out.ext hx);have HO6:=ae (HO5.out.ext hx);have HM6:=ae (HM5.out.trans (Mod.of hx));clear hx hwu hu1 hu0 hy0 hy1 l0 l1 l2 c0 c1 c2 c3 c4 cf q0 q1 q2 q3 q4 q5 q6 qf;obtain ⟨l0,l1,l2,c0,c1,c2,c3,c4,cf⟩:=HS6.out.cells;obtain ⟨q0,q1,q2,q3,q4,q5,q6,qf⟩:=lbox (HRB.out _ HM6.out);by_cases hneg:sg<0
   ·have HRAW:=ae (show rawS A B C=some ⟨2,[],(List.range na).map (cO B (1,1) p1.costs nc),[],(0,0),1000-p1.left⟩ by
     unfold rawS;rw [<-HO1.out];simp only [Option.bind_some];rw [HLV.out,if_pos (HSG.out.1 hneg),HLB.out,HLC.out])
    have HDU:=ae (mL HS6.out HQT.out.cols (HLP.out _ HM6.out).b ha1 ha2 HO6.out.rats (by have:=HN.out;have:=HU.out;omega) (by have:=HN.out;have:=HU.out;omega) 1);go_wp2_with fail;refine HDU.out.mono ?_;rintro e w7 ⟨⟨v7,rfl,ho7⟩,hx⟩;obtain ⟨a7,n7,c7,rfl,HN7⟩:=ho7.var;have HS7:=ae (HS6.out.ext hx);have HM7:=ae (HM6.out.trans (Mod.of hx));have HO7:=ae ho7;have hs67:=HM6.out.size;clear hx ho7 l0 l1 l2 c0 c1 c2 c3 c4 cf q0 q1 q2 q3 q4 q5 q6 qf;obtain ⟨q0,q1,q2,q3,q4,q5,q6,qf⟩:=lbox (HRB.out _ HM7.out);have HMW7:=ae ((Mod.of (S:=S) XW.out).trans HM7.out);have hgl:=lt_of_block HGB.out;go_wp2_with fail;refine bodyPost_ret (v:=lrW ⟨2,[],(List.range na).map (cO B (1,1) p1.costs nc),[],(0,0),0⟩ none 0 0 a7 n7 c7 none 0 0) (by simp [results,Tryz.results161,go_sem,q0,q1,q2,q3,q4,q5,q6,qf]) rfl ⟨HMW7.out.set7 (Nat.le_refl _) _ _ _ _ _ _ _,?_⟩;rw [HRAW.out];refine ⟨none,0,0,a7,n7,c7,none,0,0,rfl,⟨fun W _=>Rats.nilR W,?_,fun W _=>Rats.nilR W⟩,_,_,_,_,_,_,_,_,_,HS7.out.set7 (HRB.out _ HM7.out) _ _ _ _ _ _ _,?_⟩
    ·exact (HO7.out.keep fun i hi=>bF _ (by have:=(HO7.out.lt i hi).1;omega) _ _ _ _ _ _ _).onRats (by omega)
    ·show ((1000-p1.left:Nat):Int)=1000-(p1.left:Int);have:=HQL.out;omega
   ·have HRAW:=ae (show rawS A B C=(aY nc (p1.t,p1.left) na).bind fun s=>(aO (bU C na) s.2 s.1).map fun p2 =>
     if 0<=p2.col then ⟨3,(solT p2.t).take nc,[],rayN p2.t nc p2.col.toNat na,(0,0),1000-p2.left⟩
     else ⟨1,(solT p2.t).take nc,(List.range na).map (cO B (0,1) p2.costs nc),[],negR (p2.costs[nc+na]?.getD (0,0)),1000-p2.left⟩ by
     unfold rawS;rw [<-HO1.out];simp only [Option.bind_some];rw [HLV.out,if_neg (fun h=>hneg (HSG.out.2 h)),HLB.out,HLC.out])
    have HDR:=ae (qo HS6.out HQT.out (by omega) (by omega) (by omega));have HLF:=ae (show 1000-(1000-p1.left)=p1.left by have:=HQL.out;omega);rw [HLF.out] at HDR;go_wp2_with fail;refine HDR.out.mono ?_;rintro e w7 ⟨rfl,hm7,ra7,rn7,rc7,ba7,bn7,bc7,vs7,hl7⟩;have HM7:=ae (HM6.out.trans hm7);clear hm7 l0 l1 l2 c0 c1 c2 c3 c4 cf q0 q1 q2 q3 q4 q5 q6 qf;obtain ⟨q0,q1,q2,q3,q4,q5,q6,qf⟩:=lbox (HRB.out _ HM7.out);have HMW7:=ae ((Mod.of (S:=S) XW.out).trans HM7.out);cases hd:aY nc (p1.t,p1.left) na with
    | none =>
      rw [hd] at hl7;obtain ⟨t7,n7,hs7⟩:=hl7;have HS7:=ae hs7;have HNO:=ae (show rawS A B C=none by rw [HRAW.out,hd];rfl);clear hs7 hd;obtain ⟨l0,l1,l2,c0,c1,c2,c3,c4,cf⟩:=HS7.out.cells;go_wp2_with fail;refine bodyPost_ret (v:=lrW (aL 0) none 0 0 none 0 0 none 0 0) (by simp [results,Tryz.results161,go_sem,q0,q1,q2,q3,q4,q5,q6,qf,aL]) rfl ⟨HMW7.out.set7 (Nat.le_refl _) _ _ _ _ _ _ _,?_⟩;rw [HNO.out];exact ⟨aL 0,none,0,0,none,0,0,none,0,0,rfl,_,_,_,_,_,_,_,_,_,HS7.out.set7 (HRB.out _ HM7.out) _ _ _ _ _ _ _⟩
    | some st =>
      obtain ⟨tt,lf⟩:=st;rw [hd] at hl7;have hdi:=ek (s:=(p1.t,p1.left)) HQT.out hd;have HT:=ae (show TInv nc na _ tt from hdi.1);have hlf:lf<=1000:=by have h1:=hdi.2;have h2:=HQL.out;simp only at h1;omega
      have HD:=ae hd;have hs7:bD w7 S a na ca b na cb c nc cc ra7 rn7 rc7 ba7 bn7 bc7 vs7 tt (1000-lf) false:=hl7;obtain ⟨e1,e2⟩:=bD.same hs7 HT.out;have e1':=e1.symm;have e2':=e2.symm;clear e1 e2 hl7;subst e1';subst e2';have HS7:=ae hs7;clear hs7 hd hdi;obtain ⟨l0,l1,l2,c0,c1,c2,c3,c4,cf⟩:=HS7.out.cells;have HCO2:=ae (lv (HLP.out _ HM7.out) false (by omega) (by omega));go_wp2_with fail;refine HCO2.out.mono ?_;rintro e w8 ⟨⟨v8,rfl,ho8⟩,hx⟩;obtain ⟨a8,n8,c8,rfl,HN8⟩:=ho8.var;have HS8:=ae (HS7.out.ext hx);have HM8:=ae (HM7.out.trans (Mod.of hx));have hn8:n8=nc+na:=by have h1:=HN8.out;simp only [fc,Bool.false_eq_true,if_false,bU,List.length_append,List.length_replicate] at h1;rw [HLC.out] at h1;omega
      have HRUN2:=ae (lw HS8.out HT.out (by omega) (by omega) (by omega) ho8 hn8 (nf HVC.out _));clear ho8 hx hn8 HN8 l0 l1 l2 c0 c1 c2 c3 c4 cf q0 q1 q2 q3 q4 q5 q6 qf;go_wp2_with fail;refine HRUN2.out.mono ?_;rintro e w9 ⟨hm9,ra9,rn9,rc9,ba9,bn9,bc9,vs9,hp9⟩;have HM9:=ae (HM8.out.trans hm9);have hsz8:=HM8.out.size;obtain ⟨o2,ho2⟩:∃ o,o=aO (bU C na) lf tt:=⟨_,rfl⟩;have hpe:aO (fc false C na) (1000-(1000-lf)) tt=o2:=by rw [ho2,show 1000-(1000-lf)=lf by omega];rfl
      rw [hpe] at hp9;have HO2:=ae ho2
      have HRES:=ae (show rawS A B C=o2.map fun p2=>if 0<=p2.col then ⟨3,(solT p2.t).take nc,[],rayN p2.t nc p2.col.toNat na,(0,0),1000-p2.left⟩
       else ⟨1,(solT p2.t).take nc,(List.range na).map (cO B (0,1) p2.costs nc),[],negR (p2.costs[nc+na]?.getD (0,0)),1000-p2.left⟩ by
       rw [HRAW.out,HD.out,Option.bind_some,ho2])
      clear hpe ho2 hm9;obtain ⟨q0,q1,q2,q3,q4,q5,q6,qf⟩:=lbox (HRB.out _ HM9.out);have HMW9:=ae ((Mod.of (S:=S) XW.out).trans HM9.out);cases o2 with
      | none =>
        obtain ⟨v9,col9,t9,n9,rfl,hs9⟩:=hp9;have HS9:=ae hs9;clear hs9;obtain ⟨l0,l1,l2,c0,c1,c2,c3,c4,cf⟩:=HS9.out.cells;go_wp2_with fail;refine bodyPost_ret (v:=lrW (aL 0) none 0 0 none 0 0 none 0 0) (by simp [results,Tryz.results161,go_sem,q0,q1,q2,q3,q4,q5,q6,qf,aL]) rfl ⟨HMW9.out.set7 (Nat.le_refl _) _ _ _ _ _ _ _,?_⟩;rw [HRES.out];exact ⟨aL 0,none,0,0,none,0,0,none,0,0,rfl,_,_,_,_,_,_,_,_,_,HS9.out.set7 (HRB.out _ HM9.out) _ _ _ _ _ _ _⟩
      | some p2 =>
        obtain ⟨v9,rfl,ho9,hs9⟩:=hp9;obtain ⟨a9,n9,c9,rfl,HN9⟩:=ho9.var;have hinv:=dg HT.out (show aO (bU C na) lf tt=some p2 from HO2.out.symm);have HQ2T:=ae hinv.1;have HQC2:=ae (dE HQ2T.out hinv.2.1).1;have HQL2:=ae hinv.2.2;have hcol:=lh HT.out (show aO (bU C na) lf tt=some p2 from HO2.out.symm);obtain ⟨e1,e2⟩:=bD.same hs9 HQ2T.out;have e1':=e1.symm;have e2':=e2.symm;clear e1 e2;subst e1';subst e2';have HS9:=ae hs9;have HO9:=ae ho9;clear hs9 ho9 hinv;have HSOL:=ae (fun (w':World) (hx:Ext w9 w')=>mG (HS9.out.ext hx).tb.tbc HQ2T.out (by omega) (by omega))
        have HSL:=ae (show (solT p2.t).length=nc+na by
         unfold solT;rw [if_pos (HQ2T.out.ok (by omega)),fT,HQ2T.out.cols,HQ2T.out.len];simp)
        obtain ⟨qc,hqc⟩:∃ c,c=p2.col:=⟨_,rfl⟩;rw [Option.map_some,<-hqc] at HRES;rw [<-hqc] at hcol ⊢;have HN9':=ae (show n9=u+1 by have h1:=HN9.out;rw [HQC2.out.1] at h1;have:=HU.out;omega);have HPV:=ae (show ((1000-p2.left:Nat):Int)=1000-(p2.left:Int) by have:=HQL2.out;omega);obtain ⟨l0,l1,l2,c0,c1,c2,c3,c4,cf⟩:=HS9.out.cells;rw [HQ2T.out.cols] at c2;have hs9:=HM9.out.size;clear hqc;go_upto_region 12 with fail;have hk2:Ext w9 w9.drew:=Ext.drew w9;have HKEEP:=ae (fun (w':World) (h:Ext w9 w')=>(⟨h.cellSome c0,h.cellSome c1,h.cellSome c2,h⟩:w'.cell? ⟨S,3,none⟩=some (.slice ra9 na rc9)/\w'.cell? ⟨S,4,none⟩=some (.slice ba9 na bc9)/\w'.cell? ⟨S,5,none⟩=some (.int .i64 (nc:Int))/\Ext w9 w'));refine wp_region_held_drew (S:=(fun w'=>w'.cell? ⟨S,3,none⟩=some (.slice ra9 na rc9)/\w'.cell? ⟨S,4,none⟩=some (.slice ba9 na bc9)/\w'.cell? ⟨S,5,none⟩=some (.int .i64 (nc:Int))/\Ext w9 w')) (by kernel_rfl) ?_ (fun hHeld=>?_)
        ·exact HKEEP.out _ hk2
        refine tk 0 ?_;refine tk 1 ?_;refine tk 2 ?_;refine tk 3 ?_;refine tk 5 ?_;refine tk 6 ?_;refine tk 7 ?_;refine tk 8 ?_;refine tk 9 ?_;refine rd (i:=4) (h:=fun K hK=>?_);go_simp
        (go_at_call 228;refine (HSOL.out _ hk2).mono ?_;rintro e w10 ⟨⟨v10,rfl,ho10⟩,hx10⟩;have hs10:=hk2.size;have hk2:=hk2.trans hx10;obtain ⟨ax,nx,cx,rfl,HNX⟩:=ho10.var;have hcx1:=ho10.rats.hcap;have hcx2:=ho10.rats.hmax;have hcx3:(nc:Int)<=(cx:Int):=(by (have h1:=HNX.out;rw [HSL.out] at h1;omega)))
        go_wp2_with fail;refine hK.out _ _ ?_ (fun hHeld=>?_)
        ·exact HKEEP.out _ hk2
        clear hK K
        try simp only [Act.put,sA,sB,sC]
        refine tk 10 ?_;refine tk 11 ?_;refine wpAnyH_done (by kernel_rfl) ?_ _;have HOX:=ae (ho10.mono hs10);have HNL:=ae (show nc<=nx by have h1:=HNX.out;rw [HSL.out] at h1;omega);have HS10:=ae (HS9.out.ext hk2);have HO10:=ae (HO9.out.ext hk2);have HM10:=ae (HM9.out.trans (Mod.of hk2));have HMW10:=ae ((Mod.of (S:=S) XW.out).trans HM10.out);clear hk2 ho10 l0 l1 l2 c0 c1 c2 c3 c4 cf q0 q1 q2 q3 q4 q5 q6 qf hcx1 hHeld HKEEP;have hgl:=lt_of_block HGB.out
        rcases hcol with hc|⟨jc,hc,hjc⟩
        ·subst hc
         have HRS:=ae (show rawS A B C=some ⟨1,(solT p2.t).take nc,(List.range na).map (cO B (0,1) p2.costs nc),[],negR (p2.costs[nc+na]?.getD (0,0)),1000-p2.left⟩ by
          rw [HRES.out,if_neg (by omega)])
         have HDU:=ae (fun (w':World) (hx:Ext w10 w')=>mL (HS10.out.ext hx) HQ2T.out.cols (HLP.out _ (HM10.out.trans (Mod.of hx))).b ha1 ha2 (HO10.out.ext hx).rats (by have:=HN9'.out;have:=HU.out;omega) (by have:=HN9'.out;have:=HU.out;omega) 0);obtain ⟨yb2,yoff2,vx,vy,hya,hlv,hy0,hy1⟩:=HO10.out.rats.at (show u<n9 by have:=HN9'.out;omega);subst hya;have hvb:=HQC2.out.2 u (by have:=HU.out;omega);rw [hlv] at hvb;have hvb:=bh hvb;have hvx0:-9223372036854775807<=vx:=by have:=hvb.2.2.1;simp only at this;omega
         have hvx1:vx<=9223372036854775807:=by have:=hvb.2.2.2;simp only at this;omega
         have HLV2:=ae hlv;have HVV:=ae (show negR (p2.costs[nc+na]?.getD (0,0))=(-vx,vy) by rw [<-HU.out,hlv];rfl);have hr9a:=HO10.out.rats.hcap;have hr9b:=HO10.out.rats.hmax;have hwu:IntKind.i64.wrap ((n9:Int)-1)=(u:Int):=by have:=HN9'.out;rw [IntKind.wrap_i64];omega
         have hu1:(u:Int)<(n9:Int):=by have:=HN9'.out;omega
         have hu0:(0:Int)<=(u:Int):=by omega
         clear hlv hvb;go_upto_region 15 with fail;have hk2:Ext w10 w10.drew:=Ext.drew w10;have HKEEP:=ae (fun (w':World) (h:Ext w10 w')=>(⟨h.cellSome hy0,h.cellSome hy1,HMW10.out.trans (Mod.of h)⟩:w'.cell? ⟨yb2,yoff2+u*2,none⟩=some (.int .i64 vx)/\w'.cell? ⟨yb2,yoff2+u*2+1,none⟩=some (.int .i64 vy)/\Mod S w w'));refine wp_region_held_drew (S:=(fun w'=>w'.cell? ⟨yb2,yoff2+u*2,none⟩=some (.int .i64 vx)/\w'.cell? ⟨yb2,yoff2+u*2+1,none⟩=some (.int .i64 vy)/\Mod S w w')) (by kernel_rfl) ?_ (fun hHeld=>?_)
         ·exact HKEEP.out _ hk2
         refine tk 0 ?_;refine tk 1 ?_;refine tk 2 ?_;refine tk 4 ?_;refine tk 5 ?_;refine tk 6 ?_;refine tk 7 ?_;refine tk 8 ?_;refine tk 9 ?_;refine rd (i:=3) (h:=fun K hK=>?_);go_simp
         (go_at_call 226;refine (HDU.out _ hk2).mono ?_;rintro e w12 ⟨⟨v12,rfl,ho12⟩,hx12⟩;have hs12:=hk2.size;have hk2:=hk2.trans hx12;obtain ⟨a12,n12,c12,rfl,HN12⟩:=ho12.var;have HO12:=ae (ho12.mono hs12);clear ho12)
         go_wp2_with fail;refine hK.out _ _ ?_ (fun hHeld=>?_)
         ·exact HKEEP.out _ hk2
         clear hK K
         try simp only [Act.put,sA,sB,sC]
         refine rd (i:=10) (h:=fun K hK=>?_);go_simp
         (go_at_call 88;refine (eu vx vy _ hvx0 hvx1).mono ?_;rintro e w13 ⟨rfl,hx13⟩;have hk2:=hk2.trans hx13;have HO13:=ae (HO12.out.ext hx13);have HM13:=ae (HM10.out.trans (Mod.of hk2));have HMW13:=ae (HMW10.out.trans (Mod.of hk2));have HC13:=ae (HO10.out.ext hk2);obtain ⟨q0,q1,q2,q3,q4,q5,q6,qf⟩:=lbox (HRB.out _ HM13.out))
         go_wp2_with fail;refine hK.out _ _ ?_ (fun hHeld=>?_)
         ·exact HKEEP.out _ hk2
         clear hK K
         try simp only [Act.put,sA,sB,sC]
         refine tk 11 ?_
         have HKEND:=ae (fun (x0 x1 x2 x3 x4 x5 x6:Value)=>(show (fun w'=>w'.cell? ⟨yb2,yoff2+u*2,none⟩=some (.int .i64 vx)/\w'.cell? ⟨yb2,yoff2+u*2+1,none⟩=some (.int .i64 vy)/\Mod S w w') (((((((w13.setCell ⟨w.heap.size,0,none⟩ x0).setCell ⟨w.heap.size,1,none⟩ x1).setCell ⟨w.heap.size,2,none⟩ x2).setCell ⟨w.heap.size,3,none⟩ x3).setCell ⟨w.heap.size,4,none⟩ x4).setCell ⟨w.heap.size,5,none⟩ x5).setCell ⟨w.heap.size,6,none⟩ x6) from by
          have hc:=(HC13.out.keep (w':=(((((((w13.setCell ⟨w.heap.size,0,none⟩ x0).setCell ⟨w.heap.size,1,none⟩ x1).setCell ⟨w.heap.size,2,none⟩ x2).setCell ⟨w.heap.size,3,none⟩ x3).setCell ⟨w.heap.size,4,none⟩ x4).setCell ⟨w.heap.size,5,none⟩ x5).setCell ⟨w.heap.size,6,none⟩ x6)) fun k hk=>bF _ (by have:=(HC13.out.lt k hk).1;omega) _ _ _ _ _ _ _).cellsAt (show u<n9 by have:=HN9'.out;omega) HLV2.out
          exact ⟨hc.1,hc.2,HMW13.out.set7 (Nat.le_refl _) _ _ _ _ _ _ _⟩))
         refine rd (i:=12) (h:=fun K hK=>?_);go_simp;refine hK.out _ _ ?_ (fun hHeld=>?_)
         ·exact HKEND.out _ _ _ _ _ _ _
         clear hK K
         try simp only [Act.put,sA,sB,sC]
         refine wpAnyH_done (by kernel_rfl) ?_ _;go_wp2_with fail;refine bodyPost_ret (v:=lrW ⟨1,(solT p2.t).take nc,(List.range na).map (cO B (0,1) p2.costs nc),[],(-vx,vy),0⟩ ax nc cx a12 n12 c12 none 0 0) (by simp [results,Tryz.results161,go_sem,q0,q1,q2,q3,q4,q5,q6,qf]) rfl ⟨HMW13.out.set7 (Nat.le_refl _) _ _ _ _ _ _ _,?_⟩;rw [HRS.out,HVV.out];refine ⟨ax,nc,cx,a12,n12,c12,none,0,0,rfl,⟨?_,?_,fun W _=>Rats.nilR W⟩,_,_,_,_,_,_,_,_,_,(HS10.out.ext hk2).set7 (HRB.out _ HM13.out) _ _ _ _ _ _ _,HPV.out⟩
         ·exact ((HOX.out.ext hk2).keep fun i hi=>bF _ (by have:=(HOX.out.lt i hi).1;omega) _ _ _ _ _ _ _).onTake (by omega) HNL.out
         ·exact (HO13.out.keep fun i hi=>bF _ (by have:=(HO13.out.lt i hi).1;have:=HM10.out.size;omega) _ _ _ _ _ _ _).onRats (by have:=HM10.out.size;omega)
        ·subst hc
         have HRS:=ae (show rawS A B C=some ⟨3,(solT p2.t).take nc,[],rayN p2.t nc jc na,(0,0),1000-p2.left⟩ by
          rw [HRES.out,if_pos (by omega),Int.toNat_natCast])
         have HRY:=ae (s_l7Ray HS10.out HQ2T.out (by omega) (by omega) hjc);go_wp2_with fail;refine HRY.out.mono ?_;rintro e w12 ⟨⟨v12,rfl,ho12⟩,hx12⟩;obtain ⟨a12,n12,c12,rfl,HN12⟩:=ho12.var;have HO12:=ae ho12;have HX12:=ae hx12;have HM12:=ae (HM10.out.trans (Mod.of hx12));have HMW12:=ae (HMW10.out.trans (Mod.of hx12));clear ho12 hx12;obtain ⟨q0,q1,q2,q3,q4,q5,q6,qf⟩:=lbox (HRB.out _ HM12.out);go_wp2_with fail;refine bodyPost_ret (v:=lrW ⟨3,(solT p2.t).take nc,[],rayN p2.t nc jc na,(0,0),0⟩ ax nc cx none 0 0 a12 n12 c12) (by simp [results,Tryz.results161,go_sem,q0,q1,q2,q3,q4,q5,q6,qf]) rfl ⟨HMW12.out.set7 (Nat.le_refl _) _ _ _ _ _ _ _,?_⟩;rw [HRS.out];refine ⟨ax,nc,cx,none,0,0,a12,n12,c12,rfl,⟨?_,fun W _=>Rats.nilR W,?_⟩,_,_,_,_,_,_,_,_,_,(HS10.out.ext HX12.out).set7 (HRB.out _ HM12.out) _ _ _ _ _ _ _,HPV.out⟩
         ·exact ((HOX.out.ext HX12.out).keep fun i hi=>bF _ (by have:=(HOX.out.lt i hi).1;omega) _ _ _ _ _ _ _).onTake (by omega) HNL.out
         ·exact (HO12.out.keep fun i hi=>bF _ (by have:=(HO12.out.lt i hi).1;have:=HM10.out.size;omega) _ _ _ _ _ _ _).onRats (by have:=HM10.out.size;omega)
end
end Go.Proofs.YthjjfkeacobikaaGreat
