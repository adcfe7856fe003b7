import Derived.Test.YtdadoignenffgaaGreatDoorEbAllG26
import Derived.Test.YtdadoignenffgaaGreatDoorEbAllG0
import Derived.Test.YtdadoignenffgaaGreatDoorEbAllG6
import Derived.Test.YtdadoignenffgaaGreatDoorEbAllG3
import Derived.Test.YtdadoignenffgaaGreatDoorEbAllG24
import Derived.Test.YtdadoignenffgaaGreatDoorEbAllG23
set_option linter.unusedVariables false
set_option linter.unusedSimpArgs false
namespace Go.Proofs.YtdadoignenffgaaGreatDoor
variable{w:World}{x:Int}{a:j6}{n:Nat}{l:j7}
set_option maxHeartbeats 16000000
open Go.RowKit
theorem pg{cap:Nat}(h:Ints w a n cap l):
 Calls Tryz.prog 161 #[pair x a n cap] w fun e w'=>e=.returned (.bool (aJ 1 x l))/\Ext w w':=by
 have h1:=h.alloc (.cells #[.int .i64 x,.slice a n cap] 105);have hq:=fun m=>aU (kx 100 (h1.drewN m))
 cases hs:fs l 100
 all_goals
  have HS:=ae hs;rw[hs]at hq;have HQ:=ae hq;clear hq hs;go_enter Tryz.func161,Tryz.ntmps161
  go_wp2
  go_quiet ((first|(go_at_call 212;exact HQ.o _)|(go_at_call 214;exact aU (tM (h1.drewN _)))|(go_at_call 45;exact aU (aZ _ _ _ _))))
  go_wp2
  go_ret;refine⟨ag ?_,aac (Ext.alloc _ _) _⟩;simp only[aJ,HS.o,aad,abH]
theorem mi:IsGo Tryz.prog 211:=isGo Tryz.func211 e9 e9
theorem nj(x:Int)(w:World):Calls Tryz.prog 211 #[.int .i64 x] w fun e w'=>e=.returned (.bool (!r9 x 0 100))/\w=w':=by
 go_enter Tryz.func211,Tryz.ntmps211
 go_wp2_with (first|(go_at_call 61;refine(aq _ _ _ _).mono ?_;rintro e w' ⟨rfl,rfl⟩));go_ret;exact⟨rfl,rfl⟩
theorem kL(w:World):FJ Tryz.prog w 211 #[] (fun x=>!r9 x 0 100) :=
 fun x w1 _=>(nj x w1).mono fun e w' ⟨he,hw⟩=>⟨he,hw▸Ext.refl _⟩
theorem oE{cap:Nat}(h:Ints w a n cap l):
 Calls Tryz.prog 150 #[pair x a n cap] w fun e w'=>e=.returned (.bool (aJ 1 x l))/\Ext w w':=by
 have h1:=h.alloc (.cells #[.int .i64 x,.slice a n cap] 105);have HX:=ae (Ext.alloc w (.cells #[.int .i64 x,.slice a n cap] 105));have HC:=ae (de h1 mi (kL _));have HL:=ae h.hlen;cases zU:r9 n 1 5
 ·have HI:=ae zU;go_enter Tryz.func150,Tryz.ntmps150
  go_wp2_with (first|(go_at_call 61;refine(aq _ _ _ _).mono ?_;rintro e w' ⟨rfl,rfl⟩));go_ret;refine⟨ag ?_,HX.o⟩;simp only[aJ,fs,HL.o,HI.o,Bool.and_false,abH]
 ·have HI:=ae zU;cases hany:l.any (fun x=>!r9 x 0 100)
  all_goals
   have HA:=ae hany;rw[hany]at HC;clear hany;go_enter Tryz.func150,Tryz.ntmps150
   go_wp2_with (first|(go_at_call 61;refine(aq _ _ _ _).mono ?_;rintro e w' ⟨rfl,rfl⟩))
  ·refine HC.o.mono ?_;rintro e w1 ⟨rfl,hx⟩;have hcs:=hx.cells;have yZ:=ae (HX.o.trans hx);have h2:=h1.ext hx;clear hx
   go_wp2
   go_quiet ((first|(go_at_call 210;exact aU (vd (h2.drewN _)))|(go_at_call 61;exact aU (aq _ _ _ _))))
   go_wp2
   go_ret;refine⟨ag ?_,aac yZ.o _⟩;simp only[aJ,io,HL.o,HI.o,HA.o,Bool.not_false,aad]
  ·refine HC.o.mono ?_;rintro e w1 ⟨rfl,hx⟩;have yZ:=ae (HX.o.trans hx);clear hx
   go_wp2
   go_ret;refine⟨ag ?_,yZ.o⟩;simp only[aJ,io,HA.o,Bool.not_true,abH]
def jE(q:Int)(l:j7)(s:Int):Bool:=decide (q<=du s l l.length)
theorem T6{q:Int}{cap:Nat}(s:Int)(h:Ints w a n cap l)(h0:0<=s)(h1:s<=9223372036854775807)(h5:n<=60):
 Calls Tryz.prog 152 #[pair q a n cap,.int .i64 s] w fun e w'=>e=.returned (.bool (jE q l s))/\Ext w w':=by
 have hi:=h.alloc (.cells #[.int .i64 q,.slice a n cap] 105);have HL:=ae h.hlen;go_enter Tryz.func152,Tryz.ntmps152
 go_wp2
 go_quiet ((go_at_call 149;exact aU (qy s (hi.drewN _) h0 h1 h5)))
 go_wp2
 go_ret;exact⟨ag (by unfold jE;rw[HL.o]),aac (Ext.alloc _ _) _⟩
theorem yK{q:Int}{cap:Nat}(s:Int)(h:Ints w a n cap l)(h0:0<=s)(h1:s<=9223372036854775807)(h5:n<=5):
 Calls Tryz.prog 162 #[pair q a n cap,.int .i64 s] w fun e w'=>e=.returned (.bool (jE q l s))/\Ext w w':=by
 have hi:=h.alloc (.cells #[.int .i64 q,.slice a n cap] 105);have HL:=ae h.hlen;go_enter Tryz.func162,Tryz.ntmps162
 go_wp2
 go_loop [5,6] (fun t i=>∃k:Nat,k<=n/\i=.int .i64 k/\t=.int .i64 (du s l k)) (fun _ i=>n-(intOf i).toNat)
 case atStart=>exact⟨0,KJ _,rfl,rfl⟩
 case round =>
  obtain⟨k,hk,rfl,rfl⟩:=hrel;by_cases hlt:k<n
  ·obtain⟨b,off,rfl,hc⟩:=hi.at hlt;have hp:=el s k h0 e7;cases hbit:bit s k
   all_goals
    rw[hbit]at hp;have HB:=ae hbit;clear hbit;go_wp2_with (first|(go_at_call 40;refine(cw _ _ _ h1).mono ?_;rintro e w' ⟨rfl,rfl⟩))
    go_round
    case rel=>exact⟨k+1,by omega,by go_num,by simp only[du,HB.o];rfl⟩
    case measure=>simp[intOf];omega
  ·go_wp2
   go_ret;have G:k=n:=by omega
   subst G;exact⟨ag (by unfold jE;rw[HL.o]),Ext.alloc _ _⟩
theorem gm{lo:Int}(h:aJ lo x l=true):1<=l.length/\l.length<=5:=by
 unfold aJ fs r9 at h;simp only[xf,sw]at h;omega
end Go.Proofs.YtdadoignenffgaaGreatDoor
namespace Go.Proofs.YtdadoignenffgaaGreatDoor
variable{l:j7}{w:World}{a:j6}{n:Nat}{x:Int}
set_option maxHeartbeats 16000000
open Go.RowKit
def kA(q:Int)(l:j7)(s:Nat):Int:=zA (jE q l (s:Int))
def gR(q:Int)(l:j7):Nat:=if aJ 1 q l then l.length else 0
def fL(q:Int)(l:j7):j7:=if aJ 1 q l then Ag (kA q l) (cN l.length) else []
theorem R4(b:Bool):-500<=zA b/\zA b<=500:=by cases b<;>simp[zA]
theorem xi{q:Int}(h:aJ 1 q l=true):jE q l 0=false:=by
 have hq:1<=q:=by unfold aJ r9 at h;simp at h;omega
 have hz:∀k,du 0 l k=0:=by
  intro k
  induction k with
  | zero=>rfl
  | succ k ih=>simp[du,bit,ih]
 unfold jE;rw[hz];simp;omega
theorem pG:IsGo Tryz.prog 151:=isGo Tryz.func151 e9 e9
theorem rD{q:Int}{cap b:Nat}(s:Nat)(h:Ints w a n cap l)(hb:w.heap[b]?=some (.cells #[.int .i64 q,.slice a n cap] 105 (0,0)))(hs:s<32)(h5:n<=5):
 Calls Tryz.prog 151 #[.int .i64 (s:Int),.pointer (some ⟨b,0,none⟩)] w fun e w'=>e=.returned (.int .i64 (kA q l s))/\Ext w w':=by
 have c0:=an hb;have c1:=al hb;have HI:=ae h;clear h hb;cases hw:jE q l (s:Int)
 all_goals
  have HW:=ae hw;go_enter Tryz.func151,Tryz.ntmps151
  go_wp2_with fail;refine(T6 _ HI.o e7 e7 e7).mono ?_;rw[hw];rintro e w1 ⟨rfl,hx⟩
  go_wp2
  go_ret;exact⟨ap (by unfold kA;rw[HW.o];rfl),hx⟩
theorem sE{q:Int}{cap:Nat}(h:Ints w a n cap l):
 Calls Tryz.prog 88 #[pair q a n cap] w fun e w'=>eT w' w.heap.size e (gR q l) (fL q l) (aJ 1 q l)/\Ext w w':=by
 have hi:=h.alloc (.cells #[.int .i64 q,.slice a n cap] 105);have HL:=ae h.hlen;have HV:=ae (oE (x:=q) (hi.ext (Ext.alloc _ (.cells #[.int .i64 0,.slice none 0 0] 32))));have HX:=ae ((Ext.alloc w (.cells #[.int .i64 q,.slice a n cap] 105)).trans (Ext.alloc _ (.cells #[.int .i64 0,.slice none 0 0] 32)));have l9:=h.l9;have l8:=h.l8;cases hv:aJ 1 q l
 ·rw[hv]at HV;have BV:=ae hv;clear hv;go_enter Tryz.func88,Tryz.ntmps88
  go_wp2_with fail;refine HV.o.mono ?_;rintro e w1 ⟨rfl,hx⟩;have I:w1.cell? ⟨w.heap.size+1,0,none⟩=some (.int .i64 0):=hx.j9 e8;have r1:w1.cell? ⟨w.heap.size+1,1,none⟩=some (.slice none 0 0):=hx.j9 e8;have f0:w1.frozen? ⟨w.heap.size+1,0,none⟩=false:=(hx.zq _ _ e8).trans e8;have f1:w1.frozen? ⟨w.heap.size+1,1,none⟩=false:=(hx.zq _ _ e8).trans e8;have yZ:=ae (HX.o.trans hx);clear hx
  go_wp2
  refine bR (v:=.tuple #[.agg #[.int .i64 0,.slice none 0 0],.bool false]) (by simp[results,Tryz.results88,go_sem,I,r1]) rfl ⟨⟨.slice none 0 0,?_,?_⟩,?_⟩
  ·unfold gR;rw[BV.o];rfl
  ·unfold fL;rw[BV.o];exact⟨rfl,.inl ⟨rfl,rfl⟩⟩
  ·exact(yZ.o.setCell e8 _).setCell e8 _
 ·rw[hv]at HV;have BV:=ae hv;have C6:1<=n/\n<=5:=by have:=gm hv;have:=HL.o;omega
  obtain⟨B1,C6⟩:=C6;have hN:=bP n C6;have HI:=ae hi;have HZ:=ae (xi hv);clear hv;go_enter Tryz.func88,Tryz.ntmps88
  go_wp2_with fail;refine HV.o.mono ?_;rintro e w1 ⟨rfl,hx⟩;have c1:w1.cell? ⟨w.heap.size,1,none⟩=some (.slice a n cap):=hx.j9 e8;have HB:=ae (show w1.heap[w.heap.size]?=some (.cells #[.int .i64 q,.slice a n cap] 105 (0,0))from(hx.block _ (by simp;omega)).trans (by rw[aO _ _ _ e8];exact ai _ _ _ rfl));have yZ:=ae hx;have Hp:=ae ((HI.o.ext (Ext.alloc _ _)).ext hx);clear hx;have HT:b7 (iu Tryz.prog w1 151 #[.pointer (some ⟨w.heap.size,0,none⟩)] (cN n) (kA q l)):=ae fun s w2 hs k=>rD s (Hp.o.ext k) ((k.block _ (mr HB.o)).trans HB.o) e7 C6
  have HM:=ae (lq B1 C6 pG HT.o (by unfold kA;rw[show((0:Nat):Int)=0 from rfl,HZ.o];rfl) (fun s _=>R4 _));go_wp2_with fail;refine HM.o.mono ?_;rintro e w2 ⟨⟨v,rfl,ho⟩,hx⟩;obtain⟨a2,J,c2,rfl,Gu⟩:=ho.var;have G:=ae (yZ.o.trans hx);have I:w2.cell? ⟨w.heap.size+1,0,none⟩=some (.int .i64 0):=G.o.j9 e8;have r1:w2.cell? ⟨w.heap.size+1,1,none⟩=some (.slice none 0 0):=G.o.j9 e8;have f0:w2.frozen? ⟨w.heap.size+1,0,none⟩=false:=(G.o.zq _ _ e8).trans e8;have f1:w2.frozen? ⟨w.heap.size+1,1,none⟩=false:=(G.o.zq _ _ e8).trans e8;have HO:=ae ho;have K:=yZ.o.size;simp at K;clear ho hx
  go_wp2
  refine bR (v:=.tuple #[.agg #[.int .i64 (n:Int),.slice a2 J c2],.bool true]) (by simp[results,Tryz.results88,go_sem,I,r1]) rfl ⟨⟨.slice a2 J c2,?_,?_⟩,?_⟩
  ·unfold gR;rw[BV.o,hI rfl,HL.o]
  ·unfold fL;rw[BV.o,hI rfl,HL.o];refine HO.o.mono e7 |>.keep fun j hj=>?_
   have:=(HO.o.lt j hj).1;rw[bB _ _ _ _ (by simp;omega),bB _ _ _ _ (by simp;omega)]
  ·exact((HX.o.trans G.o).setCell e8 _).setCell e8 _
set_option maxRecDepth 100000 in
theorem tK{q:Int}{cap:Nat}(h:Ints w a n cap l):
 Calls Tryz.prog 97 #[pair q a n cap] w fun e w'=>eT w' w.heap.size e (gR q l) (fL q l) (aJ 1 q l)/\Ext w w':=by
 have hi:=h.alloc (.cells #[.int .i64 q,.slice a n cap] 105);have HL:=ae h.hlen;have HV:=ae (pg (x:=q) (hi.ext (Ext.alloc _ (.cells #[.int .i64 0,.slice none 0 0] 32))));have HX:=ae ((Ext.alloc w (.cells #[.int .i64 q,.slice a n cap] 105)).trans (Ext.alloc _ (.cells #[.int .i64 0,.slice none 0 0] 32)));have l9:=h.l9;have l8:=h.l8;cases hv:aJ 1 q l
 ·rw[hv]at HV;have BV:=ae hv;clear hv;go_enter Tryz.func97,Tryz.ntmps97
  go_wp2_with fail;refine HV.o.mono ?_;rintro e w1 ⟨rfl,hx⟩;have J:w1.cell? ⟨w.heap.size+1,0,none⟩=some (.int .i64 0):=hx.j9 e8;have r1:w1.cell? ⟨w.heap.size+1,1,none⟩=some (.slice none 0 0):=hx.j9 e8;have f0:w1.frozen? ⟨w.heap.size+1,0,none⟩=false:=(hx.zq _ _ e8).trans e8;have f1:w1.frozen? ⟨w.heap.size+1,1,none⟩=false:=(hx.zq _ _ e8).trans e8;have yZ:=ae (HX.o.trans hx);clear hx
  go_wp2
  refine bR (v:=.tuple #[.agg #[.int .i64 0,.slice none 0 0],.bool false]) (by simp[results,Tryz.results97,go_sem,J,r1]) rfl ⟨⟨.slice none 0 0,?_,?_⟩,?_⟩
  ·unfold gR;rw[BV.o];rfl
  ·unfold fL;rw[BV.o];exact⟨rfl,.inl ⟨rfl,rfl⟩⟩
  ·exact(yZ.o.setCell e8 _).setCell e8 _
 ·rw[hv]at HV;have BV:=ae hv;have C6:1<=n/\n<=5:=by have:=gm hv;have:=HL.o;omega
  obtain⟨B1,C6⟩:=C6;have hN:=bP n C6;have HI:=ae hi;clear hv h hi;go_enter Tryz.func97,Tryz.ntmps97
  go_wp2_with fail;refine HV.o.mono ?_;rintro e w1 ⟨rfl,hx⟩;have c1:w1.cell? ⟨w.heap.size,1,none⟩=some (.slice a n cap):=hx.j9 e8;have DF:w.heap.size<w1.heap.size:=Kq _ _ c1;have Hw:w.heap.size+1<w1.heap.size:=by have:=hx.size;simp at this;omega
  have yZ:=ae hx;have Hp:=ae ((HI.o.ext (Ext.alloc _ _)).ext hx);clear hx;go_wp2_with (first|(go_at_call 99;refine(kv n C6 _).mono ?_;rintro e w' ⟨rfl,rfl⟩))
  go_loopw [6] (fun i wr=>∃(k:Nat) (a1:j6) (I c1:Nat),k<=cN n/\i=.int .i64 (k:Int)/\b7 (o4 wr (w1.heap.size+1) (.slice a1 I c1) (Ag (kA q l) k))/\b7 (wr.heap[w1.heap.size]?=some (.cells #[.int .i64 (n:Int),.slice a1 I c1] 32 (0,0)))/\b7 (Ext w1 wr)) (fun i _=>cN n-(intOf i).toNat)
  case atStart =>
   refine⟨0,none,0,0,KJ _,rfl,ae (by unfold Ag;exact⟨rfl,.inl ⟨rfl,rfl⟩⟩),ae ?_,ae ?_⟩
   ·exact ai _ _ _ e8
   ·exact Ext.alloc _ _
  case round =>
   obtain⟨k,a1,I,c1,hk,rfl,HO,HB,G⟩:=hrel;have Fh:=an HB.o;have DY:=al HB.o;have K:=mr HB.o;have c0:wr.cell? ⟨w.heap.size,0,none⟩=some (.int .i64 q):=(yZ.o.trans G.o).j9 e8;have c1':wr.cell? ⟨w.heap.size,1,none⟩=some (.slice a n cap):=(yZ.o.trans G.o).j9 e8;by_cases hlt:k<cN n
   ·go_wp2_with fail
    go_region_law (first
     | (refine bI _ rfl (bF _ _ rfl (w1.heap.size+1) _ _ rfl (zv.o.ext (Ext.alloc _ _)) _ 1 _ [kA q l k] rfl (Ints.one _ _ _) (by rw[gW];omega) (by simp;omega) ?_);intro v3 w3 Av EZ Ff;obtain⟨a3,n3,c3,rfl,Ia⟩:=Av.var;have U:=ae Av;have Z:=ae (ak (X1.o.trans (Ext.alloc _ _)) EZ (fun j hj=>by have:=(zv.o.lt j hj).1;omega));have Q:=ae ((EZ.block _ (by simp;omega) (fun e=>by have:=(zv.o.lt _ e.symm).1;omega)).trans (((Ext.alloc w4 _).block _ EW).trans O.o));have cg3:=al Q.o;have fg3:=sd w3 w1.heap.size 1 _ _ Q.o;clear Av EZ Ff)
     | (go_simp;go_at_call 162;refine(yK _ ((Hp.o.ext G.o).ext (Ext.drew wr)) e7 e7 C6).mono ?_;rintro e w4 ⟨rfl,hx⟩;have X1:=ae (G.o.trans ((Ext.drew wr).trans hx));have zv:=ae ((HO.o.ext (Ext.drew wr)).ext hx);have O:=ae (((Ext.drew wr).trans hx).block _ K |>.trans HB.o);have b1:=al O.o;have EW:=mr O.o;clear hx)
     | (go_simp;go_at_call 104;refine(fk _ _).mono ?_;rintro e w' ⟨rfl,rfl⟩))
    all_goals
     go_wp2
     go_roundw
     case rel =>
      refine⟨k+1,a3,n3,c3,by omega,by go_num,ae ?_,ae (jU Q.o),ae (Z.o.setCell e8 _)⟩;rw[il];exact U.o.keep fun j hj=>bB _ _ _ _ (by have:=(U.o.lt j hj).1;simp;omega)
     case measure=>simp[intOf];omega
   ·have zQ:k=cN n:=by omega
    subst zQ;have J:wr.cell? ⟨w.heap.size+1,0,none⟩=some (.int .i64 0):=(yZ.o.trans G.o).j9 e8;have r1:wr.cell? ⟨w.heap.size+1,1,none⟩=some (.slice none 0 0):=(yZ.o.trans G.o).j9 e8;have f0:wr.frozen? ⟨w.heap.size+1,0,none⟩=false:=((yZ.o.trans G.o).zq _ _ e8).trans e8;have f1:wr.frozen? ⟨w.heap.size+1,1,none⟩=false:=((yZ.o.trans G.o).zq _ _ e8).trans e8
    go_wp2
    refine bR (v:=.tuple #[.agg #[.int .i64 (n:Int),.slice a1 I c1],.bool true]) (by simp[results,Tryz.results97,go_sem,J,r1]) rfl ⟨⟨.slice a1 I c1,?_,?_⟩,?_⟩
    ·unfold gR;rw[BV.o,hI rfl,HL.o]
    ·unfold fL;rw[BV.o,hI rfl,HL.o];refine HO.o.mono e7 |>.keep fun j hj=>?_
     have:=(HO.o.lt j hj).1;rw[bB _ _ _ _ (by simp;omega),bB _ _ _ _ (by simp;omega)]
    ·exact((HX.o.trans (yZ.o.trans G.o)).setCell e8 _).setCell e8 _
theorem pe{cap:Nat}(h:Ints w a n cap l):
 Calls Tryz.prog 160 #[pair x a n cap] w fun e w'=>e=.returned (.bool (aJ 0 x l))/\Ext w w':=by
 have h1:=h.alloc (.cells #[.int .i64 x,.slice a n cap] 102);have hq:=fun m=>aU (kx 100 (h1.drewN m))
 cases hs:fs l 100
 all_goals
  have HS:=ae hs;rw[hs]at hq;have HQ:=ae hq;clear hq hs;go_enter Tryz.func160,Tryz.ntmps160
  go_wp2
  go_quiet ((first|(go_at_call 212;exact HQ.o _)|(go_at_call 214;exact aU (tM (h1.drewN _)))|(go_at_call 45;exact aU (aZ _ _ _ _))))
  go_wp2
  go_ret;refine⟨ag ?_,aac (Ext.alloc _ _) _⟩;simp only[aJ,HS.o,aad,abH]
theorem me:IsGo Tryz.prog 209:=isGo Tryz.func209 e9 e9
theorem nh(x:Int)(w:World):Calls Tryz.prog 209 #[.int .i64 x] w fun e w'=>e=.returned (.bool (!r9 x 0 100))/\w=w':=by
 go_enter Tryz.func209,Tryz.ntmps209
 go_wp2_with (first|(go_at_call 61;refine(aq _ _ _ _).mono ?_;rintro e w' ⟨rfl,rfl⟩));go_ret;exact⟨rfl,rfl⟩
theorem kK(w:World):FJ Tryz.prog w 209 #[] (fun x=>!r9 x 0 100) :=
 fun x w1 _=>(nh x w1).mono fun e w' ⟨he,hw⟩=>⟨he,hw▸Ext.refl _⟩
theorem oD{cap:Nat}(h:Ints w a n cap l):
 Calls Tryz.prog 147 #[pair x a n cap] w fun e w'=>e=.returned (.bool (aJ 0 x l))/\Ext w w':=by
 have h1:=h.alloc (.cells #[.int .i64 x,.slice a n cap] 102);have HX:=ae (Ext.alloc w (.cells #[.int .i64 x,.slice a n cap] 102));have HC:=ae (de h1 me (kK _));have HL:=ae h.hlen;cases zU:r9 n 1 5
 ·have HI:=ae zU;go_enter Tryz.func147,Tryz.ntmps147
  go_wp2_with (first|(go_at_call 61;refine(aq _ _ _ _).mono ?_;rintro e w' ⟨rfl,rfl⟩));go_ret;refine⟨ag ?_,HX.o⟩;simp only[aJ,fs,HL.o,HI.o,Bool.and_false,abH]
 ·have HI:=ae zU;cases hany:l.any (fun x=>!r9 x 0 100)
  all_goals
   have HA:=ae hany;rw[hany]at HC;clear hany;go_enter Tryz.func147,Tryz.ntmps147
   go_wp2_with (first|(go_at_call 61;refine(aq _ _ _ _).mono ?_;rintro e w' ⟨rfl,rfl⟩))
  ·refine HC.o.mono ?_;rintro e w1 ⟨rfl,hx⟩;have hcs:=hx.cells;have yZ:=ae (HX.o.trans hx);have h2:=h1.ext hx;clear hx
   go_wp2
   go_quiet ((first|(go_at_call 210;exact aU (vd (h2.drewN _)))|(go_at_call 61;exact aU (aq _ _ _ _))))
   go_wp2
   go_ret;refine⟨ag ?_,aac yZ.o _⟩;simp only[aJ,io,HL.o,HI.o,HA.o,Bool.not_false,aad]
  ·refine HC.o.mono ?_;rintro e w1 ⟨rfl,hx⟩;have yZ:=ae (HX.o.trans hx);clear hx
   go_wp2
   go_ret;refine⟨ag ?_,yZ.o⟩;simp only[aJ,io,HA.o,Bool.not_true,abH]
theorem Nd:∀n:Fin 6,∀s:Fin 32,s.val<cN n.val->bits .andNot .i64 ((cN n.val:Int)-1) ((s.val:Nat):Int)=(cN n.val:Int)-1-((s.val:Nat):Int):=by decide +kernel
theorem yz(n s:Nat)(hn:n<=5)(hs:s<cN n):bits .andNot .i64 ((cN n:Int)-1) (s:Int)=(cN n:Int)-1-(s:Int):=Nd ⟨n,by omega⟩ ⟨s,by have:=bP n hn;omega⟩ hs
theorem tw:∀n:Fin 6,∀s:Fin 32,∀k:Fin 5,s.val<cN n.val->k.val<n.val->bit ((cN n.val:Int)-1-((s.val:Nat):Int)) k.val=!bit ((s.val:Nat):Int) k.val:=by decide +kernel
theorem Nf(n s k:Nat)(hn:n<=5)(hs:s<cN n)(hk:k<n):bit ((cN n:Int)-1-(s:Int)) k=!bit (s:Int) k:=tw ⟨n,by omega⟩ ⟨s,by have:=bP n hn;omega⟩ ⟨k,by omega⟩ hs hk
theorem jm{l:j7}(h:∀i:Nat,0<=l[i]?.getD 0/\l[i]?.getD 0<=100)(c:Int):∀k,k<=1000->0<=du c l k/\du c l k<=100*k
 | 0,_=>by simp[du]
 | k+1,hk=>by
   have ih:=jm h c k e7;have hx:=h k;unfold du
   split
   ·unfold wrap64;omega
   ·omega
theorem xd(h:∀i:Nat,0<=l[i]?.getD 0/\l[i]?.getD 0<=100)(c:Int)(k:Nat)(hk:k<=1000):du c l (k+1)=(if bit c k then du c l k+l[k]?.getD 0 else du c l k):=by
 have:=jm h c k hk;have hx:=h k;rw[du]
 split
 ·unfold wrap64;omega
 ·rfl
theorem vF:∀(l:j7) (acc A:Int),(∀x∈l,0<=x/\x<=100)->0<=acc->acc<=A->A+100*l.length<=1000000->l.foldl (fun a x=>wrap64 (a+x)) acc<=A+100*l.length
 | [],acc,A,_,_,h,_=>by simpa using h
 | x::l,acc,A,hx,h0,h,hA=>by
   have h1:=hx x abx;simp only[adG,OX]at *;have hw:wrap64 (acc+x)=acc+x:=by unfold wrap64;omega
   rw[hw];have:=vF l (acc+x) (A+100) (fun y hy=>hx y (abj _ hy)) e7 e7 e7;omega
theorem lI{lo:Int}(h:aJ lo x l=true):(∀i:Nat,0<=l[i]?.getD 0/\l[i]?.getD 0<=100)/\lo<=x/\x<=500:=by
 have hlen:=gm h;unfold aJ fs at h;simp only[xf]at h;have Ap:∀y∈l,0<=y/\y<=100:=fun y hy=>by
  have:=Di.1 h.1.1 y hy;unfold r9 at this
  simpa using this
 refine⟨fun i=>?_,?_⟩
 ·by_cases hi:i<l.length
  ·have:=Ap _ (vl hi)
   simpa[hi]using this
  ·simp[G4 (by omega:l.length<=i)]
 ·have hb:lo<=x/\x<=GI l:=by have:=h.2;unfold r9 at this;simpa using this
  have:=vF l 0 0 Ap e7 e7 e7;unfold GI at hb;omega
def Ji(a b:Int):Int:=if a > b then a else b
def fU(q:Int)(l:j7)(s:Nat):Int:=Ji 0 (q-du ((cN l.length:Int)-1-(s:Int)) l l.length)*zA (decide (0<s))
def gu(q:Int)(l:j7):Nat:=if aJ 0 q l then l.length else 0
def fD(q:Int)(l:j7):j7:=if aJ 0 q l then Ag (fU q l) (cN l.length) else []
theorem mS{q:Int}(h:aJ 0 q l=true)(s:Nat):0<=fU q l s/\fU q l s<=500:=by
 have hv:=lI h;have hl:=gm h;have hs:=jm hv.1 ((cN l.length:Int)-1-(s:Int)) l.length e7;unfold fU Ji;cases decide (0<s)<;>simp[zA]<;>split<;>omega
theorem oa{q:Int}(h:aJ 0 q l=true)(s:Nat):IntKind.i64.wrap (Ji 0 (q-du ((cN l.length:Int)-1-(s:Int)) l l.length)*zA (decide (0<s)))=fU q l s:=by
 have:=mS h s;have he:Ji 0 (q-du ((cN l.length:Int)-1-(s:Int)) l l.length)*zA (decide (0<s))=fU q l s:=rfl;rw[he,cn];omega
theorem kZ:IsGo Tryz.prog 148:=isGo aeG e9 e9
theorem ml{q:Int}{cap b J:Nat}(s:Nat)(h:Ints w a n cap l)(hb:w.heap[b]?=some (.cells #[.int .i64 q,.slice a n cap] 102 (0,0)))(K2:w.cell? ⟨J,0,none⟩=some (.int .i64 ((cN n:Int)-1)))(hv:aJ 0 q l=true)(hs:s<cN n)(h5:n<=5):
 Calls Tryz.prog 148 #[.int .i64 (s:Int),.pointer (some ⟨b,0,none⟩),.pointer (some ⟨J,0,none⟩)] w fun e w'=>e=.returned (.int .i64 (fU q l s))/\Ext w w':=by
 have c0:=an hb;have c1:=al hb;have HI:=ae h;have HL:=ae h.hlen;have HC:=ae (yz n s h5 hs);have hN:=bP n h5;have Ap:=lI hv;have I:=jm Ap.1 ((cN n:Int)-1-(s:Int)) n e7;have hq:=Ap.2;have HF:=ae (oa hv s);have Bu:=ae (mS hv s);by_cases h0:s=0
 ·subst h0;clear h hb hv Ap I;go_enter aeG,Tryz.ntmps148
  go_wp2_with fail;go_ret;exact⟨ap (by unfold fU;simp[zA]),Ext.refl _⟩
 ·have G:decide (0<s)=true:=by simp;omega
  have Hj:=ae G;clear h hb hv Ap G;go_enter aeG,Tryz.ntmps148
  go_wp2
  go_quiet ((go_at_call 149;rw[HC.o];exact aU (qy _ (HI.o.drewN _) e7 e7 e7)))
  go_wp2
  all_goals
   go_ret;refine⟨ap ?_,aac (Ext.refl _) _⟩;unfold fU Ji;rw[HL.o,Hj.o];simp only[zA,abk,Int.mul_one]
   split<;>omega
theorem nd{q:Int}{cap:Nat}(h:Ints w a n cap l):
 Calls Tryz.prog 87 #[pair q a n cap] w fun e w'=>eT w' w.heap.size e (gu q l) (fD q l) (aJ 0 q l)/\Ext w w':=by
 have hi:=h.alloc (.cells #[.int .i64 q,.slice a n cap] 102);have HL:=ae h.hlen;have HV:=ae (oD (x:=q) (hi.ext (Ext.alloc _ (.cells #[.int .i64 0,.slice none 0 0] 32))));have HX:=ae ((Ext.alloc w (.cells #[.int .i64 q,.slice a n cap] 102)).trans (Ext.alloc _ (.cells #[.int .i64 0,.slice none 0 0] 32)));have l9:=h.l9;have l8:=h.l8;cases hv:aJ 0 q l
 ·rw[hv]at HV;have BV:=ae hv;clear hv;go_enter Tryz.func87,Tryz.ntmps87
  go_wp2_with fail;refine HV.o.mono ?_;rintro e w1 ⟨rfl,hx⟩;have I:w1.cell? ⟨w.heap.size+1,0,none⟩=some (.int .i64 0):=hx.j9 e8;have r1:w1.cell? ⟨w.heap.size+1,1,none⟩=some (.slice none 0 0):=hx.j9 e8;have f0:w1.frozen? ⟨w.heap.size+1,0,none⟩=false:=(hx.zq _ _ e8).trans e8;have f1:w1.frozen? ⟨w.heap.size+1,1,none⟩=false:=(hx.zq _ _ e8).trans e8;have yZ:=ae (HX.o.trans hx);clear hx
  go_wp2
  refine bR (v:=.tuple #[.agg #[.int .i64 0,.slice none 0 0],.bool false]) (by simp[results,Tryz.results87,go_sem,I,r1]) rfl ⟨⟨.slice none 0 0,?_,?_⟩,?_⟩
  ·unfold gu;rw[BV.o];rfl
  ·unfold fD;rw[BV.o];exact⟨rfl,.inl ⟨rfl,rfl⟩⟩
  ·exact(yZ.o.setCell e8 _).setCell e8 _
 ·rw[hv]at HV;have BV:=ae hv;have C6:1<=n/\n<=5:=by have:=gm hv;have:=HL.o;omega
  obtain⟨B1,C6⟩:=C6;have hN:=bP n C6;have HI:=ae hi;have Eg:=ae hv;have hint:IntKind.i64.wrap ((cN n:Int)-1)=(cN n:Int)-1:=by rw[cn];omega
  clear hv;go_enter Tryz.func87,Tryz.ntmps87
  go_wp2_with fail;refine HV.o.mono ?_;rintro e w1 ⟨rfl,hx⟩;have c1:w1.cell? ⟨w.heap.size,1,none⟩=some (.slice a n cap):=hx.j9 e8;have HB:=ae (show w1.heap[w.heap.size]?=some (.cells #[.int .i64 q,.slice a n cap] 102 (0,0))from(hx.block _ (by simp;omega)).trans (by rw[aO _ _ _ e8];exact ai _ _ _ rfl));have yZ:=ae hx;have Hp:=ae ((HI.o.ext (Ext.alloc _ _)).ext hx);clear hx;have DF:w.heap.size<w1.heap.size:=Kq _ _ c1;have LN:=ae (Ext.alloc w1 (.cells #[.int .i64 ((cN n:Int)-1)] 3));have HT:b7 (iu Tryz.prog (w1.alloc (.cells #[.int .i64 ((cN n:Int)-1)] 3)) 148 #[.pointer (some ⟨w.heap.size,0,none⟩),.pointer (some ⟨w1.heap.size,0,none⟩)] (cN n) (fU q l)):=ae fun s w2 hs k =>
   ml s ((Hp.o.ext LN.o).ext k) (((LN.o.trans k).block _ (mr HB.o)).trans HB.o) (k.j9 e8) Eg.o hs C6
  have HM:=ae (lq B1 C6 kZ HT.o (by unfold fU;simp[zA]) (fun s _=>by have:=mS Eg.o s;omega));go_wp2_with (first|(go_at_call 143;refine(si n C6 _).mono ?_;rintro e w' ⟨rfl,rfl⟩));refine HM.o.mono ?_;rintro e w2 ⟨⟨v,rfl,ho⟩,hx⟩;obtain⟨a2,J,c2,rfl,Gu⟩:=ho.var;have G:=ae ((yZ.o.trans LN.o).trans hx);have I:w2.cell? ⟨w.heap.size+1,0,none⟩=some (.int .i64 0):=G.o.j9 e8;have r1:w2.cell? ⟨w.heap.size+1,1,none⟩=some (.slice none 0 0):=G.o.j9 e8;have f0:w2.frozen? ⟨w.heap.size+1,0,none⟩=false:=(G.o.zq _ _ e8).trans e8;have f1:w2.frozen? ⟨w.heap.size+1,1,none⟩=false:=(G.o.zq _ _ e8).trans e8;have HO:=ae ho;have K:=yZ.o.size;simp at K;clear ho hx
  go_wp2
  refine bR (v:=.tuple #[.agg #[.int .i64 (n:Int),.slice a2 J c2],.bool true]) (by simp[results,Tryz.results87,go_sem,I,r1]) rfl ⟨⟨.slice a2 J c2,?_,?_⟩,?_⟩
  ·unfold gu;rw[BV.o,hI rfl,HL.o]
  ·unfold fD;rw[BV.o,hI rfl,HL.o];refine HO.o.mono (by simp;omega) |>.keep fun j hj=>?_
   have:=(HO.o.lt j hj).1;simp at this;rw[bB _ _ _ _ (by simp;omega),bB _ _ _ _ (by simp;omega)]
  ·exact((HX.o.trans G.o).setCell e8 _).setCell e8 _
theorem QV(x y:Int)(w:World):Calls Tryz.prog 156 #[.int .i64 x,.int .i64 y] w fun e w'=>e=.returned (.int .i64 (Ji x y))/\w=w':=by
 by_cases h:x > y
 all_goals
  have H:=ae h;go_enter Tryz.func156,Tryz.ntmps156
  go_wp2_with fail;go_ret;exact⟨ap (by unfold Ji;first|(rw[hI H.o])|(rw[hD (j1 H.o)])),rfl⟩
set_option maxRecDepth 100000 in
theorem nD{q:Int}{cap:Nat}(h:Ints w a n cap l):
 Calls Tryz.prog 96 #[pair q a n cap] w fun e w'=>eT w' w.heap.size e (gu q l) (fD q l) (aJ 0 q l)/\Ext w w':=by
 have hi:=h.alloc (.cells #[.int .i64 q,.slice a n cap] 102);have HL:=ae h.hlen;have HV:=ae (pe (x:=q) (hi.ext (Ext.alloc _ (.cells #[.int .i64 0,.slice none 0 0] 32))));have HX:=ae ((Ext.alloc w (.cells #[.int .i64 q,.slice a n cap] 102)).trans (Ext.alloc _ (.cells #[.int .i64 0,.slice none 0 0] 32)));have l9:=h.l9;have l8:=h.l8;cases hv:aJ 0 q l
 ·rw[hv]at HV;have BV:=ae hv;clear hv;go_enter Tryz.func96,Tryz.ntmps96
  go_wp2_with fail;refine HV.o.mono ?_;rintro e w1 ⟨rfl,hx⟩;have J:w1.cell? ⟨w.heap.size+1,0,none⟩=some (.int .i64 0):=hx.j9 e8;have r1:w1.cell? ⟨w.heap.size+1,1,none⟩=some (.slice none 0 0):=hx.j9 e8;have f0:w1.frozen? ⟨w.heap.size+1,0,none⟩=false:=(hx.zq _ _ e8).trans e8;have f1:w1.frozen? ⟨w.heap.size+1,1,none⟩=false:=(hx.zq _ _ e8).trans e8;have yZ:=ae (HX.o.trans hx);clear hx
  go_wp2
  refine bR (v:=.tuple #[.agg #[.int .i64 0,.slice none 0 0],.bool false]) (by simp[results,Tryz.results96,go_sem,J,r1]) rfl ⟨⟨.slice none 0 0,?_,?_⟩,?_⟩
  ·unfold gu;rw[BV.o];rfl
  ·unfold fD;rw[BV.o];exact⟨rfl,.inl ⟨rfl,rfl⟩⟩
  ·exact(yZ.o.setCell e8 _).setCell e8 _
 ·rw[hv]at HV;have BV:=ae hv;have C6:1<=n/\n<=5:=by have:=gm hv;have:=HL.o;omega
  obtain⟨B1,C6⟩:=C6;have hN:=bP n C6;have HI:=ae hi;have Eg:=ae hv;have Ap:=lI hv;have Q:=ae Ap.1;have hq:=Ap.2;clear hv h hi Ap;go_enter Tryz.func96,Tryz.ntmps96
  go_wp2_with fail;refine HV.o.mono ?_;rintro e w1 ⟨rfl,hx⟩;have c1:w1.cell? ⟨w.heap.size,1,none⟩=some (.slice a n cap):=hx.j9 e8;have DF:w.heap.size<w1.heap.size:=Kq _ _ c1;have Hw:w.heap.size+1<w1.heap.size:=by have:=hx.size;simp at this;omega
  have yZ:=ae hx;have Hp:=ae ((HI.o.ext (Ext.alloc _ _)).ext hx);clear hx;go_wp2_with (first|(go_at_call 99;refine(kv n C6 _).mono ?_;rintro e w' ⟨rfl,rfl⟩))
  go_loopw [6] (fun i wr=>∃(k:Nat) (a1:j6) (I c1:Nat),k<=cN n/\i=.int .i64 (k:Int)/\b7 (o4 wr (w1.heap.size+1) (.slice a1 I c1) (Ag (fU q l) k))/\b7 (wr.heap[w1.heap.size]?=some (.cells #[.int .i64 (n:Int),.slice a1 I c1] 32 (0,0)))/\b7 (Ext w1 wr)) (fun i _=>cN n-(intOf i).toNat)
  case atStart =>
   refine⟨0,none,0,0,KJ _,rfl,ae (by unfold Ag;exact⟨rfl,.inl ⟨rfl,rfl⟩⟩),ae ?_,ae ?_⟩
   ·exact ai _ _ _ e8
   ·exact Ext.alloc _ _
  case round =>
   obtain⟨k,a1,I,c1,hk,rfl,HO,HB,G⟩:=hrel;have Fh:=an HB.o;have DY:=al HB.o;have K:=mr HB.o;have c0:wr.cell? ⟨w.heap.size,0,none⟩=some (.int .i64 q):=(yZ.o.trans G.o).j9 e8;have c1':wr.cell? ⟨w.heap.size,1,none⟩=some (.slice a n cap):=(yZ.o.trans G.o).j9 e8;by_cases hlt:k<cN n
   ·have HF:=ae (oa Eg.o k);go_wp2_with fail
    go_loopw [7,8] (fun t i ws=>∃j:Nat,j<=n/\i=.int .i64 (j:Int)/\t=.int .i64 (q-du ((cN n:Int)-1-(k:Int)) l j)/\ws=wr) (fun _ i _=>n-(intOf i).toNat)
    case atStart=>exact⟨0,KJ _,rfl,by simp[du],rfl⟩
    case round =>
     obtain⟨j,hj,rfl,rfl,rfl⟩:=hrel;have hst:=jm Q.o ((cN n:Int)-1-(k:Int)) j e7;by_cases Ca:j<n
     ·have HP:=ae (el (k:Int) j e7 e7);have HS:=ae (xd Q.o ((cN n:Int)-1-(k:Int)) j e7);have HR:=ae (Nf n k j C6 hlt Ca);obtain⟨bb,off,rfl,hc⟩:=(Hp.o.ext G.o).at Ca;have zK:=Q.o j;cases hbit:bit (k:Int) j
      all_goals
       have Md:=ae hbit;clear hbit;go_wp2_with (first|(go_at_call 40;refine(cw _ _ _ e7).mono ?_;rw[HP.o,Md.o];rintro e w' ⟨rfl,rfl⟩))
       go_roundw
       case rel=>exact⟨j+1,by omega,by go_num,by rw[HS.o,HR.o,Md.o];simp<;>omega,by simp⟩
       case measure=>simp[intOf];omega
     ·have O:j=n:=by omega
      subst O
      go_wp2
      go_region_law (first
       | (refine bI _ rfl (bF _ _ rfl (w1.heap.size+1) _ _ rfl ((HO.o.ext (Ext.alloc _ _)).ext (Ext.drew _)) _ 1 _ [IntKind.i64.wrap (Ji 0 (q-du ((cN j:Int)-1-(k:Int)) l j)*zA (decide (0<k)))] rfl ((Ints.one _ _ _).ext (Ext.drew _)) (by rw[gW];omega) (by simp;omega) ?_);intro v3 w3 Av EZ Ff;obtain⟨a3,n3,c3,rfl,Ia⟩:=Av.var;have Z:=ae Av;have zk:=ae (ak ((G.o.trans (Ext.alloc _ _)).trans (Ext.drew _)) EZ (fun j hj=>by have:=(HO.o.lt j hj).1;omega));have U:=ae ((EZ.block _ (by simp;omega) (fun e=>by have:=(HO.o.lt _ e.symm).1;omega)).trans (((Ext.alloc wr _).trans (Ext.drew _)).block _ K |>.trans HB.o));have cg3:=al U.o;have fg3:=sd w3 w1.heap.size 1 _ _ U.o;clear Av EZ Ff)
       | (go_simp;go_at_call 156;refine(QV _ _ _).mono ?_;rintro e w' ⟨rfl,rfl⟩)
       | (go_simp;go_at_call 104;refine(fk _ _).mono ?_;rintro e w' ⟨rfl,rfl⟩))
      all_goals
       go_wp2
       go_roundw
       case rel =>
        refine⟨k+1,a3,n3,c3,by omega,by go_num,ae ?_,ae (jU U.o),ae (zk.o.setCell e8 _)⟩;rw[il];have hf:=HF.o;rw[HL.o]at hf;rw[<-hf];exact Z.o.keep fun j hj=>bB _ _ _ _ (by have:=(Z.o.lt j hj).1;simp;omega)
       case measure=>simp[intOf];omega
   ·have zQ:k=cN n:=by omega
    subst zQ;have J:wr.cell? ⟨w.heap.size+1,0,none⟩=some (.int .i64 0):=(yZ.o.trans G.o).j9 e8;have r1:wr.cell? ⟨w.heap.size+1,1,none⟩=some (.slice none 0 0):=(yZ.o.trans G.o).j9 e8;have f0:wr.frozen? ⟨w.heap.size+1,0,none⟩=false:=((yZ.o.trans G.o).zq _ _ e8).trans e8;have f1:wr.frozen? ⟨w.heap.size+1,1,none⟩=false:=((yZ.o.trans G.o).zq _ _ e8).trans e8
    go_wp2
    refine bR (v:=.tuple #[.agg #[.int .i64 (n:Int),.slice a1 I c1],.bool true]) (by simp[results,Tryz.results96,go_sem,J,r1]) rfl ⟨⟨.slice a1 I c1,?_,?_⟩,?_⟩
    ·unfold gu;rw[BV.o,hI rfl,HL.o]
    ·unfold fD;rw[BV.o,hI rfl,HL.o];refine HO.o.mono e7 |>.keep fun j hj=>?_
     have:=(HO.o.lt j hj).1;rw[bB _ _ _ _ (by simp;omega),bB _ _ _ _ (by simp;omega)]
    ·exact((HX.o.trans (yZ.o.trans G.o)).setCell e8 _).setCell e8 _
