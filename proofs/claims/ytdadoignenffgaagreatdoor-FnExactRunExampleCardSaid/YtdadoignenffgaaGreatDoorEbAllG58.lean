import Derived.Test.YtdadoignenffgaaGreatDoorEbAllG52
import Derived.Test.YtdadoignenffgaaGreatDoorEbAllG53
import Derived.Test.YtdadoignenffgaaGreatDoorEbAllG28
import Derived.Test.YtdadoignenffgaaGreatDoorEbAllG54
import Derived.Test.YtdadoignenffgaaGreatDoorEbAllG55
import Derived.Test.YtdadoignenffgaaGreatDoorEbAllG33
import Derived.Test.YtdadoignenffgaaGreatDoorEbAllG34
import Derived.Test.YtdadoignenffgaaGreatDoorEbAllG56
import Derived.Test.YtdadoignenffgaaGreatDoorEbAllG39
import Derived.Test.YtdadoignenffgaaGreatDoorEbAllG43
set_option linter.unusedVariables false
set_option linter.unusedSimpArgs false
namespace Go.Proofs.YtdadoignenffgaaGreatDoor
set_option maxHeartbeats 16000000
set_option maxRecDepth 100000
open Go.RowKit
def Zv(p:Nat)(V:j7):Int:=em (aL (p:Int) V) (bY (p:Int) V) (bD ar (cV (p:Int).toNat V.length) (dk (p:Int).toNat) (bG V))
theorem rK(ok:Bool)(g:Int)(r:BQ):∃c:Nat,c<4/\em ok g r=(c:Int):=by
 unfold em
 repeat' split
 all_goals first|exact⟨0,by decide,rfl⟩|exact⟨1,by decide,rfl⟩|exact⟨2,by decide,rfl⟩|exact⟨3,by decide,rfl⟩
def pl(p:Nat)(V:j7):List UInt8 :=
 gZ (Zv p V)++([32,115,104,97,112,108,101,121,32]++(D3 (gL (p:Int) V)++([32,110,117,99,108,101,111,108,117,115,32]++D3 (CN (p:Int) V).pt)))
def eg(t:List UInt8):List UInt8 :=
 if 0<=(di t).2 then [101,114,114,111,114,32]++Lib.itoa (di t).2 else pl (di t).1.1 (di t).1.2
theorem qO(t:List UInt8)(ht:t.length<=1048576):-1<=(di t).2/\(di t).2<=2000000:=by
 have hl:(dG t).length<=1048577:=by
  have:=lF 10 t;unfold dG
  split
  ·rw[FX];omega
  ·omega
 rw[jF];unfold fQ
 split
 ·decide
 ·split
  ·decide
  ·split
   ·next e =>
    have hk:∀(N:Nat) (D:List (List UInt8)) (m k:Nat),ch N D m=.error k->k<=m:=by
     intro N D m
     induction m with
     | zero=>intro k h;cases h
     | succ m ih =>
       intro k h;rw[ch]at h
       split at h
       ·next h1=>cases h;have:=ih _ h1;omega
       ·split at h
        ·cases h;omega
        ·cases h
    have:=hk _ _ _ _ e;simp only;omega
   ·split
    ·constructor<;>simp only<;>omega
    ·simp only;omega
theorem mB {w : World} (t : List UInt8) (ht : t.length <= 1048576) (htab : Lib.TabIs Tryz.prog w "internal/strconv.uint64pow10" .u64 Lib.pow10Tab) : Calls Tryz.prog 7 #[.string (bs t)] w fun e w' => e = .returned (.string (bs (eg t))) /\ Ext w w' := by
 have zf:=ae htab;have PN:=ae (uF t ht htab);have I8:=ae (qO t ht);have AT:=ae (show eg t=if 0<=(di t).2 then [101,114,114,111,114,32]++Lib.itoa (di t).2 else pl (di t).1.1 (di t).1.2 from rfl);obtain⟨S,hS⟩:=b9 (eg t);rw[<-hS]at AT;rw[<-hS];obtain⟨P,hP⟩:=b9 (di t);rw[<-hP]at PN I8 AT;obtain⟨⟨p,V⟩,k⟩:=P;simp only at AT I8;clear hS hP htab;go_enter Tryz.func7,Tryz.ntmps7
 go_wp2_with fail;refine PN.o.mono ?_;rintro e w1 ⟨⟨a,m,cap,rfl,ho⟩,hx⟩;have zv:=ae ho;have X1:=ae hx;have UB:=ho.ints.l8;have hmx:=ho.ints.l9;clear ho hx;simp only at zv;have BR:=I8.o.1;have Ks:=I8.o.2;by_cases hk:0<=k
 ·have HF:=ae (fun(w':World) (hx:Ext w w')=>gF (w:=w') k e7 e7 (ec zf.o hx));have hsz:(bs (Lib.itoa k)).size<=21:=by rw[aW];exact aab k e7 e7
  obtain⟨tk,Ro⟩:=b9 (bs (Lib.itoa k))
  have HR:=ae (show({ data:=#[101,114,114,111,114,32] }:ByteArray)++tk=bs S by
   rw[Ro,AT.o,hI hk]
   show bs [101,114,114,111,114,32]++bs _=_
   rw[bT])
  simp only[<-Ro]at HF;rw[<-Ro]at hsz;have Ha:(k:Int)≥0:=hk;clear Ro;obtain⟨W2,EM⟩:=b9 (w1.alloc (.cells #[.int .i64 (p:Int),.slice a m cap] 32));have X2:=ae (show Ext w W2 by rw[EM];exact X1.o.trans (Ext.alloc _ _));go_upto_region 2 with fail;rw[<-EM];clear EM;go_wp2_with fail;refine(HF.o _ X2.o).mono ?_;rintro e w3 ⟨rfl,hx⟩;have X3:=ae (X2.o.trans hx);clear hx;go_wp2_with fail;go_ret;exact⟨bM HR.o,X3.o⟩
 ·have Ha:¬(0:Int)<=k:=hk;obtain⟨W2,EM⟩:=b9 (w1.alloc (.cells #[.int .i64 (p:Int),.slice a m cap] 32));have KC:=ae (show Ext w1 W2 by rw[EM];exact Ext.alloc _ _);have X2:=ae (X1.o.trans KC.o);have Jb:=ae (show W2.heap[w1.heap.size]?=some (.cells #[.int .i64 (p:Int),.slice a m cap] 32 (0,0))by rw[EM];exact ai _ _ _ rfl);have J8:=ae (zv.o.ext KC.o).ints;have FF:=ae J8.o.hlen;have ZW:=ae (pJ (x:=(p:Int)) J8.o);obtain⟨c,Zb,Gc⟩:=rK (aL (p:Int) V) (bY (p:Int) V) (bD ar (cV (p:Int).toNat V.length) (dk (p:Int).toNat) (bG V))
  have JR:=ae (fun(w':World) (hx:Ext W2 w')=>(show Calls Tryz.prog 26 #[pair (p:Int) a m cap] w' fun e w''=>(∃pa pn pc wa wn wc,e=.returned (.agg #[.int .i64 (c:Int),.slice pa pn pc,.slice wa wn wc]))/\Ext w' w'' by
   refine(wu (p:=(p:Int)) (J8.o.ext hx)).mono ?_;rintro e w'' ⟨⟨pa,pn,pc,wa,wn,wc,rfl,_⟩,zJ⟩;refine⟨⟨pa,pn,pc,wa,wn,wc,?_⟩,zJ⟩
   rw[<-FF.o,Gc]))
  have HNU:=ae (fun(w':World) (hx:Ext W2 w')=>oC (p:=(p:Int)) (J8.o.ext hx));have V9:=ae (fun(w':World)=>wq (w:=w') c Zb);obtain⟨N,hN⟩:=b9 (CN (p:Int) V);have IK:=ae (show N.pt.length<=5 by rw[hN];exact(vj _ _).1);obtain⟨H,hH⟩:=b9 (gL (p:Int) V);have HHB:=ae (show H.length<=5 by rw[hH];exact rq _ _)
  have HR:=ae (show S=gZ (c:Int)++([32,115,104,97,112,108,101,121,32]++(D3 H++([32,110,117,99,108,101,111,108,117,115,32]++D3 N.pt)))by
   rw[AT.o,hD hk,hN,hH,<-Gc];rfl)
  rw[<-hH]at ZW;simp only[<-hN]at HNU;clear hN hH Gc hk BR Ks;go_upto_region 2 with fail;rw[<-EM];clear EM;have b0:=an Jb.o;have b1:=al Jb.o;go_wp2_with fail;refine ZW.o.mono ?_;rintro e w3 ⟨⟨v3,rfl,Av⟩,zm⟩;obtain⟨a3,n3,c3,rfl,Ia⟩:=Av.var;have Cz:=ae Av.zj;have X3:=ae zm;have PA:=ae (X2.o.trans zm);have St:=ae (fun(w':World) (hx:Ext w3 w')=>jM (Cz.o.ext hx) (by have h1:=Ia.o;have h2:=HHB.o;omega) (ec zf.o (PA.o.trans hx)));obtain⟨t1,Gy⟩:=b9 (bs (D3 H));obtain⟨t2,Qi⟩:=b9 (bs (D3 N.pt));obtain⟨t0,F3⟩:=b9 (bs (gZ (c:Int)));have DF:t1.size<=300:=by rw[Gy,aW];have:=gX (l:=H);have:=HHB.o;omega
  have Hw:t2.size<=300:=by rw[Qi,aW];have:=gX (l:=N.pt);have:=IK.o;omega
  have DR:t0.size<=5:=by rw[F3,aW];exact qg _
  have V6:=ae (show t0++{ data:=#[32,115,104,97,112,108,101,121,32] }++t1++{ data:=#[32,110,117,99,108,101,111,108,117,115,32] }++t2=bs S by
   rw[F3,Gy,Qi,HR.o]
   show bs _++bs [32,115,104,97,112,108,101,121,32]++bs _++bs [32,110,117,99,108,101,111,108,117,115,32]++bs _=_;rw[bT,bT,bT,bT]
   simp only[N7])
  have Dh:=ae Qi;simp only[<-Gy]at St;simp only[<-F3]at V9;clear F3 Gy Qi b0 b1 Av;have b0:=zm.j9 (an Jb.o);have b1:=zm.j9 (al Jb.o);have Fq:¬9223372036854775807<t0.size+9:=by omega
  have El:¬9223372036854775807<t0.size+9+t1.size:=by omega
  have hz3:¬9223372036854775807<t0.size+9+t1.size+11:=by omega
  have hz4:¬9223372036854775807<t0.size+9+t1.size+11+t2.size:=by omega
  clear zm;go_wp2_with fail;have k7:Ext w3 w3.drew:=Ext.drew w3;have zw:=k7;have k8:=ae (fun(w':World) (h:Ext w3 w')=>(⟨h.j9 b0,h.j9 b1,h⟩:w'.cell? ⟨w1.heap.size,0,none⟩=some (.int .i64 (p:Int))/\w'.cell? ⟨w1.heap.size,1,none⟩=some (.slice a m cap)/\Ext w3 w'));go_wp2_with fail
  go_region_held3 (fun w'=>w'.cell? ⟨w1.heap.size,0,none⟩=some (.int .i64 (p:Int))/\w'.cell? ⟨w1.heap.size,1,none⟩=some (.slice a m cap)/\Ext w3 w')
   (with_reducible exact k8.o _ k7)
   (first
     | (go_at_call 26
        (with_reducible refine(JR.o _ (X3.o.trans (by first|with_reducible exact k7|with_reducible exact zw|with_reducible exact k7.trans (Ext.alloc _ _)))).mono ?_)
        rintro e w4 ⟨⟨pa,pn,pc,wa,wn,wc,rfl⟩,zg⟩;have hfd:∀w:World,(Instr.field 39 (.agg #[.int .i64 (c:Int),.slice pa pn pc,.slice wa wn wc]) 0).run Tryz.prog w=.ok (.int .i64 (c:Int)) w:=fun _ ↦ e9
        have k7:Ext w3 w4:=k7.trans zg
        have Hv:=k7.size)
     | (go_at_call 25
        (with_reducible refine(V9.o _).mono ?_)
        rintro e w5 ⟨rfl,zh⟩;have k7:Ext w3 w5:=k7.trans zh
        have Yh:=k7.size)
     | (go_at_call 28
        (with_reducible refine(HNU.o _ (X3.o.trans (by first|with_reducible exact k7|with_reducible exact zw|with_reducible exact k7.trans (Ext.alloc _ _)))).mono ?_)
        rintro e w6 ⟨⟨na,nn,nc,sa,sn,sc,rfl,Lv,_⟩,Dq⟩;have hfd2:∀w:World,(Instr.field 44 (.agg #[.bool N.ok,.slice na nn nc,.slice sa sn sc,.int .i64 (N.rounds:Int)]) 1).run Tryz.prog w=.ok (.slice na nn nc) w:=fun _ ↦ e9
        have P4:=ae (fun(w':World) (hx:Ext w6 w') ↦ jM (Lv.zj.ext hx) (by have h1:=Lv.zj.hlen;have h2:=IK.o;omega) (ec zf.o ((PA.o.trans (k7.trans Dq)).trans hx)));simp only[<-Dh.o]at P4;clear Lv;have Hb:Ext w6 w6:=Ext.refl _;have k7:Ext w3 w6:=k7.trans Dq
        have Yg:=k7.size)
     | (go_at_call 27
        (with_reducible refine(St.o _ (by first|with_reducible exact k7|with_reducible exact zw|with_reducible exact k7.trans (Ext.alloc _ _))).mono ?_)
        rintro e w7 ⟨rfl,zT⟩;have k7:Ext w3 w7:=k7.trans zT
        have SX:=k7.size)
     | (go_at_call 27
        (with_reducible refine(P4.o _ Hb).mono ?_)
        rintro e w8 ⟨rfl,At⟩;have k7:Ext w3 w8:=k7.trans At
        have SW:=k7.size)
     | fail)
  clear k8 zw;go_wp2_with fail;go_ret;exact⟨bM V6.o,PA.o.trans k7⟩
theorem mO{w:World}(t:List UInt8)(ht:t.length<=1048576):Calls Tryz.prog 6 #[.string (bs t)] w fun e w'=>e=.returned (.string (bs (eg t)))/\Ext w w':=by
 have PN:=ae (uM (w:=w) t ht);have I8:=ae (qO t ht);have AT:=ae (show eg t=if 0<=(di t).2 then [101,114,114,111,114,32]++Lib.itoa (di t).2 else pl (di t).1.1 (di t).1.2 from rfl);obtain⟨S,hS⟩:=b9 (eg t);rw[<-hS]at AT;rw[<-hS];obtain⟨P,hP⟩:=b9 (di t);rw[<-hP]at PN I8 AT;obtain⟨⟨p,V⟩,k⟩:=P;simp only at AT I8;clear hS hP;go_enter Tryz.func6,Tryz.ntmps6
 go_wp2_with fail;refine PN.o.mono ?_;rintro e G ⟨⟨a,m,cap,rfl,ho⟩,hx⟩;have zv:=ae ho;have X1:=ae hx;have UB:=ho.ints.l8;have hmx:=ho.ints.l9;clear ho hx;simp only at zv;have BR:=I8.o.1;have Ks:=I8.o.2;by_cases hk:0<=k
 ·have HF:=ae (fun(w':World) (hx:Ext w w')=>fA (w:=w') k e7 e7);have hsz:(bs (Lib.itoa k)).size<=21:=by rw[aW];exact aab k e7 e7
  obtain⟨tk,Ro⟩:=b9 (bs (Lib.itoa k))
  have HR:=ae (show({ data:=#[101,114,114,111,114,32] }:ByteArray)++tk=bs S by
   rw[Ro,AT.o,hI hk]
   show bs [101,114,114,111,114,32]++bs _=_
   rw[bT])
  simp only[<-Ro]at HF;rw[<-Ro]at hsz;have Ha:(k:Int)≥0:=hk;clear Ro;obtain⟨J,I⟩:=b9 (G.alloc (.cells #[.int .i64 (p:Int),.slice a m cap] 32));have X2:=ae (show Ext w J by rw[I];exact X1.o.trans (Ext.alloc _ _));go_upto_region 2 with fail;rw[<-I];clear I;go_wp2_with fail;refine(HF.o _ X2.o).mono ?_;rintro e w3 ⟨rfl,hx⟩;have X3:=ae (X2.o.trans hx);clear hx;go_wp2_with fail;go_ret;exact⟨bM HR.o,X3.o⟩
 ·have Ha:¬(0:Int)<=k:=hk;obtain⟨J,I⟩:=b9 (G.alloc (.cells #[.int .i64 (p:Int),.slice a m cap] 32));have KC:=ae (show Ext G J by rw[I];exact Ext.alloc _ _);have X2:=ae (X1.o.trans KC.o);have Jb:=ae (show J.heap[G.heap.size]?=some (.cells #[.int .i64 (p:Int),.slice a m cap] 32 (0,0))by rw[I];exact ai _ _ _ rfl);have J8:=ae (zv.o.ext KC.o).ints;have FF:=ae J8.o.hlen;have ZW:=ae (pV (x:=(p:Int)) J8.o);obtain⟨c,Zb,Gc⟩:=rK (aL (p:Int) V) (bY (p:Int) V) (bD ar (cV (p:Int).toNat V.length) (dk (p:Int).toNat) (bG V))
  have JR:=ae (fun(w':World) (hx:Ext J w')=>(show Calls Tryz.prog 19 #[pair (p:Int) a m cap] w' fun e w''=>(∃U O Q K wn wc,e=.returned (.agg #[.int .i64 (c:Int),.slice U O Q,.slice K wn wc]))/\Ext w' w'' by
   refine(wS (p:=(p:Int)) (J8.o.ext hx)).mono ?_;rintro e w'' ⟨⟨U,O,Q,K,wn,wc,rfl,_⟩,zJ⟩;refine⟨⟨U,O,Q,K,wn,wc,?_⟩,zJ⟩
   rw[<-FF.o,<-Pq,Gc]))
  have HNU:=ae (fun(w':World) (hx:Ext J w')=>pd (p:=(p:Int)) (J8.o.ext hx));have V9:=ae (fun(w':World)=>wR (w:=w') c Zb);obtain⟨N,hN⟩:=b9 (CN (p:Int) V);have IK:=ae (show N.pt.length<=5 by rw[hN];exact(vj _ _).1);obtain⟨H,hH⟩:=b9 (gL (p:Int) V);have Z:=ae (show H.length<=5 by rw[hH];exact rq _ _)
  have HR:=ae (show S=gZ (c:Int)++([32,115,104,97,112,108,101,121,32]++(D3 H++([32,110,117,99,108,101,111,108,117,115,32]++D3 N.pt)))by
   rw[AT.o,hD hk,hN,hH,<-Gc];rfl)
  rw[<-hH]at ZW;simp only[<-hN]at HNU;clear hN hH Gc hk BR Ks;go_upto_region 2 with fail;rw[<-I];clear I;have b0:=an Jb.o;have b1:=al Jb.o;go_wp2_with fail;refine ZW.o.mono ?_;rintro e w3 ⟨⟨v3,rfl,Av⟩,zm⟩;obtain⟨a3,n3,c3,rfl,Ia⟩:=Av.var;have Cz:=ae Av.zj;have X3:=ae zm;have PA:=ae (X2.o.trans zm);have St:=ae (fun(w':World) (hx:Ext w3 w')=>jR (Cz.o.ext hx) (by have h1:=Ia.o;have h2:=Z.o;omega));obtain⟨t1,Gy⟩:=b9 (bs (D3 H));obtain⟨t2,Qi⟩:=b9 (bs (D3 N.pt));obtain⟨t0,F3⟩:=b9 (bs (gZ (c:Int)));have DF:t1.size<=300:=by rw[Gy,aW];have:=gX (l:=H);have:=Z.o;omega
  have Hw:t2.size<=300:=by rw[Qi,aW];have:=gX (l:=N.pt);have:=IK.o;omega
  have DR:t0.size<=5:=by rw[F3,aW];exact qg _
  have V6:=ae (show t0++{ data:=#[32,115,104,97,112,108,101,121,32] }++t1++{ data:=#[32,110,117,99,108,101,111,108,117,115,32] }++t2=bs S by
   rw[F3,Gy,Qi,HR.o]
   show bs _++bs [32,115,104,97,112,108,101,121,32]++bs _++bs [32,110,117,99,108,101,111,108,117,115,32]++bs _=_;rw[bT,bT,bT,bT]
   simp only[N7])
  have Dh:=ae Qi;simp only[<-Gy]at St;simp only[<-F3]at V9;clear F3 Gy Qi b0 b1 Av;have b0:=zm.j9 (an Jb.o);have b1:=zm.j9 (al Jb.o);have Fq:¬9223372036854775807<t0.size+9:=by omega
  have El:¬9223372036854775807<t0.size+9+t1.size:=by omega
  have hz3:¬9223372036854775807<t0.size+9+t1.size+11:=by omega
  have hz4:¬9223372036854775807<t0.size+9+t1.size+11+t2.size:=by omega
  clear zm;go_wp2_with fail;have k7:Ext w3 w3.drew:=Ext.drew w3;have zw:=k7;have k8:=ae (fun(w':World) (h:Ext w3 w')=>(⟨h.j9 b0,h.j9 b1,h⟩:w'.cell? ⟨G.heap.size,0,none⟩=some (.int .i64 (p:Int))/\w'.cell? ⟨G.heap.size,1,none⟩=some (.slice a m cap)/\Ext w3 w'));go_wp2_with fail
  go_region_held3 (fun w'=>w'.cell? ⟨G.heap.size,0,none⟩=some (.int .i64 (p:Int))/\w'.cell? ⟨G.heap.size,1,none⟩=some (.slice a m cap)/\Ext w3 w')
   (with_reducible exact k8.o _ k7)
   (first
     | (go_at_call 19
        (with_reducible refine(JR.o _ (X3.o.trans (by first|with_reducible exact k7|with_reducible exact zw|with_reducible exact k7.trans (Ext.alloc _ _)))).mono ?_)
        rintro e w4 ⟨⟨U,O,Q,K,wn,wc,rfl⟩,zg⟩;have hfd:∀w:World,(Instr.field 39 (.agg #[.int .i64 (c:Int),.slice U O Q,.slice K wn wc]) 0).run Tryz.prog w=.ok (.int .i64 (c:Int)) w:=fun _ ↦ e9
        have k7:Ext w3 w4:=k7.trans zg
        have Hv:=k7.size)
     | (go_at_call 18
        (with_reducible refine(V9.o _).mono ?_)
        rintro e w5 ⟨rfl,zh⟩;have k7:Ext w3 w5:=k7.trans zh
        have Yh:=k7.size)
     | (go_at_call 21
        (with_reducible refine(HNU.o _ (X3.o.trans (by first|with_reducible exact k7|with_reducible exact zw|with_reducible exact k7.trans (Ext.alloc _ _)))).mono ?_)
        rintro e w6 ⟨⟨na,nn,nc,sa,sn,sc,rfl,Lv,_⟩,Dq⟩;have hfd2:∀w:World,(Instr.field 44 (.agg #[.bool N.ok,.slice na nn nc,.slice sa sn sc,.int .i64 (N.rounds:Int)]) 1).run Tryz.prog w=.ok (.slice na nn nc) w:=fun _ ↦ e9
        have P4:=ae (fun(w':World) (hx:Ext w6 w') ↦ jR (Lv.zj.ext hx) (by have h1:=Lv.zj.hlen;have h2:=IK.o;omega));simp only[<-Dh.o]at P4;clear Lv;have Hb:Ext w6 w6:=Ext.refl _;have k7:Ext w3 w6:=k7.trans Dq
        have Yg:=k7.size)
     | (go_at_call 20
        (with_reducible refine(St.o _ (by first|with_reducible exact k7|with_reducible exact zw|with_reducible exact k7.trans (Ext.alloc _ _))).mono ?_)
        rintro e w7 ⟨rfl,zT⟩;have k7:Ext w3 w7:=k7.trans zT
        have SX:=k7.size)
     | (go_at_call 20
        (with_reducible refine(P4.o _ Hb).mono ?_)
        rintro e w8 ⟨rfl,At⟩;have k7:Ext w3 w8:=k7.trans At
        have SW:=k7.size)
     | fail)
  clear k8 zw;go_wp2_with fail;go_ret;exact⟨bM V6.o,PA.o.trans k7⟩
def runE(k:Int):List UInt8:=if Fj k=[] then [] else eg (Fj k)
theorem uU(k:Int):(Fj k).length<=1048576:=by
 unfold Fj cY
 split
 ·next h =>
  obtain⟨q,hq,C4,EX,hlen,_,_⟩:=bQ h;have h1:=gH (V:=Bh k) (Pb k) (Bh k).length;have h2:=bP q EX;have h3:=lM (n:=B5 k) e7;unfold eB;simp only[pk,OX,aap];omega
 ·simp
theorem lk {w : World} (k : Int) (htab : Lib.TabIs Tryz.prog w "internal/strconv.uint64pow10" .u64 Lib.pow10Tab) : Calls Tryz.prog 9 #[.int .i64 k] w fun e w' => e = .returned (.string (bs (runE k))) /\ Ext w w' := by
 have zf:=ae htab;have HE:=ae (kE (w:=w) k htab);have HS:=ae (fun(w':World) (hx:Ext w w')=>mB (w:=w') (Fj k) (uU k) (ec zf.o hx));have HR:=ae (show runE k=if Fj k=[] then [] else eg (Fj k)from rfl);obtain⟨R,hR⟩:=b9 (runE k);rw[<-hR]at HR;rw[<-hR];obtain⟨t,ht⟩:=b9 (bs (Fj k));have H7:=ae (kz ht);rw[<-ht]at HE;simp only[<-ht]at HS;clear hR ht htab;go_enter Tryz.func9,Tryz.ntmps9
 go_wp2_with fail;refine HE.o.mono ?_;rintro e w1 ⟨rfl,hx⟩;have X1:=ae hx;clear hx
 go_upto_if 7 with fail
 rw[H7.o];by_cases h0:Fj k=[]
 ·have HF:=ae (show R=[]by rw[HR.o,hI h0]);rw[z' h0];clear h0;go_wp2_with fail;go_ret;exact⟨bM (by rw[HF.o];rfl),X1.o⟩
 ·have HF:=ae (show R=eg (Fj k)by rw[HR.o,hD h0]);rw[u' h0];clear h0;go_wp2_with fail;refine(HS.o _ X1.o).mono ?_;rintro e w2 ⟨rfl,hx⟩;have X2:=ae (X1.o.trans hx);clear hx;go_wp2_with fail;go_ret;exact⟨bM (by rw[HF.o]),X2.o⟩
theorem lB{w:World}(k:Int):Calls Tryz.prog 8 #[.int .i64 k] w fun e w'=>e=.returned (.string (bs (runE k)))/\Ext w w':=by
 have HE:=ae (kI (w:=w) k);have HS:=ae (fun(w':World) (hx:Ext w w')=>mO (w:=w') (Fj k) (uU k));have HR:=ae (show runE k=if Fj k=[] then [] else eg (Fj k)from rfl);obtain⟨R,G⟩:=b9 (runE k);rw[<-G]at HR;rw[<-G];obtain⟨t,ht⟩:=b9 (bs (Fj k));have I:=ae (kz ht);rw[<-ht]at HE;simp only[<-ht]at HS;clear G ht;go_enter Tryz.func8,Tryz.ntmps8
 go_wp2_with fail;refine HE.o.mono ?_;rintro e w1 ⟨rfl,hx⟩;have X1:=ae hx;clear hx
 go_upto_if 7 with fail
 rw[I.o];by_cases h0:Fj k=[]
 ·have HF:=ae (show R=[]by rw[HR.o,hI h0]);rw[z' h0];clear h0;go_wp2_with fail;go_ret;exact⟨bM (by rw[HF.o];rfl),X1.o⟩
 ·have HF:=ae (show R=eg (Fj k)by rw[HR.o,hD h0]);rw[u' h0];clear h0;go_wp2_with fail;refine(HS.o _ X1.o).mono ?_;rintro e w2 ⟨rfl,hx⟩;have X2:=ae (X1.o.trans hx);clear hx;go_wp2_with fail;go_ret;exact⟨bM (by rw[HF.o]),X2.o⟩
