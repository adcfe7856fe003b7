import Derived.Test.YtdadoignenffgaaGreatDoorSvAllG51
import Derived.Test.YtdadoignenffgaaGreatDoorSvAllG11
import Derived.Test.YtdadoignenffgaaGreatDoorSvAllG46
import Derived.Test.YtdadoignenffgaaGreatDoorSvAllG47
import Derived.Test.YtdadoignenffgaaGreatDoorSvAllG37
import Derived.Test.YtdadoignenffgaaGreatDoorSvAllG48
import Derived.Test.YtdadoignenffgaaGreatDoorSvAllG49
import Derived.Test.YtdadoignenffgaaGreatDoorSvAllG39
import Derived.Test.YtdadoignenffgaaGreatDoorSvAllG40
set_option linter.unusedVariables false
set_option linter.unusedSimpArgs false
namespace Go.Proofs.YtdadoignenffgaaGreatDoor
set_option maxHeartbeats 16000000
set_option maxRecDepth 100000
open Go.RowKit
def T6(p:Nat)(V:j7):Int:=dP (aH (p:Int) V) (bI (p:Int) V) (be am (cq (p:Int).toNat V.length) (cL (p:Int).toNat) (bg V))
theorem oE(ok:Bool)(g:Int)(r:yu):∃c:Nat,c<4/\dP ok g r=(c:Int):=by
 unfold dP
 repeat' split
 all_goals first|exact⟨0,by decide,rfl⟩|exact⟨1,by decide,rfl⟩|exact⟨2,by decide,rfl⟩|exact⟨3,by decide,rfl⟩
def qa(p:Nat)(V:j7):List UInt8 :=
 fG (T6 p V)++([32,115,104,97,112,108,101,121,32]++(AK (fp (p:Int) V)++([32,110,117,99,108,101,111,108,117,115,32]++AK (zr (p:Int) V).pt)))
def hJ(t:List UInt8):List UInt8 :=
 if 0<=(cJ t).2 then [101,114,114,111,114,32]++Lib.itoa (cJ t).2 else qa (cJ t).1.1 (cJ t).1.2
theorem nM(t:List UInt8)(ht:t.length<=1048576):-1<=(cJ t).2/\(cJ t).2<=2000000:=by
 have hl:(dg t).length<=1048577:=by
  have:=jE 10 t;unfold dg
  split
  ·rw[List.length_take];omega
  ·omega
 rw[is];unfold eV
 split
 ·decide
 ·split
  ·decide
  ·split
   ·next e =>
    have hk:∀(N:Nat) (D:List (List UInt8)) (m k:Nat),bP N D m=.error k->k<=m:=by
     intro N D m
     induction m with
     | zero=>intro k h;cases h
     | succ m ih =>
       intro k h;rw[bP]at h
       split at h
       ·next h1=>cases h;have:=ih _ h1;omega
       ·split at h
        ·cases h;omega
        ·cases h
    have:=hk _ _ _ _ e;simp only;omega
   ·split
    ·constructor<;>simp only<;>omega
    ·simp only;omega
theorem qM {w : World} (t : List UInt8) (ht : t.length <= 1048576) (htab : Lib.TabIs Tryz.prog w "internal/strconv.uint64pow10" .u64 Lib.pow10Tab) : Calls Tryz.prog 7 #[.string (bs t)] w fun e w' => e = .returned (.string (bs (hJ t))) /\ Ext w w' := by
 have uW:=ae htab;have Ld:=ae (qL t ht htab);have EC:=ae (nM t ht);have xh:=ae (show hJ t=if 0<=(cJ t).2 then [101,114,114,111,114,32]++Lib.itoa (cJ t).2 else qa (cJ t).1.1 (cJ t).1.2 from rfl);obtain⟨S,hS⟩:=b9 (hJ t);rw[<-hS]at xh;rw[<-hS];obtain⟨P,hP⟩:=b9 (cJ t);rw[<-hP]at Ld EC xh;obtain⟨⟨p,V⟩,k⟩:=P;simp only at xh EC;clear hS hP htab;go_enter Tryz.func7,Tryz.ntmps7
 go_wp2_with fail;refine Ld.o.mono ?_;rintro e w1 ⟨⟨a,m,cap,rfl,ho⟩,hx⟩;have vw:=ae ho;have X1:=ae hx;have PY:=ho.ints.l8;have hmx:=ho.ints.o0;clear ho hx;simp only at vw;have yx:=EC.o.1;have F4:=EC.o.2;by_cases hk:0<=k
 ·have HF:=ae (fun(w':World) (hx:Ext w w')=>fk (w:=w') k e7 e7 (eS uW.o hx));have hsz:(bs (Lib.itoa k)).size<=21:=by rw[aQ];exact Lib.itoa_length_le k e7 e7
  obtain⟨tk,MR⟩:=b9 (bs (Lib.itoa k))
  have HR:=ae (show({ data:=#[101,114,114,111,114,32] }:ByteArray)++tk=bs S by
   rw[MR,xh.o,if_pos hk]
   show bs [101,114,114,111,114,32]++bs _=_
   rw[bG])
  simp only[<-MR]at HF;rw[<-MR]at hsz;have Dl:(k:Int)≥0:=hk;clear MR;obtain⟨W2,Bo⟩:=b9 (w1.alloc (.cells #[.int .i64 (p:Int),.slice a m cap] 32));have X2:=ae (show Ext w W2 by rw[Bo];exact X1.o.trans (Ext.alloc _ _));go_upto_region 2 with fail;rw[<-Bo];clear Bo;go_wp2_with fail;refine(HF.o _ X2.o).mono ?_;rintro e w3 ⟨rfl,hx⟩;have X3:=ae (X2.o.trans hx);clear hx;go_wp2_with fail;go_ret;exact⟨bS HR.o,X3.o⟩
 ·have Dl:¬(0:Int)<=k:=hk;obtain⟨W2,Bo⟩:=b9 (w1.alloc (.cells #[.int .i64 (p:Int),.slice a m cap] 32));have Gc:=ae (show Ext w1 W2 by rw[Bo];exact Ext.alloc _ _);have X2:=ae (X1.o.trans Gc.o);have Ia:=ae (show W2.heap[w1.heap.size]?=some (.cells #[.int .i64 (p:Int),.slice a m cap] 32 (0,0))by rw[Bo];exact aj _ _ _ rfl);have FH:=ae (vw.o.ext Gc.o).ints;have B4:=ae FH.o.hlen;have Uv:=ae (mA (x:=(p:Int)) FH.o);obtain⟨c,TL,Cy⟩:=oE (aH (p:Int) V) (bI (p:Int) V) (be am (cq (p:Int).toNat V.length) (cL (p:Int).toNat) (bg V))
  have Fp:=ae (fun(w':World) (hx:Ext W2 w')=>(show Calls Tryz.prog 26 #[pair (p:Int) a m cap] w' fun e w''=>(∃pa pn pc wa wn wc,e=.returned (.agg #[.int .i64 (c:Int),.slice pa pn pc,.slice wa wn wc]))/\Ext w' w'' by
   refine(sJ (p:=(p:Int)) (FH.o.ext hx)).mono ?_;rintro e w'' ⟨⟨pa,pn,pc,wa,wn,wc,rfl,_⟩,vL⟩;refine⟨⟨pa,pn,pc,wa,wn,wc,?_⟩,vL⟩
   rw[<-B4.o,Cy]))
  have UK:=ae (fun(w':World) (hx:Ext W2 w')=>lG (p:=(p:Int)) (FH.o.ext hx));have Rr:=ae (fun(w':World)=>sI (w:=w') c TL);obtain⟨N,hN⟩:=b9 (zr (p:Int) V);have Ef:=ae (show N.pt.length<=5 by rw[hN];exact(rA _ _).1);obtain⟨H,hH⟩:=b9 (fp (p:Int) V);have U8:=ae (show H.length<=5 by rw[hH];exact ol _ _)
  have HR:=ae (show S=fG (c:Int)++([32,115,104,97,112,108,101,121,32]++(AK H++([32,110,117,99,108,101,111,108,117,115,32]++AK N.pt)))by
   rw[xh.o,if_neg hk,hN,hH,<-Cy];rfl)
  rw[<-hH]at Uv;simp only[<-hN]at UK;clear hN hH Cy hk yx F4;go_upto_region 2 with fail;rw[<-Bo];clear Bo;have b0:=bw Ia.o;have b1:=bp Ia.o;go_wp2_with fail;refine Uv.o.mono ?_;rintro e w3 ⟨⟨v3,rfl,xt⟩,vj⟩;obtain⟨a3,n3,c3,rfl,FF⟩:=xt.var;have zR:=ae xt.uZ;have X3:=ae vj;have KZ:=ae (X2.o.trans vj);have N4:=ae (fun(w':World) (hx:Ext w3 w')=>iw (zR.o.ext hx) (by have h1:=FF.o;have h2:=U8.o;omega) (eS uW.o (KZ.o.trans hx)));obtain⟨t1,Dh⟩:=b9 (bs (AK H));obtain⟨t2,MT⟩:=b9 (bs (AK N.pt));obtain⟨t0,Cp⟩:=b9 (bs (fG (c:Int)));have BQ:t1.size<=300:=by rw[Dh,aQ];have:=fE (l:=H);have:=U8.o;omega
  have EW:t2.size<=300:=by rw[MT,aQ];have:=fE (l:=N.pt);have:=Ef.o;omega
  have AO:t0.size<=5:=by rw[Cp,aQ];exact mT _
  have Ro:=ae (show t0++{ data:=#[32,115,104,97,112,108,101,121,32] }++t1++{ data:=#[32,110,117,99,108,101,111,108,117,115,32] }++t2=bs S by
   rw[Cp,Dh,MT,HR.o]
   show bs _++bs [32,115,104,97,112,108,101,121,32]++bs _++bs [32,110,117,99,108,101,111,108,117,115,32]++bs _=_;rw[bG,bG,bG,bG]
   simp only[List.append_assoc])
  have zO:=ae MT;simp only[<-Dh]at N4;simp only[<-Cp]at Rr;clear Cp Dh MT b0 b1 xt;have b0:=vj.j9 (bw Ia.o);have b1:=vj.j9 (bp Ia.o);have Cm:¬9223372036854775807<t0.size+9:=by omega
  have A4:¬9223372036854775807<t0.size+9+t1.size:=by omega
  have hz3:¬9223372036854775807<t0.size+9+t1.size+11:=by omega
  have hz4:¬9223372036854775807<t0.size+9+t1.size+11+t2.size:=by omega
  clear vj;go_wp2_with fail;have k7:Ext w3 w3.drew:=Ext.drew w3;have vt:=k7;have k8:=ae (fun(w':World) (h:Ext w3 w')=>(⟨h.j9 b0,h.j9 b1,h⟩:w'.cell? ⟨w1.heap.size,0,none⟩=some (.int .i64 (p:Int))/\w'.cell? ⟨w1.heap.size,1,none⟩=some (.slice a m cap)/\Ext w3 w'));go_wp2_with fail
  go_region_held3 (fun w'=>w'.cell? ⟨w1.heap.size,0,none⟩=some (.int .i64 (p:Int))/\w'.cell? ⟨w1.heap.size,1,none⟩=some (.slice a m cap)/\Ext w3 w')
   (with_reducible exact k8.o _ k7)
   (first
     | (go_at_call 26
        (with_reducible refine(Fp.o _ (X3.o.trans (by first|with_reducible exact k7|with_reducible exact vt|with_reducible exact k7.trans (Ext.alloc _ _)))).mono ?_)
        rintro e w4 ⟨⟨pa,pn,pc,wa,wn,wc,rfl⟩,uX⟩;have hfd:∀w:World,(Instr.field 39 (.agg #[.int .i64 (c:Int),.slice pa pn pc,.slice wa wn wc]) 0).run Tryz.prog w=.ok (.int .i64 (c:Int)) w:=fun _ ↦ e9
        have k7:Ext w3 w4:=k7.trans uX
        have DI:=k7.size)
     | (go_at_call 25
        (with_reducible refine(Rr.o _).mono ?_)
        rintro e w5 ⟨rfl,uY⟩;have k7:Ext w3 w5:=k7.trans uY
        have SX:=k7.size)
     | (go_at_call 28
        (with_reducible refine(UK.o _ (X3.o.trans (by first|with_reducible exact k7|with_reducible exact vt|with_reducible exact k7.trans (Ext.alloc _ _)))).mono ?_)
        rintro e w6 ⟨⟨na,nn,nc,sa,sn,sc,rfl,Hb,_⟩,zY⟩;have Yj:∀w:World,(Instr.field 44 (.agg #[.bool N.ok,.slice na nn nc,.slice sa sn sc,.int .i64 (N.rounds:Int)]) 1).run Tryz.prog w=.ok (.slice na nn nc) w:=fun _ ↦ e9
        have Lo:=ae (fun(w':World) (hx:Ext w6 w') ↦ iw (Hb.uZ.ext hx) (by have h1:=Hb.uZ.hlen;have h2:=Ef.o;omega) (eS uW.o ((KZ.o.trans (k7.trans zY)).trans hx)));simp only[<-zO.o]at Lo;clear Hb;have Dm:Ext w6 w6:=Ext.refl _;have k7:Ext w3 w6:=k7.trans zY
        have SW:=k7.size)
     | (go_at_call 27
        (with_reducible refine(N4.o _ (by first|with_reducible exact k7|with_reducible exact vt|with_reducible exact k7.trans (Ext.alloc _ _))).mono ?_)
        rintro e w7 ⟨rfl,vN⟩;have k7:Ext w3 w7:=k7.trans vN
        have Ow:=k7.size)
     | (go_at_call 27
        (with_reducible refine(Lo.o _ Dm).mono ?_)
        rintro e w8 ⟨rfl,wC⟩;have k7:Ext w3 w8:=k7.trans wC
        have Ov:=k7.size)
     | fail)
  clear k8 vt;go_wp2_with fail;go_ret;exact⟨bS Ro.o,KZ.o.trans k7⟩
theorem qU{w:World}(t:List UInt8)(ht:t.length<=1048576):Calls Tryz.prog 6 #[.string (bs t)] w fun e w'=>e=.returned (.string (bs (hJ t)))/\Ext w w':=by
 have Ld:=ae (qT (w:=w) t ht);have EC:=ae (nM t ht);have xh:=ae (show hJ t=if 0<=(cJ t).2 then [101,114,114,111,114,32]++Lib.itoa (cJ t).2 else qa (cJ t).1.1 (cJ t).1.2 from rfl);obtain⟨S,hS⟩:=b9 (hJ t);rw[<-hS]at xh;rw[<-hS];obtain⟨P,hP⟩:=b9 (cJ t);rw[<-hP]at Ld EC xh;obtain⟨⟨p,V⟩,k⟩:=P;simp only at xh EC;clear hS hP;go_enter Tryz.func6,Tryz.ntmps6
 go_wp2_with fail;refine Ld.o.mono ?_;rintro e E ⟨⟨a,m,cap,rfl,W⟩,hx⟩;have vw:=ae W;have X1:=ae hx;have PY:=W.ints.l8;have hmx:=W.ints.o0;clear W hx;simp only at vw;have yx:=EC.o.1;have F4:=EC.o.2;by_cases hk:0<=k
 ·have HF:=ae (fun(w':World) (hx:Ext w w')=>eI (w:=w') k e7 e7);have hsz:(bs (Lib.itoa k)).size<=21:=by rw[aQ];exact Lib.itoa_length_le k e7 e7
  obtain⟨tk,MR⟩:=b9 (bs (Lib.itoa k))
  have HR:=ae (show({ data:=#[101,114,114,111,114,32] }:ByteArray)++tk=bs S by
   rw[MR,xh.o,if_pos hk]
   show bs [101,114,114,111,114,32]++bs _=_
   rw[bG])
  simp only[<-MR]at HF;rw[<-MR]at hsz;have Dl:(k:Int)≥0:=hk;clear MR;obtain⟨I,G⟩:=b9 (E.alloc (.cells #[.int .i64 (p:Int),.slice a m cap] 32));have X2:=ae (show Ext w I by rw[G];exact X1.o.trans (Ext.alloc _ _));go_upto_region 2 with fail;rw[<-G];clear G;go_wp2_with fail;refine(HF.o _ X2.o).mono ?_;rintro e w3 ⟨rfl,hx⟩;have X3:=ae (X2.o.trans hx);clear hx;go_wp2_with fail;go_ret;exact⟨bS HR.o,X3.o⟩
 ·have Dl:¬(0:Int)<=k:=hk;obtain⟨I,G⟩:=b9 (E.alloc (.cells #[.int .i64 (p:Int),.slice a m cap] 32));have Gc:=ae (show Ext E I by rw[G];exact Ext.alloc _ _);have X2:=ae (X1.o.trans Gc.o);have Ia:=ae (show I.heap[E.heap.size]?=some (.cells #[.int .i64 (p:Int),.slice a m cap] 32 (0,0))by rw[G];exact aj _ _ _ rfl);have FH:=ae (vw.o.ext Gc.o).ints;have B4:=ae FH.o.hlen;have Uv:=ae (mK (x:=(p:Int)) FH.o);obtain⟨c,TL,Cy⟩:=oE (aH (p:Int) V) (bI (p:Int) V) (be am (cq (p:Int).toNat V.length) (cL (p:Int).toNat) (bg V))
  have Fp:=ae (fun(w':World) (hx:Ext I w')=>(show Calls Tryz.prog 19 #[pair (p:Int) a m cap] w' fun e w''=>(∃Q K O J wn wc,e=.returned (.agg #[.int .i64 (c:Int),.slice Q K O,.slice J wn wc]))/\Ext w' w'' by
   refine(sZ (p:=(p:Int)) (FH.o.ext hx)).mono ?_;rintro e w'' ⟨⟨Q,K,O,J,wn,wc,rfl,_⟩,vL⟩;refine⟨⟨Q,K,O,J,wn,wc,?_⟩,vL⟩
   rw[<-B4.o,<-KQ,Cy]))
  have UK:=ae (fun(w':World) (hx:Ext I w')=>lZ (p:=(p:Int)) (FH.o.ext hx));have Rr:=ae (fun(w':World)=>sY (w:=w') c TL);obtain⟨N,hN⟩:=b9 (zr (p:Int) V);have Ef:=ae (show N.pt.length<=5 by rw[hN];exact(rA _ _).1);obtain⟨H,Z⟩:=b9 (fp (p:Int) V);have U8:=ae (show H.length<=5 by rw[Z];exact ol _ _)
  have HR:=ae (show S=fG (c:Int)++([32,115,104,97,112,108,101,121,32]++(AK H++([32,110,117,99,108,101,111,108,117,115,32]++AK N.pt)))by
   rw[xh.o,if_neg hk,hN,Z,<-Cy];rfl)
  rw[<-Z]at Uv;simp only[<-hN]at UK;clear hN Z Cy hk yx F4;go_upto_region 2 with fail;rw[<-G];clear G;have b0:=bw Ia.o;have b1:=bp Ia.o;go_wp2_with fail;refine Uv.o.mono ?_;rintro e w3 ⟨⟨v3,rfl,xt⟩,vj⟩;obtain⟨a3,n3,c3,rfl,FF⟩:=xt.var;have zR:=ae xt.uZ;have X3:=ae vj;have KZ:=ae (X2.o.trans vj);have N4:=ae (fun(w':World) (hx:Ext w3 w')=>iB (zR.o.ext hx) (by have h1:=FF.o;have h2:=U8.o;omega));obtain⟨t1,Dh⟩:=b9 (bs (AK H));obtain⟨t2,MT⟩:=b9 (bs (AK N.pt));obtain⟨t0,Cp⟩:=b9 (bs (fG (c:Int)));have BQ:t1.size<=300:=by rw[Dh,aQ];have:=fE (l:=H);have:=U8.o;omega
  have EW:t2.size<=300:=by rw[MT,aQ];have:=fE (l:=N.pt);have:=Ef.o;omega
  have AO:t0.size<=5:=by rw[Cp,aQ];exact mT _
  have Ro:=ae (show t0++{ data:=#[32,115,104,97,112,108,101,121,32] }++t1++{ data:=#[32,110,117,99,108,101,111,108,117,115,32] }++t2=bs S by
   rw[Cp,Dh,MT,HR.o]
   show bs _++bs [32,115,104,97,112,108,101,121,32]++bs _++bs [32,110,117,99,108,101,111,108,117,115,32]++bs _=_;rw[bG,bG,bG,bG]
   simp only[List.append_assoc])
  have zO:=ae MT;simp only[<-Dh]at N4;simp only[<-Cp]at Rr;clear Cp Dh MT b0 b1 xt;have b0:=vj.j9 (bw Ia.o);have b1:=vj.j9 (bp Ia.o);have Cm:¬9223372036854775807<t0.size+9:=by omega
  have A4:¬9223372036854775807<t0.size+9+t1.size:=by omega
  have hz3:¬9223372036854775807<t0.size+9+t1.size+11:=by omega
  have hz4:¬9223372036854775807<t0.size+9+t1.size+11+t2.size:=by omega
  clear vj;go_wp2_with fail;have k7:Ext w3 w3.drew:=Ext.drew w3;have U:=k7;have k8:=ae (fun(w':World) (h:Ext w3 w')=>(⟨h.j9 b0,h.j9 b1,h⟩:w'.cell? ⟨E.heap.size,0,none⟩=some (.int .i64 (p:Int))/\w'.cell? ⟨E.heap.size,1,none⟩=some (.slice a m cap)/\Ext w3 w'));go_wp2_with fail
  go_region_held3 (fun w'=>w'.cell? ⟨E.heap.size,0,none⟩=some (.int .i64 (p:Int))/\w'.cell? ⟨E.heap.size,1,none⟩=some (.slice a m cap)/\Ext w3 w')
   (with_reducible exact k8.o _ k7)
   (first
     | (go_at_call 19
        (with_reducible refine(Fp.o _ (X3.o.trans (by first|with_reducible exact k7|with_reducible exact U|with_reducible exact k7.trans (Ext.alloc _ _)))).mono ?_)
        rintro e w4 ⟨⟨Q,K,O,J,wn,wc,rfl⟩,uX⟩;have hfd:∀w:World,(Instr.field 39 (.agg #[.int .i64 (c:Int),.slice Q K O,.slice J wn wc]) 0).run Tryz.prog w=.ok (.int .i64 (c:Int)) w:=fun _ ↦ e9
        have k7:Ext w3 w4:=k7.trans uX
        have DI:=k7.size)
     | (go_at_call 18
        (with_reducible refine(Rr.o _).mono ?_)
        rintro e w5 ⟨rfl,uY⟩;have k7:Ext w3 w5:=k7.trans uY
        have SX:=k7.size)
     | (go_at_call 21
        (with_reducible refine(UK.o _ (X3.o.trans (by first|with_reducible exact k7|with_reducible exact U|with_reducible exact k7.trans (Ext.alloc _ _)))).mono ?_)
        rintro e w6 ⟨⟨na,nn,nc,sa,sn,sc,rfl,Hb,_⟩,zY⟩;have Yj:∀w:World,(Instr.field 44 (.agg #[.bool N.ok,.slice na nn nc,.slice sa sn sc,.int .i64 (N.rounds:Int)]) 1).run Tryz.prog w=.ok (.slice na nn nc) w:=fun _ ↦ e9
        have Lo:=ae (fun(w':World) (hx:Ext w6 w') ↦ iB (Hb.uZ.ext hx) (by have h1:=Hb.uZ.hlen;have h2:=Ef.o;omega));simp only[<-zO.o]at Lo;clear Hb;have Dm:Ext w6 w6:=Ext.refl _;have k7:Ext w3 w6:=k7.trans zY
        have SW:=k7.size)
     | (go_at_call 20
        (with_reducible refine(N4.o _ (by first|with_reducible exact k7|with_reducible exact U|with_reducible exact k7.trans (Ext.alloc _ _))).mono ?_)
        rintro e w7 ⟨rfl,vN⟩;have k7:Ext w3 w7:=k7.trans vN
        have Ow:=k7.size)
     | (go_at_call 20
        (with_reducible refine(Lo.o _ Dm).mono ?_)
        rintro e w8 ⟨rfl,wC⟩;have k7:Ext w3 w8:=k7.trans wC
        have Ov:=k7.size)
     | fail)
  clear k8 U;go_wp2_with fail;go_ret;exact⟨bS Ro.o,KZ.o.trans k7⟩
theorem ju {w : World} (t : List UInt8) (ht : Lib.TabIs Tryz.prog w "internal/strconv.uint64pow10" .u64 Lib.pow10Tab) :
 Calls Tryz.prog 3 #[.string (bs t)] w fun e w'=>e=.returned (.bool true)/\Ext w w':=by
 have hsz:(bs t).size=t.length:=aQ t;by_cases hb:t.length<=1048576
 ·have HT:=ae ht;have HS:=ae (fun(w':World)=>qU (w:=w') t hb);obtain⟨T,hT⟩:=b9 (bs (hJ t));have HI:=ae (fun(w':World) (hx:Ext w w')=>qM (w:=w') t hb (eS HT.o hx));simp only[<-hT]at HS HI;obtain⟨tt,B8⟩:=b9 (bs t);simp only[<-B8]at HS HI;rw[<-B8]at hsz;rw[<-B8];have hle:¬(tt.size:Int) > 1048576:=by omega
  clear ht hT B8 hsz hb;go_enter Tryz.func3,Tryz.ntmps3
  go_wp2_with fail;refine(HS.o _).mono ?_;rintro e w1 ⟨rfl,hx⟩;have X1:=ae hx;clear hx;go_wp2_with fail;refine(HI.o _ X1.o).mono ?_;rintro e w2 ⟨rfl,hx⟩;have X2:=ae (X1.o.trans hx);clear hx;go_wp2_with fail;go_ret;exact⟨rfl,X2.o⟩
 ·obtain⟨tt,B8⟩:=b9 (bs t);rw[<-B8]at hsz;rw[<-B8];have hle:(tt.size:Int) > 1048576:=by omega
  clear B8 hsz hb;go_enter Tryz.func3,Tryz.ntmps3
  go_wp2_with fail;go_ret;exact⟨rfl,Ext.refl _⟩
end Go.Proofs.YtdadoignenffgaaGreatDoor
