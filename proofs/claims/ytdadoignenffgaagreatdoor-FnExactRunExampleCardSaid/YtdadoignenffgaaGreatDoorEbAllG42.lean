import Derived.Test.YtdadoignenffgaaGreatDoorEbAllG41
import Derived.Test.YtdadoignenffgaaGreatDoorEbAllG24
import Derived.Test.YtdadoignenffgaaGreatDoorEbAllG23
import Derived.Test.YtdadoignenffgaaGreatDoorEbAllG35
import Derived.Test.YtdadoignenffgaaGreatDoorEbAllG10
import Derived.Test.YtdadoignenffgaaGreatDoorEbAllG27
set_option linter.unusedVariables false
set_option linter.unusedSimpArgs false
namespace Go.Proofs.YtdadoignenffgaaGreatDoor
variable{S B s n:Nat}{G:j5}{a:j6}{w:World}{x y:Int}
set_option maxHeartbeats 16000000
set_option maxRecDepth 100000
open Go.RowKit
theorem vL(s:Int)(k:Nat)(h:0<=s)(h':s<=9223372036854775807):(bits BinOp.and IntKind.i64 (s/2^k) 1 == 0)=!bit s k:=by
 have h1:=lN s k h;rw[pz _ h1.1 e7];unfold bit;have:s/2^k % 2=0∨s/2^k % 2=1:=by omega
 rcases this with h|h<;>simp[h]
theorem wD(k:Nat)(h:k<=5):IntKind.i64.wrap ((2:Int)^k)=2^k:=by
 have:=fi k;have:=gj k h;rw[cn];omega
abbrev Lb(bm bs bb bo bx bw:Nat):Array Value:=#[.pointer (some ⟨bm,0,none⟩),.pointer (some ⟨bo,0,none⟩),.pointer (some ⟨bx,0,none⟩),.pointer (some ⟨bb,0,none⟩),.pointer (some ⟨bw,0,none⟩),.pointer (some ⟨bs,0,none⟩)]
structure Mu(w0 w:World)(S B s:Nat)(a:j6)(n cap bm bs bb bo br bx bw base:Nat)(a1:j6)(n1 c1:Nat)(st:D9):Prop where
 ord:w0.heap.size<=bm/\bm<bs/\bs<bb/\bb<bo/\bo<br/\br<bx/\bx<bw/\bw<base/\base<=w.heap.size
 hm:w.heap[bm]?=some (.cells #[.int .i64 (S:Int),.int .i64 (B:Int),.slice a n cap] 99 (0,0))
 hs:w.heap[bs]?=some (.cells #[.int .i64 (s:Int)] 3 (0,0))
 hb:w.heap[bb]?=some (.cells #[.slice a1 n1 c1] 30 (0,0))
 ho:w.heap[bo]?=some (.cells #[.int .i64 st.most] 3 (0,0))
 hr:Row w br 3 st.now
 hx:w.heap[bx]?=some (.cells #[.slice (some ⟨br,0,none⟩) S S] 30 (0,0))
 hw:w.heap[bw]?=some (.cells #[.func (.func 208) #[] (Lb bm bs bb bo bx bw)] 200 (0,0))
 own:o4 w base (.slice a1 n1 c1) st.Df
 len:st.now.length=S
 Ld:Ext w0 w
section
variable{w0 w w1:World}{S B s:Nat}{a:j6}{n cap bm bs bb bo br bx bw base:Nat}{a1:j6}{n1 c1:Nat}{st:D9}
theorem Mu.ext(h:Mu w0 w S B s a n cap bm bs bb bo br bx bw base a1 n1 c1 st)(hx:Ext w w1):Mu w0 w1 S B s a n cap bm bs bb bo br bx bw base a1 n1 c1 st :=
 ⟨by have:=h.ord;have:=hx.size;omega,(hx.block _ (mr h.hm)).trans h.hm,(hx.block _ (mr h.hs)).trans h.hs,(hx.block _ (mr h.hb)).trans h.hb,(hx.block _ (mr h.ho)).trans h.ho,h.hr.ext hx,(hx.block _ (mr h.hx)).trans h.hx,(hx.block _ (mr h.hw)).trans h.hw,h.own.ext hx,h.len,h.Ld.trans hx⟩
theorem Mu.M3(h:Mu w0 w S B s a n cap bm bs bb bo br bx bw base a1 n1 c1 st)(i:Nat)(x:Int):Mu w0 (w.setCell ⟨br,i,none⟩ (.int .i64 x)) S B s a n cap bm bs bb bo br bx bw base a1 n1 c1 ⟨st.now.set i x,st.Df,st.most⟩:=by
 have ho:=h.ord;have hne:∀k,k≠br->(w.setCell ⟨br,i,none⟩ (.int .i64 x)).heap[k]?=w.heap[k]?:=fun k hk=>bB w _ k _ hk
 refine⟨by simp;omega,?_,?_,?_,?_,h.hr.set i x,?_,?_,h.own.keep fun k hk=>hne k (j1 ((h.own.lt k hk).1)),by simpa using h.len,h.Ld.setCell (by simp;omega) _⟩
 ·rw[hne _ e7];exact h.hm
 ·rw[hne _ e7];exact h.hs
 ·rw[hne _ e7];exact h.hb
 ·rw[hne _ e7];exact h.ho
 ·rw[hne _ e7];exact h.hx
 ·rw[hne _ e7];exact h.hw
theorem Mu.QS(h0:Mu w0 w S B s a n cap bm bs bb bo br bx bw base a1 n1 c1 st)(hx:Ext w w1){a2:j6}{I c2:Nat}{l:j7}(hl:o4 w1 w.heap.size (.slice a2 I c2) l)(x:Int):
 Mu w0 ((w1.setCell ⟨bb,0,none⟩ (.slice a2 I c2)).setCell ⟨bo,0,none⟩ (.int .i64 x)) S B s a n cap bm bs bb bo br bx bw base a2 I c2 ⟨st.now,l,x⟩:=by
 have h:=h0.ext hx;have ho:=h.ord;have ho0:=h0.ord;have hne:∀k,k≠bb->k≠bo->((w1.setCell ⟨bb,0,none⟩ (.slice a2 I c2)).setCell ⟨bo,0,none⟩ (.int .i64 x)).heap[k]?=w1.heap[k]?:=fun k hk k7=>(bB _ _ k _ k7).trans (bB _ _ k _ hk)
 refine⟨by simp;omega,?_,?_,?_,?_,?_,?_,?_,(hl.mono e7).keep fun k hk=>hne k ?_ ?_,h.len,(h.Ld.setCell (by simp;omega) _).setCell (by simp;omega) _⟩
 ·rw[hne _ e7 e7];exact h.hm
 ·rw[hne _ e7 e7];exact h.hs
 ·rw[bB _ _ _ _ (by simp;omega)];exact iW h.hb
 ·exact iW ((bB _ _ _ _ (by simp;omega)).trans h.ho)
 ·exact(h.hr.other (by simp;omega) _).other (by simp;omega) _
 ·rw[hne _ e7 e7];exact h.hx
 ·rw[hne _ e7 e7];exact h.hw
 ·have:=(hl.lt k hk).1;omega
 ·have:=(hl.lt k hk).1;omega
end
def StF(w0:World)(S B s:Nat)(a:j6)(n cap bm bs bb bo br bx bw base:Nat)(st:D9)(w:World):Prop:=∃a1 n1 c1,Mu w0 w S B s a n cap bm bs bb bo br bx bw base a1 n1 c1 st
theorem jL:IsGo Tryz.prog 208:=isGo adB e9 e9
theorem T7{w0:World}{cap:Nat}(hM:Ln S B G)(hs:s<32)(hG:cH w0 a n cap G)(bm bs bb bo br bx bw base:Nat):
 ∀(r i:Nat) (ii li sum:Int) (left:Nat) (w:World) (a1:j6) (n1 c1:Nat) (st:D9),ii=(i:Int)->li=(left:Int)->i+r=S->left<32->0<=sum->sum<=100*i ->
 Mu w0 w S B s a n cap bm bs bb bo br bx bw base a1 n1 c1 st ->
 Calls Tryz.prog 208 #[.int .i64 ii,.int .i64 li,.int .i64 sum,.pointer (some ⟨bm,0,none⟩),.pointer (some ⟨bo,0,none⟩),.pointer (some ⟨bx,0,none⟩),.pointer (some ⟨bb,0,none⟩),.pointer (some ⟨bw,0,none⟩),.pointer (some ⟨bs,0,none⟩)] w fun e w' =>
  e=.returned (.tuple #[])/\StF w0 S B s a n cap bm bs bb bo br bx bw base (dw S B G s r left sum st) w':=by
 have Ec:=hM.sb;have OI:∀(args:Array Value) (w:World),(callFunc 208 args).run Tryz.prog w=.ok (.enter 208 args) w:=jL;intro r
 induction r with
 | zero =>
   intro i ii li sum left w a1 n1 c1 st hii YI hi z8 DR DF hS;subst hii YI;have heq:((i:Int) == (S:Int))=true:=by simp;omega
   have cm:w.cell? ⟨bm,0,none⟩=some (.int .i64 (S:Int)):=by rw[tn _ _ _ _ _ _ hS.hm];rfl
   have co:=aam hS.ho;have fo:=adW hS.ho;have cb:=aam hS.hb;have fb:=adW hS.hb;have cx:=aam hS.hx;have hne1:bb≠bo:=by have:=hS.ord;omega
   have hne2:bo≠bb:=by have:=hS.ord;omega
   have HS:=ae hS;have HI:=ae hi;by_cases CQ:st.most<sum
   ·have HZ:=ae (show dw S B G s 0 left sum st=⟨st.now,st.now,sum⟩by simp[dw,CQ]);have HN:=ae (hS.hr.ints (n:=S) (cap:=S) hS.len (ao _) e7);clear hS hi;go_enter adB,aek
    go_wp2_with fail;refine(iy HN.o e7).mono ?_;rintro e w1 ⟨v,rfl,ho,hx⟩;obtain⟨a2,n2,c2,rfl,Gu⟩:=ho.var;have Zk:=HS.o.ext hx;have co:=aam Zk.ho;have fo:=adW Zk.ho;have cb:=aam Zk.hb;have fb:=adW Zk.hb;have HX:=ae hx;have HO:=ae ho;clear hx ho Zk
    go_wp2
    refine bR (aaF rfl _ _ _) rfl ?_;rw[HZ.o];exact⟨rfl,a2,n2,c2,HS.o.QS HX.o HO.o sum⟩
   ·have HZ:=ae (show dw S B G s 0 left sum st=st by simp[dw,CQ]);clear hS hi;go_enter adB,aek
    go_wp2
    refine bR (aaF rfl _ _ _) rfl ?_;rw[HZ.o];exact⟨rfl,a1,n1,c1,HS.o⟩
 | succ r ih =>
   intro i ii li sum left w a1 n1 c1 st hii YI hi z8 DR DF hS;subst hii YI;have heq:((i:Int) == (S:Int))=false:=by simp;omega
   have Wz:i<S:=by omega
   have C7:S-(r+1)=i:=by omega
   have hord:=hS.ord;have cm0:w.cell? ⟨bm,0,none⟩=some (.int .i64 (S:Int)):=by rw[tn _ _ _ _ _ _ hS.hm];rfl
   have cx:=aam hS.hx;have hn:=hS.hr.cell (k:=i) (by rw[hS.len];exact Wz);obtain⟨y0,BG⟩:=b9 (st.now[i]?.getD 0);rw[<-BG]at hn;have fn:=hS.hr.free i;have CE:=ae (hS.M3 i (-1));have cw1:=aam CE.o.hw;have HI:=ae C7;have JJ:=ae hi;have HIH:=ae ih;have Ho:=ae hM;have Cn:=vL (s:Int) i e7 e7;have C6:S<=5:=by omega
   clear hS hi C7 ih BG;go_enter adB,aek
   go_wp2_with fail;refine(HIH.o (i+1) ((i:Int)+1) (left:Int) sum left _ a1 n1 c1 _ e8 rfl (j1 JJ.o) z8 DR (by simp;omega) CE.o).mono ?_;rintro e w2 ⟨rfl,a2,n2,c2,K⟩;have B6:=ae K;have cs2:=aam K.hs;clear K hn fn cx cm0 cw1;cases B3:bit (s:Int) i
   ·rw[B3]at Cn;have KP:=ae B3;clear B3
    go_wp2
    refine bR (aaF rfl _ _ _) rfl ?_;rw[rA _ _ _ _ (by rw[HI.o];exact KP.o),HI.o];exact⟨rfl,a2,n2,c2,B6.o⟩
   ·rw[B3]at Cn;have KP:=ae B3;have cm1:w2.cell? ⟨bm,1,none⟩=some (.int .i64 (B:Int)):=by rw[tn _ _ _ _ _ _ B6.o.hm];rfl
    have HZ:=ae (uk S B G s (r:=r) (left:=left) (sum:=sum) (st:=st) (by rw[HI.o];exact KP.o));clear B3
    go_wp2
    go_loopw [39] (fun j wr=>∃(k:Nat),k<=B/\j=.int .i64 (k:Int)/\StF w0 S B s a n cap bm bs bb bo br bx bw base (fe S B G s r left sum st k) wr) (fun j _=>B-(intOf j).toNat)
    case atStart=>exact⟨0,KJ _,rfl,a2,n2,c2,by rw[mP,HI.o];exact B6.o⟩
    case round =>
     obtain⟨k,hk,rfl,a3,n3,c3,J⟩:=hrel;have Cz:=ae J;have cm0:wr.cell? ⟨bm,0,none⟩=some (.int .i64 (S:Int)):=by rw[tn _ _ _ _ _ _ J.hm];rfl
     have cx:=aam J.hx;by_cases hlt:k<B
     ·have J2:=jX (left:Int) (S+k) e7 e7;cases JE:bit (left:Int) (S+k)
      ·rw[JE]at J2;have EI:=ae JE;clear JE J
       go_wp2
       go_roundw
       case rel=>exact⟨k+1,by omega,by go_num,a3,n3,c3,by rw[jJ,EI.o,hD e8];exact Cz.o⟩
       case measure=>simp[intOf];omega
      ·rw[JE]at J2;have EI:=ae JE;have Yv:=J.ord;have Ff:=J.hr.cell (k:=i) (by rw[J.len];exact Wz);obtain⟨y3,U⟩:=b9 ((fe S B G s r left sum st k).now[i]?.getD 0);rw[<-U]at Ff;have fn3:=J.hr.free i;have O:=J.M3 i (k:Int);have LU:=ae O;have hiG:i<n:=by have:=hG.hlen;have:=Ho.o.rows;omega
       have hncap:=hG.l8;have hnmax:=hG.l9;obtain⟨gb,DU,ga,gn,gc,Oz,UK,Bv⟩:=hG.at hiG;have YW:k<gn:=by have h1:=Bv.hlen;have h2:=Ho.o.row i Wz;omega
       obtain⟨rb,I,hra,Of⟩:=Bv.at YW;have UI:=Ho.o.bd i k;obtain⟨y,hy⟩:=b9 (gain G i k);have Of:w0.cell? ⟨rb,I+k,none⟩=some (.int .i64 y):=by rw[hy];exact Of
       have Ku:=O.Ld.j9 UK;have Io:=O.Ld.j9 Of;have HGC:=ae UK;have JL:=ae Of;rw[<-hy]at UI;have HY:=ae hy;have YY:=Bv.l8;have YX:=Bv.l9;have cw4:=aam O.hw;have Zx:(wr.setCell ⟨br,i,none⟩ (.int .i64 (k:Int))).cell? ⟨bm,0,none⟩=some (.int .i64 (S:Int)):=by rw[tn _ _ _ _ _ _ O.hm];rfl
       have Zw:(wr.setCell ⟨br,i,none⟩ (.int .i64 (k:Int))).cell? ⟨bm,2,none⟩=some (.slice a n cap):=by rw[tn _ _ _ _ _ _ O.hm];rfl
       subst Oz hra;obtain⟨w4,IW⟩:=b9 (wr.setCell ⟨br,i,none⟩ (.int .i64 (k:Int)));have HW4:=ae IW;rw[<-IW]at Ku Io cw4 Zx Zw LU;clear JE J O Bv hy U IW Yv UK Of;have k7:Ext w4 w4.drew:=Ext.drew w4;have Vi:=tcut z8 (show S+k<5 by omega) EI.o;obtain⟨u,hu⟩:∃u:Nat,u=left-2^(S+k):=⟨_,rfl⟩;have Ui:u<32:=by rw[hu];exact Nat.lt_of_le_of_lt (Nat.sub_le _ _) z8
       rw[<-hu]at Vi;have HU:=ae hu;have eSk:IntKind.i64.wrap ((S:Int)+(k:Int))=(S:Int)+(k:Int):=by rw[cn];omega
       have eI:IntKind.i64.wrap ((i:Int)+1)=(i:Int)+1:=by rw[cn];omega
       have eSum:IntKind.i64.wrap (sum+y)=sum+y:=by rw[cn];omega
       have HPow:=ae (wD (S+k) e7);have J4:=ae (show((S:Int)+(k:Int)).toNat=S+k by omega);have HCut:=ae Vi;clear hu Vi
       go_wp2
       rw[<-HW4.o]
       go_region_held3 (fun w'=>w'.cell? ⟨bw,0,none⟩=some (.func (.func 208) #[] (Lb bm bs bb bo bx bw))/\w'.cell? ⟨bm,0,none⟩=some (.int .i64 (S:Int))/\w'.cell? ⟨bm,2,none⟩=some (.slice (some ⟨gb,DU,none⟩) n cap)/\w'.cell? ⟨gb,DU+i,none⟩=some (.slice (some ⟨rb,I,none⟩) gn gc)/\w'.cell? ⟨rb,I+k,none⟩=some (.int .i64 y))
        (first
          | exact⟨k7.j9 cw4,k7.j9 Zx,k7.j9 Zw,k7.j9 Ku,k7.j9 Io⟩
          | exact⟨aam Q.o.hw,by rw[tn _ _ _ _ _ _ Q.o.hm];rfl,by rw[tn _ _ _ _ _ _ Q.o.hm];rfl,Q.o.Ld.j9 HGC.o,Q.o.Ld.j9 JL.o⟩)
        (first
          | (rw[J4.o,HPow.o,HCut.o]
             have T1:=HIH.o (i+1) ((i:Int)+1) (u:Int) (sum+y) u _ a3 n3 c3 _ e8 rfl (j1 JJ.o) Ui e7 (by simp;omega) (LU.o.ext k7)
             with_reducible refine T1.mono ?_
             rintro e w5 ⟨rfl,a5,n5,c5,Z⟩;have Q:=ae Z
             clear Z T1))
       go_wp2
       go_roundw
       case rel=>exact⟨k+1,by omega,by go_num,a5,n5,c5,by rw[jJ,EI.o,hI rfl,HI.o,<-HY.o,<-HU.o];exact Q.o⟩
       case measure=>simp[intOf];omega
     ·have hkB:k=B:=by omega
      subst hkB;clear J
      go_wp2
      go_end0
      rw[HZ.o];exact⟨rfl,a3,n3,c3,Cz.o⟩
theorem sh{s:Int}{cap:Nat}(h:cH w a n cap G):
 Calls Tryz.prog 146 #[gP x y a n cap,.int .i64 s] w fun e w'=>(∃v,e=.returned (.tuple #[v,.int .i64 (jo x y G s).2,.bool (et x y G s)])/\o4 w' w.heap.size v (jo x y G s).1)/\Ext w w':=by
 obtain⟨W,hW⟩:=b9 ((w.alloc (.cells #[.int .i64 x,.int .i64 y,.slice a n cap] 99)).alloc (.cells #[.int .i64 s] 3));have hX:Ext w W:=by rw[hW];exact(Ext.alloc _ _).trans (Ext.alloc _ _)
 have HX:=ae hX;have HG:=ae h;have HV:=ae (jy (x:=x) (y:=y) ((h.ext hX).ext (Ext.drew W)));have Q:W.heap.size=w.heap.size+1+1:=by rw[hW];simp
 have Ta:W.heap[w.heap.size]?=some (.cells #[.int .i64 x,.int .i64 y,.slice a n cap] 99 (0,0)):=by rw[hW,aO _ _ _ e8];exact ai _ _ _ rfl
 have OP:W.heap[w.heap.size+1]?=some (.cells #[.int .i64 s] 3 (0,0)):=by rw[hW];exact ai _ _ _ e8
 have c0:W.cell? ⟨w.heap.size,0,none⟩=some (.int .i64 x):=by rw[tn _ _ _ _ _ _ Ta];rfl
 have c1:W.cell? ⟨w.heap.size,1,none⟩=some (.int .i64 y):=by rw[tn _ _ _ _ _ _ Ta];rfl
 have c2:W.cell? ⟨w.heap.size,2,none⟩=some (.slice a n cap):=by rw[tn _ _ _ _ _ _ Ta];rfl
 have cs:=aam OP;have HBM:=ae Ta;have J':=ae OP;have VH:=ae Q;have HW:=ae hW;have k7:Ext W W.drew:=Ext.drew W;clear h hX Ta OP Q hW;cases hv:cq x y G
 ·have HN:=ae (show et x y G s=false by simp[et,hv]);rw[hv]at HV;clear hv;go_enter aeL,ael
  go_wp2
  rw[<-HW.o];refine rN (S:=(fun w'=>w'.cell? ⟨w.heap.size,0,none⟩=some (.int .i64 x)/\w'.cell? ⟨w.heap.size,1,none⟩=some (.int .i64 y)/\w'.cell? ⟨w.heap.size,2,none⟩=some (.slice a n cap)/\Ext W w')) e9 ?_ (fun l7=>?_)
  ·exact⟨k7.j9 c0,k7.j9 c1,k7.j9 c2,k7⟩
  refine tk 0 ?_;refine rd (i:=1) (h:=fun K hK=>?_);go_simp
  (go_at_call 144;refine HV.o.mono ?_;rintro e w3 ⟨rfl,O⟩;have k7:=k7.trans O)
  go_wp2_with fail;refine hK.out _ _ ?_ (fun l7=>?_)
  ·exact⟨k7.j9 c0,k7.j9 c1,k7.j9 c2,k7⟩
  clear hK K
  try simp only[Act.put,sA,sB,sC]
  refine tk 2 ?_;refine tk 3 ?_;refine sk 4 ?_;refine sk 5 ?_;refine sk 6 ?_;refine sk 7 ?_;refine sk 8 ?_;refine sk 9 ?_;refine sk 10 ?_;refine sk 11 ?_;refine sk 12 ?_;refine sk 13 ?_;refine tk 14 ?_;refine Gh e9 ?_ _
  go_wp2
  rw[ps HN.o,HN.o];refine bR (v:=.tuple #[.slice none 0 0,.int .i64 0,.bool false]) (by simp[results,adP,go_sem]) rfl ⟨⟨_,rfl,o4.nil _ _⟩,HX.o.trans k7⟩
 rw[hv]at HV;obtain⟨S,B,rfl,rfl,Z⟩:=jH hv;have Ec:=Z.sb;have It:=eH (S+B) Ec;have hN:=bP (S+B) Ec;have U:BO ((S:Int)+(B:Int))=(cN (S+B):Int):=by rw[<-It];simp
 have HC:=ae U;have HM:=ae Z;have eSB:IntKind.i64.wrap ((S:Int)+(B:Int))=(S:Int)+(B:Int):=by rw[cn];omega
 have eN:IntKind.i64.wrap ((cN (S+B):Int)-1)=(cN (S+B):Int)-1:=by rw[cn];omega
 cases zU:r9 s 0 ((cN (S+B):Int)-1)
 ·have Ja:=ae zU;have HN:=ae (show et (S:Int) (B:Int) G s=false by simp[et,hv,U,zU]);clear hv zU U It Z;go_enter aeL,ael
  go_wp2
  rw[<-HW.o]
  go_region_held3 (fun w'=>w'.cell? ⟨w.heap.size,0,none⟩=some (.int .i64 (S:Int))/\w'.cell? ⟨w.heap.size,1,none⟩=some (.int .i64 (B:Int))/\w'.cell? ⟨w.heap.size,2,none⟩=some (.slice a n cap)/\w'.cell? ⟨w.heap.size+1,0,none⟩=some (.int .i64 s)/\Ext W w')
   (exact⟨k7.j9 c0,k7.j9 c1,k7.j9 c2,k7.j9 cs,k7⟩)
   (first
     | (go_at_call 144;refine HV.o.mono ?_;rintro e w3 ⟨rfl,O⟩;have k7:=k7.trans O)
     | (go_at_call 143;refine(fM _ _).mono ?_;rw[HC.o];rintro e w' ⟨rfl,rfl⟩)
     | (go_at_call 61;refine(aq _ _ _ _).mono ?_;rw[Ja.o];rintro e w' ⟨rfl,rfl⟩))
  go_wp2
  rw[ps HN.o,HN.o];refine bR (v:=.tuple #[.slice none 0 0,.int .i64 0,.bool false]) (by simp[results,adP,go_sem]) rfl ⟨⟨_,rfl,o4.nil _ _⟩,HX.o.trans k7⟩
 ·have Ja:=ae zU;have A5:=ae (show et (S:Int) (B:Int) G s=true by simp[et,hv,U,zU]);obtain⟨t,rfl⟩:∃t:Nat,s=t:=⟨s.toNat,by unfold r9 at zU;simp at zU;omega⟩;have ht:t<32:=by unfold r9 at zU;simp at zU;omega
  have Ly:=gh S e7;clear hv zU U It Z hN;go_enter aeL,ael
  go_wp2
  rw[<-HW.o]
  go_region_held3 (fun w'=>w'.cell? ⟨w.heap.size,0,none⟩=some (.int .i64 (S:Int))/\w'.cell? ⟨w.heap.size,1,none⟩=some (.int .i64 (B:Int))/\w'.cell? ⟨w.heap.size,2,none⟩=some (.slice a n cap)/\w'.cell? ⟨w.heap.size+1,0,none⟩=some (.int .i64 (t:Int))/\Ext W w')
   (exact⟨k7.j9 c0,k7.j9 c1,k7.j9 c2,k7.j9 cs,k7⟩)
   (first
     | (go_at_call 144;refine HV.o.mono ?_;rintro e w3 ⟨rfl,O⟩;have k7:=k7.trans O)
     | (go_at_call 143;refine(fM _ _).mono ?_;rw[HC.o];rintro e w' ⟨rfl,rfl⟩)
     | (go_at_call 61;refine(aq _ _ _ _).mono ?_;rw[Ja.o];rintro e w' ⟨rfl,rfl⟩))
  have d0:=k7.j9 c0;have ds:=k7.j9 cs;have hlt3:w.heap.size+1<w3.heap.size:=Kq _ _ ds;have hltm:w.heap.size<w3.heap.size:=by omega
  have X3:=ae (HX.o.trans k7);have Fm:=ae ((k7.block _ (j1 VH.o)).trans HBM.o);have Cz:=ae ((k7.block _ (j1 VH.o)).trans J'.o);clear k7 c0 c1 c2 cs
  have hS:Mu w (((((w3.alloc (.cells #[.slice none 0 0] 30)).alloc (.cells #[.int .i64 (-1)] 3)).alloc (.cells (be (List.replicate S 0)) 3)).alloc (.cells #[.slice (some ⟨w3.heap.size+1+1,0,none⟩) S S] 30)).alloc
   (.cells #[.func (.func 208) #[] (Lb w.heap.size (w.heap.size+1) w3.heap.size (w3.heap.size+1) (w3.heap.size+1+1+1) (w3.heap.size+1+1+1+1))] 200))
   S B t a n cap w.heap.size (w.heap.size+1) w3.heap.size (w3.heap.size+1) (w3.heap.size+1+1) (w3.heap.size+1+1+1) (w3.heap.size+1+1+1+1) (w3.heap.size+1+1+1+1+1) none 0 0 ⟨List.replicate S 0,[],-1⟩:=by
   have hx:Ext w3 (((((w3.alloc (.cells #[.slice none 0 0] 30)).alloc (.cells #[.int .i64 (-1)] 3)).alloc (.cells (be (List.replicate S 0)) 3)).alloc (.cells #[.slice (some ⟨w3.heap.size+1+1,0,none⟩) S S] 30)).alloc
    (.cells #[.func (.func 208) #[] (Lb w.heap.size (w.heap.size+1) w3.heap.size (w3.heap.size+1) (w3.heap.size+1+1+1) (w3.heap.size+1+1+1+1))] 200)) :=
    (((((Ext.alloc _ _).trans (Ext.alloc _ _)).trans (Ext.alloc _ _)).trans (Ext.alloc _ _)).trans (Ext.alloc _ _))
   refine⟨by simp;omega,?_,?_,?_,?_,?_,?_,?_,o4.nil _ _,by simp,X3.o.trans hx⟩
   ·exact(hx.block _ e7).trans Fm.o
   ·exact(hx.block _ e7).trans Cz.o
   ·repeat(first|exact ai _ _ _ e8|rw[aO _ _ _ (by simp;omega)]|rw[aO _ _ _ e8])
   ·repeat(first|exact ai _ _ _ e8|rw[aO _ _ _ (by simp;omega)]|rw[aO _ _ _ e8])
   ·unfold Row
    repeat(first|exact ai _ _ _ e8|rw[aO _ _ _ (by simp;omega)]|rw[aO _ _ _ e8])
   ·repeat(first|exact ai _ _ _ e8|rw[aO _ _ _ (by simp;omega)]|rw[aO _ _ _ e8])
   ·repeat(first|exact ai _ _ _ e8|rw[aO _ _ _ (by simp;omega)]|rw[aO _ _ _ e8])
  have T1:=ae (T7 HM.o ht HG.o _ _ _ _ _ _ _ _ S 0 0 (t:Int) 0 t _ _ _ _ _ rfl rfl e7 ht e7 e8 hS);have OI:∀(args:Array Value) (w:World),(callFunc 208 args).run Tryz.prog w=.ok (.enter 208 args) w:=jL;have csW:=aam hS.hs;have C4:w.heap.size≠w3.heap.size:=by omega
  have Dt:w.heap.size≠w3.heap.size+1:=by omega
  have hq3:w.heap.size≠w3.heap.size+1+1:=by omega
  have hq4:w.heap.size≠w3.heap.size+1+1+1:=by omega
  have EX:w.heap.size+1≠w3.heap.size:=by omega
  have hq6:w.heap.size<w3.heap.size+1+1+1:=by omega
  have hq7:w.heap.size<w3.heap.size+1+1:=by omega
  have hq8:w.heap.size<w3.heap.size+1:=by omega
  clear hS;go_wp2_with fail;refine T1.o.mono ?_;rintro e w7 ⟨rfl,a5,n5,c5,I⟩;have I6:=ae I;have cb:=aam I.hb;have co:=aam I.ho;have hF:=kB S B G t Ec S t [] 0 ⟨List.replicate S 0,[],-1⟩ (ao _) e8 ht (fun j _=>by simp[Iw]);have Iv:=fz S B G t HM.o.bd S [];unfold jr at hF;obtain⟨f1,f2,f3⟩:=hF;simp only[ab2,List.take_zero,aaX,Int.zero_add]at f3;have f4:(dw S B G t S t 0 ⟨List.replicate S 0,[],-1⟩).Df=(bO S B G t S []).1/\(dw S B G t S t 0 ⟨List.replicate S 0,[],-1⟩).most=(bO S B G t S []).2:=by
   rcases f3 with⟨_,g2,g3⟩|⟨g1,_⟩
   ·exact⟨g2,g3⟩
   ·omega
  have HF:=ae f4;obtain⟨mo,J⟩:=b9 ((dw S B G t S t 0 ⟨List.replicate S 0,[],-1⟩).most);rw[<-J]at co;have HMO:=ae J;clear I f1 f2 f3 f4 Iv J Ly OI
  go_wp2
  go_quiet (fail)
  go_wp2
  rw[A5.o,ry A5.o];refine bR (v:=.tuple #[.slice a5 n5 c5,.int .i64 mo,.bool true]) (by simp[results,adP,go_sem]) rfl ⟨⟨_,by rw[<-HF.o.2,<-HMO.o],?_⟩,I6.o.Ld.trans (Bj.ext ⟨_,rfl⟩)⟩;rw[<-HF.o.1];exact(I6.o.own.ext (Bj.ext ⟨_,rfl⟩)).mono e7
def FA(S B:Nat)(G:j5)(s:Nat):Int:=(bO S B G s S []).2
def E4(x y:Int)(G:j5):Nat:=if cq x y G=true then(x+y).toNat else 0
def Ey(x y:Int)(G:j5):j7:=if cq x y G=true then Ag (FA x.toNat y.toNat G) (cN (x+y).toNat) else []
theorem ob(S B:Nat)(G:j5):∀(r:Nat) (taken:j7),(bO S B G 0 r taken).2=0
 | 0,_=>rfl
 | r+1,taken=>by
   rw[fE];have hno:∀k,cU S B G 0 r taken k=(-1::(bO S B G 0 r taken).1,(bO S B G 0 r taken).2):=by
    intro k
    induction k with
    | zero=>rfl
    | succ k ih=>rw[cM,hD (by simp[eW,bit]),ih]
   rw[hno];exact ob S B G r taken
theorem R9(I:Ln S B G)(s:Nat):-500<=FA S B G s/\FA S B G s<=500:=by
 have:=fz S B G s I.bd S [];have:=I.sb;unfold FA;omega
theorem MO(hv:cq (S:Int) (B:Int) G=true)(Ec:S+B<=5)(hs:s<cN (S+B)):et (S:Int) (B:Int) G (s:Int)=true:=by
 have It:=eH (S+B) Ec;have I:BO ((S:Int)+(B:Int))=(cN (S+B):Int):=by rw[<-It];simp
 unfold et r9;rw[hv,I];simp;omega
theorem kY:IsGo Tryz.prog 145:=isGo Tryz.func145 e9 e9
theorem mj{bm:Nat}{cap:Nat}(h:cH w a n cap G)(hm:w.heap[bm]?=some (.cells #[.int .i64 (S:Int),.int .i64 (B:Int),.slice a n cap] 99 (0,0)))
 (hv:cq (S:Int) (B:Int) G=true) (Ec:S+B<=5) (hs:s<cN (S+B)) :
 Calls Tryz.prog 145 #[.int .i64 (s:Int),.pointer (some ⟨bm,0,none⟩)] w fun e w'=>e=.returned (.int .i64 (FA S B G s))/\Ext w w':=by
 have HB:=ae (sh (x:=(S:Int)) (y:=(B:Int)) (s:=(s:Int)) h);have HR:=ae (show(jo (S:Int) (B:Int) G (s:Int)).2=FA S B G s by rw[ry (MO hv Ec hs)];rfl);have c0:w.cell? ⟨bm,0,none⟩=some (.int .i64 (S:Int)):=by rw[tn _ _ _ _ _ _ hm];rfl
 have c1:w.cell? ⟨bm,1,none⟩=some (.int .i64 (B:Int)):=by rw[tn _ _ _ _ _ _ hm];rfl
 have c2:w.cell? ⟨bm,2,none⟩=some (.slice a n cap):=by rw[tn _ _ _ _ _ _ hm];rfl
 clear h hm hv hs;go_enter Tryz.func145,Tryz.ntmps145
 go_wp2_with fail;refine HB.o.mono ?_;rw[HR.o];rintro e w1 ⟨⟨v,rfl,ho⟩,hx⟩
 go_wp2
 go_ret;exact⟨rfl,hx⟩
theorem mZ{cap:Nat}(h:cH w a n cap G):
 Calls Tryz.prog 86 #[gP x y a n cap] w fun e w'=>eT w' w.heap.size e (E4 x y G) (Ey x y G) (cq x y G)/\Ext w w':=by
 have HX:=ae ((Ext.alloc w (.cells #[.int .i64 x,.int .i64 y,.slice a n cap] 99)).trans (Ext.alloc _ (.cells #[.int .i64 0,.slice none 0 0] 32)));have HV:=ae (jy (x:=x) (y:=y) (h.ext HX.o));have HI:=ae (h.ext HX.o);clear h;cases hv:cq x y G
 ·rw[hv]at HV;have BV:=ae hv;clear hv;go_enter Tryz.func86,Tryz.ntmps86
  go_wp2_with fail;refine HV.o.mono ?_;rintro e w1 ⟨rfl,hx⟩;have O:w1.cell? ⟨w.heap.size+1,0,none⟩=some (.int .i64 0):=hx.j9 e8;have r1:w1.cell? ⟨w.heap.size+1,1,none⟩=some (.slice none 0 0):=hx.j9 e8;have f0:w1.frozen? ⟨w.heap.size+1,0,none⟩=false:=(hx.zq _ _ e8).trans e8;have f1:w1.frozen? ⟨w.heap.size+1,1,none⟩=false:=(hx.zq _ _ e8).trans e8;have yZ:=ae (HX.o.trans hx);clear hx
  go_wp2
  refine bR (v:=.tuple #[.agg #[.int .i64 0,.slice none 0 0],.bool false]) (by simp[results,Tryz.results86,go_sem,O,r1]) rfl ⟨⟨.slice none 0 0,?_,?_⟩,?_⟩
  ·unfold E4;rw[BV.o];rfl
  ·unfold Ey;rw[BV.o];exact⟨rfl,.inl ⟨rfl,rfl⟩⟩
  ·exact(yZ.o.setCell e8 _).setCell e8 _
 ·rw[hv]at HV;obtain⟨S,B,rfl,rfl,K⟩:=jH hv;have Ec:=K.sb;have hN:=bP (S+B) Ec;have h1:1<=S+B:=by have:=K.s1;omega
  have BV:=ae hv;have HM:=ae K;have J:(S:Int)+(B:Int)=((S+B:Nat):Int):=by simp
  have W4:=ae J;clear hv K J;go_enter Tryz.func86,Tryz.ntmps86
  go_wp2_with fail;refine HV.o.mono ?_;rintro e w1 ⟨rfl,hx⟩;have c0:w1.cell? ⟨w.heap.size,0,none⟩=some (.int .i64 (S:Int)):=hx.j9 e8;have c1:w1.cell? ⟨w.heap.size,1,none⟩=some (.int .i64 (B:Int)):=hx.j9 e8;have HB:=ae (show w1.heap[w.heap.size]?=some (.cells #[.int .i64 (S:Int),.int .i64 (B:Int),.slice a n cap] 99 (0,0))from(hx.block _ (by simp;omega)).trans (by rw[aO _ _ _ e8];exact ai _ _ _ rfl));have yZ:=ae hx;have Hp:=ae (HI.o.ext hx);clear hx;have DF:w.heap.size<w1.heap.size:=Kq _ _ c0;have HT:b7 (iu Tryz.prog w1 145 #[.pointer (some ⟨w.heap.size,0,none⟩)] (cN (S+B)) (FA S B G)):=ae fun s w2 hs k =>
   mj (Hp.o.ext k) ((k.block _ (mr HB.o)).trans HB.o) BV.o Ec hs
  have Xd:=ae (lq h1 Ec kY HT.o (ob S B G S []) (fun s _=>R9 HM.o s));rw[<-W4.o]at Xd;go_wp2_with fail;refine Xd.o.mono ?_;rintro e w2 ⟨⟨v,rfl,ho⟩,hx⟩;obtain⟨a2,Q,c2,rfl,Gu⟩:=ho.var;have I:=ae (yZ.o.trans hx);have O:w2.cell? ⟨w.heap.size+1,0,none⟩=some (.int .i64 0):=I.o.j9 e8;have r1:w2.cell? ⟨w.heap.size+1,1,none⟩=some (.slice none 0 0):=I.o.j9 e8;have f0:w2.frozen? ⟨w.heap.size+1,0,none⟩=false:=(I.o.zq _ _ e8).trans e8;have f1:w2.frozen? ⟨w.heap.size+1,1,none⟩=false:=(I.o.zq _ _ e8).trans e8;have HO:=ae ho;have U:=yZ.o.size;simp at U;clear ho hx
  go_wp2
  have hp:E4 (S:Int) (B:Int) G=S+B:=by unfold E4;rw[BV.o,hI rfl];omega
  have hl:Ey (S:Int) (B:Int) G=Ag (FA S B G) (cN (S+B)):=by
   unfold Ey;rw[BV.o,hI rfl];have e:((S:Int)+(B:Int)).toNat=S+B:=by omega
   rw[e];rfl
  rw[hp,hl];refine bR (v:=.tuple #[.agg #[.int .i64 ((S+B:Nat):Int),.slice a2 Q c2],.bool true]) (by simp[results,Tryz.results86,go_sem,O,r1]) rfl ⟨⟨.slice a2 Q c2,rfl,?_⟩,?_⟩
  ·refine HO.o.mono e7 |>.keep fun j hj=>?_
   have:=(HO.o.lt j hj).1;rw[bB _ _ _ _ (by simp;omega),bB _ _ _ _ (by simp;omega)]
  ·exact((HX.o.trans I.o).setCell e8 _).setCell e8 _
theorem nz{cap:Nat}(h:cH w a n cap G):
 Calls Tryz.prog 95 #[gP x y a n cap] w fun e w'=>eT w' w.heap.size e (E4 x y G) (Ey x y G) (cq x y G)/\Ext w w':=by
 have HX:=ae ((Ext.alloc w (.cells #[.int .i64 x,.int .i64 y,.slice a n cap] 99)).trans (Ext.alloc _ (.cells #[.int .i64 0,.slice none 0 0] 32)));have HV:=ae (pf (x:=x) (y:=y) (h.ext HX.o));have HI:=ae (h.ext HX.o);clear h;cases hv:cq x y G
 ·rw[hv]at HV;have BV:=ae hv;clear hv;go_enter Tryz.func95,Tryz.ntmps95
  go_wp2_with fail;refine HV.o.mono ?_;rintro e w1 ⟨rfl,hx⟩;have J:w1.cell? ⟨w.heap.size+1,0,none⟩=some (.int .i64 0):=hx.j9 e8;have r1:w1.cell? ⟨w.heap.size+1,1,none⟩=some (.slice none 0 0):=hx.j9 e8;have f0:w1.frozen? ⟨w.heap.size+1,0,none⟩=false:=(hx.zq _ _ e8).trans e8;have f1:w1.frozen? ⟨w.heap.size+1,1,none⟩=false:=(hx.zq _ _ e8).trans e8;have yZ:=ae (HX.o.trans hx);clear hx
  go_wp2
  refine bR (v:=.tuple #[.agg #[.int .i64 0,.slice none 0 0],.bool false]) (by simp[results,Tryz.results95,go_sem,J,r1]) rfl ⟨⟨.slice none 0 0,?_,?_⟩,?_⟩
  ·unfold E4;rw[BV.o];rfl
  ·unfold Ey;rw[BV.o];exact⟨rfl,.inl ⟨rfl,rfl⟩⟩
  ·exact(yZ.o.setCell e8 _).setCell e8 _
 ·rw[hv]at HV;obtain⟨S,B,rfl,rfl,O⟩:=jH hv;have Ec:=O.sb;have hN:=bP (S+B) Ec;have BV:=ae hv;have HM:=ae O;have It:=eH (S+B) Ec;have HC:=ae (show BO ((S:Int)+(B:Int))=(cN (S+B):Int)by rw[<-It];simp);clear hv O It;go_enter Tryz.func95,Tryz.ntmps95
  go_wp2_with fail;refine HV.o.mono ?_;rintro e w1 ⟨rfl,hx⟩;have c0:w1.cell? ⟨w.heap.size,0,none⟩=some (.int .i64 (S:Int)):=hx.j9 e8;have c1:w1.cell? ⟨w.heap.size,1,none⟩=some (.int .i64 (B:Int)):=hx.j9 e8;have DF:w.heap.size<w1.heap.size:=Kq _ _ c0;have Hw:w.heap.size+1<w1.heap.size:=by have:=hx.size;simp at this;omega
  have yZ:=ae hx;have Hp:=ae (HI.o.ext hx);clear hx;go_wp2_with (first|(go_at_call 99;refine(df _ _).mono ?_;rw[HC.o];rintro e w' ⟨rfl,rfl⟩))
  go_loopw [6] (fun i wr=>∃(k:Nat) (a1:j6) (n1 c1:Nat),k<=cN (S+B)/\i=.int .i64 (k:Int)/\b7 (o4 wr (w1.heap.size+1) (.slice a1 n1 c1) (Ag (FA S B G) k))/\b7 (wr.heap[w1.heap.size]?=some (.cells #[.int .i64 ((S:Int)+(B:Int)),.slice a1 n1 c1] 32 (0,0)))/\b7 (Ext w1 wr)) (fun i _=>cN (S+B)-(intOf i).toNat)
  case atStart =>
   refine⟨0,none,0,0,KJ _,rfl,ae (by unfold Ag;exact⟨rfl,.inl ⟨rfl,rfl⟩⟩),ae ?_,ae ?_⟩
   ·exact ai _ _ _ e8
   ·exact Ext.alloc _ _
  case round =>
   obtain⟨k,a1,n1,p1,hk,rfl,HO,HB,I⟩:=hrel;have K:=mr HB.o;have c0:wr.cell? ⟨w.heap.size,0,none⟩=some (.int .i64 (S:Int)):=(yZ.o.trans I.o).j9 e8;have c1':wr.cell? ⟨w.heap.size,1,none⟩=some (.int .i64 (B:Int)):=(yZ.o.trans I.o).j9 e8;have c2':wr.cell? ⟨w.heap.size,2,none⟩=some (.slice a n cap):=(yZ.o.trans I.o).j9 e8;have Qf:w.heap.size<wr.heap.size:=by omega
   by_cases hlt:k<cN (S+B)
   ·have Q:=ae ((Hp.o.ext I.o).ext (Ext.alloc _ (.cells #[] 3)));have HF:=ae (show(bO S B G k S []).2=FA S B G k from rfl)
    go_wp2_with (first
     | (go_at_call 159;refine(yJ HM.o (show k<32 by omega) S 0 0 rfl e7 _ a n cap _ 0 0 [] Q.o (o4.made' wr 0 _ rfl e7).ints e8).mono ?_;rw[HF.o];rintro e w4 ⟨⟨v4,rfl,C5⟩,zX⟩;have X4:=ae ((Ext.alloc wr (.cells #[] 3)).trans zX);have Z:=ae (HO.o.ext X4.o);have U:=ae ((X4.o.block _ K).trans HB.o);have DY:=al U.o;have Rq:=mr U.o;clear C5 zX)
     | (at_builtin;refine bu rfl _ _ rfl (w1.heap.size+1) (.slice a1 n1 p1) _ rfl (Z.o.ext (Ext.alloc _ _)) _ 1 _ [FA S B G k] rfl (Ints.one' _ _ _ _ rfl) (by rw[gW];omega) (by simp;omega) ?_;intro v3 w5 Av EZ Ff;obtain⟨a3,n3,c3,rfl,Ia⟩:=Av.var;have zi:=ae Av;have zk:=ae (ak ((I.o.trans X4.o).trans (Ext.alloc _ _)) EZ (fun j hj=>by have:=(Z.o.lt j hj).1;omega));have A6:=ae ((EZ.block _ (by simp;omega) (fun e=>by have:=(Z.o.lt _ e.symm).1;omega)).trans (((Ext.alloc w4 _).block _ Rq).trans U.o));have cg3:=al A6.o;have fg3:=sd w5 w1.heap.size 1 _ _ A6.o;clear Av EZ Ff))
    go_roundw
    case rel =>
     refine⟨k+1,a3,n3,c3,by omega,by go_num,ae ?_,ae (jU A6.o),ae (zk.o.setCell e8 _)⟩;rw[il];exact zi.o.keep fun j hj=>bB _ _ _ _ (by have:=(zi.o.lt j hj).1;simp;omega)
    case measure=>simp[intOf];omega
   ·have zQ:k=cN (S+B):=by omega
    subst zQ;have Fh:=an HB.o;have DY:=al HB.o;have J:wr.cell? ⟨w.heap.size+1,0,none⟩=some (.int .i64 0):=(yZ.o.trans I.o).j9 e8;have r1:wr.cell? ⟨w.heap.size+1,1,none⟩=some (.slice none 0 0):=(yZ.o.trans I.o).j9 e8;have f0:wr.frozen? ⟨w.heap.size+1,0,none⟩=false:=((yZ.o.trans I.o).zq _ _ e8).trans e8;have f1:wr.frozen? ⟨w.heap.size+1,1,none⟩=false:=((yZ.o.trans I.o).zq _ _ e8).trans e8
    go_wp2
    have hp:E4 (S:Int) (B:Int) G=S+B:=by unfold E4;rw[BV.o,hI rfl];omega
    have hl:Ey (S:Int) (B:Int) G=Ag (FA S B G) (cN (S+B)):=by
     unfold Ey;rw[BV.o,hI rfl];have e:((S:Int)+(B:Int)).toNat=S+B:=by omega
     rw[e];rfl
    rw[hp,hl];refine bR (v:=.tuple #[.agg #[.int .i64 ((S:Int)+(B:Int)),.slice a1 n1 p1],.bool true]) (by simp[results,Tryz.results95,go_sem,J,r1]) rfl ⟨⟨.slice a1 n1 p1,by simp,?_⟩,?_⟩
    ·refine HO.o.mono e7 |>.keep fun j hj=>?_
     have:=(HO.o.lt j hj).1;rw[bB _ _ _ _ (by simp;omega),bB _ _ _ _ (by simp;omega)]
    ·exact((HX.o.trans (yZ.o.trans I.o)).setCell e8 _).setCell e8 _
def CJ(s:Nat)(k:Nat):Nat:=(List.range k).countP fun j=>bit (s:Int) j
theorem qU(s k:Nat):CJ s (k+1)=CJ s k+if bit (s:Int) k then 1 else 0:=by
 unfold CJ;rw[TP,List.countP_append];simp[List.countP_cons]
theorem pS(s k:Nat):CJ s k<=k:=by unfold CJ;exact SC acr e8
theorem yE(s:Nat)(hs:s<4294967296)(w:World):Calls Tryz.prog 41 #[.int .i64 (s:Int)] w fun e w'=>e=.returned (.int .i64 (CJ s 5:Int))/\w=w':=by
 go_enter Tryz.func41,Tryz.ntmps41
 go_wp2_with fail
 go_loop [3,4] (fun I kk=>∃k:Nat,k<=5/\kk=.int .i64 (k:Int)/\I=.int .i64 (CJ s k:Int)) (fun _ kk=>5-(intOf kk).toNat)
 case atStart=>exact⟨0,by omega,rfl,rfl⟩
 case round =>
  obtain⟨k,hk,rfl,rfl⟩:=hrel;have Yu:=pS s k;by_cases hlt:k<5
  ·have HP:=ae (cw (s:Int) (k:Int) w e7);have HB:=ae (el (s:Int) k e7 e7);have HS:=ae (qU s k);cases hb:bit (s:Int) k
   all_goals
    rw[HB.o,hb]at HP;rw[hb]at HS;clear hb;go_wp2_with fail;refine HP.o.mono ?_;rintro e w' ⟨rfl,rfl⟩;go_wp2_with fail
    go_round
    case rel=>exact⟨k+1,by omega,by go_num,by rw[HS.o];go_num⟩
    case measure=>simp[intOf];omega
  ·have J:k=5:=by omega
   subst J;go_wp2_with fail;go_ret;exact⟨rfl,rfl⟩
theorem qu(s:Nat)(hs:s<4294967296)(w:World):Calls Tryz.prog 85 #[.int .i64 (s:Int)] w fun e w'=>e=.returned (.int .i64 (CJ s 5:Int))/\w=w':=by
 go_enter Tryz.func85,Tryz.ntmps85
 go_wp2_with fail
 go_loop [3,5] (fun I kk=>∃k:Nat,k<=5/\kk=.int .i64 (k:Int)/\I=.int .i64 (CJ s k:Int)) (fun _ kk=>5-(intOf kk).toNat)
 case atStart=>exact⟨0,by omega,rfl,rfl⟩
 case round =>
  obtain⟨k,hk,rfl,rfl⟩:=hrel;have Yu:=pS s k;by_cases hlt:k<5
  ·have HP:=ae (fP (s:Int) (k:Int) w e7);have HB:=ae (el (s:Int) k e7 e7);have HS:=ae (qU s k);cases hb:bit (s:Int) k
   all_goals
    rw[HB.o,hb]at HP;rw[hb]at HS;clear hb;go_wp2_with fail;refine HP.o.mono ?_;rintro e w' ⟨rfl,rfl⟩;go_wp2_with fail
    go_round
    case rel=>exact⟨k+1,by omega,by go_num,by rw[HS.o];go_num⟩
    case measure=>simp[intOf];omega
  ·have J:k=5:=by omega
   subst J;go_wp2_with fail;go_ret;exact⟨rfl,rfl⟩
theorem Ints.oneE(w:World)(x:Int)(t:TypeId)(n:Nat)(hn:n=w.heap.size):Ints (w.alloc (.cells #[.int .i64 x] t)) (some ⟨n,0,none⟩) 1 1 [x]:=by subst hn;exact Ints.one _ _ _
theorem Cc{w':World}{g:Nat}{o:Obj}(hx:Ext w w')(h:w.heap[g]?=some o):w'.heap[g]?=some o:=(hx.block _ (mr h)).trans h
def iG(l:j7)(s:Nat):Int:=l[CJ s 5]?.getD 0
theorem ph{m cap:Nat}{l:j7}(h:Ints w a m cap l)(hn:n<=5)(hm:∀s,s<cN n->CJ s 5<m):
 Calls Tryz.prog 94 #[.int .i64 (n:Int),.slice a m cap] w fun e w'=>(∃v,e=.returned (.agg #[.int .i64 (n:Int),v])/\o4 w' w.heap.size v (Ag (iG l) (cN n)))/\Ext w w':=by
 obtain⟨W,hW⟩:=b9 ((w.alloc (.cells #[.int .i64 0,.slice none 0 0] 32)).alloc (.cells #[.int .i64 (n:Int),.slice none 0 0] 32));have FL:W.heap.size=w.heap.size+2:=by rw[hW];simp
 have y7:=ae (show Ext w W by rw[hW];exact(Ext.alloc _ _).trans (Ext.alloc _ _));have Af:=ae (show W.heap[w.heap.size+1]?=some (.cells #[.int .i64 (n:Int),.slice none 0 0] 32 (0,0))by rw[hW];exact ai _ _ _ e8);have zF:=ae (show W.heap[w.heap.size]?=some (.cells #[.int .i64 0,.slice none 0 0] 32 (0,0))by rw[hW,aO _ _ _ e8];exact ai _ _ _ rfl);have HI:=ae h;have l8:=h.l8;have l9:=h.l9;have HM:=ae hm;have Ll:=ae (fun w'=>df (n:Int) w');rw[eH n hn]at Ll;have Y9:=bP n hn;obtain⟨N,hN⟩:=b9 (cN n);rw[<-hN]at Ll Y9 HM;rw[<-hN];clear h hm hN;go_enter Tryz.func94,Tryz.ntmps94
 go_upto_region 2 with fail;rw[<-hW];clear hW;go_wp2_with fail
 go_loopg [6] N (fun gk ss wr=>∃(k:Nat) (a1:j6) (n1 c1:Nat),b7 (gk+k=N)/\ss=.int .i64 (k:Int)/\b7 (wr.heap[w.heap.size+1]?=some (.cells #[.int .i64 (n:Int),.slice a1 n1 c1] 32 (0,0)))/\b7 (wr.heap[w.heap.size]?=some (.cells #[.int .i64 0,.slice none 0 0] 32 (0,0)))/\b7 (o4 wr (w.heap.size+2) (.slice a1 n1 c1) (Ag (iG l) k))/\b7 (Ext w wr)/\b7 (w.heap.size+2<=wr.heap.size))
 case atStart=>exact⟨0,_,_,_,ae e7,rfl,Af,zF,ae (o4.nil _ _),y7,ae e7⟩
 clear Af zF y7
 case round =>
  obtain⟨g1,o7⟩:=b9 gk;subst o7;obtain⟨wr,Aw⟩:=b9 wr;subst Aw;obtain⟨k,a1,n1,c1,HK,rfl,HG,HR,HO,HX,HZ⟩:=hrel;have hz:=HZ.o;have c0:=an HG.o;have c1':=al HG.o;go_wp2_with fail;refine(Ll.o _).mono ?_;rintro e w1 ⟨rfl,rfl⟩;by_cases hlt:k<N
  ·have O:=HM.o k hlt;obtain⟨b,off,rfl,hc⟩:=(HI.o.ext HX.o).at O;obtain⟨J,Uw⟩:=b9 (CJ k 5);have HS:=ae (fun w'=>yE k e7 w');have HF:=ae (show Ag (iG l) (k+1)=Ag (iG l) k++[l[J]?.getD 0]by rw[il,Uw];rfl);simp only[<-Uw]at HS;rw[<-Uw]at hc O;obtain⟨y,hy⟩:=b9 (l[J]?.getD 0);rw[<-hy]at hc HF;have KL:=ae (gW (iG l) k);have hpi:(J:Int)<(m:Int):=by omega
   have F7:(0:Int)<=(J:Int):=by omega
   have HD:=ae (show l[J]?.getD 0=y from hy.symm)
   have Xj:=ae (fun(w':World) (hx:Ext w w')=>(show w'.cell? ⟨b,off+J,none⟩=some (.int .i64 y)by
    obtain⟨b',off',he,hc'⟩:=(HI.o.ext hx).at O;simp only[bA,mq,zz]at he;obtain⟨rfl,rfl⟩:=he
    rw[hc',HD.o]))
   have k7:Ext wr wr.drew:=Ext.drew wr;have Z6:=ae (HO.o.ext k7);have U:=ae (Cc k7 HG.o);have Z:=ae (Cc k7 HR.o);have WS:=ae (HX.o.trans k7);clear Uw hy hc c0;go_wp2_with fail;refine dD (M:=[10]) (S:=fun w'=>w'.cell? ⟨w.heap.size+1,1,none⟩=some (.slice a1 n1 c1)/\w'.cell? ⟨b,off+J,none⟩=some (.int .i64 y)) e9 ?_;have l7:=JH (al U.o) (Xj.o _ WS.o);obtain⟨wd,hwd⟩:=b9 wr.drew;have hzd:w.heap.size+2<=wd.heap.size:=by rw[hwd];exact hz
   rw[<-hwd]at l7 Z6 U Z WS;rw[<-hwd];clear hwd k7;refine lp 0 ?_;refine ll 1 ?_;refine lp 2 ?_;refine lp 3 ?_;refine bg (i:=4) (oi:=?_) ?_ ?_ ?_ (fun K hK=>?_);rotate_left
   ·simp only[gA,gB,gC];rfl
   ·kernel_rfl
   ·kernel_rfl
   go_simp;go_at_call 41;refine(HS.o _).mono ?_;rintro e w8 ⟨rfl,rfl⟩;go_wp2_with fail;refine hK.out _ _ (fun _=>JH (al U.o) (Xj.o _ WS.o)) ?_;have l7:=JH (al U.o) (Xj.o _ WS.o);clear hK K
   try simp only[Act.put,sA,sB,sC]
   refine lp 5 ?_;refine ll 6 ?_;refine bg (i:=7) (oi:=?_) ?_ ?_ ?_ (fun K hK=>?_);rotate_left
   ·simp only[gA,gB,gC];rfl
   ·kernel_rfl
   ·kernel_rfl
   go_simp;refine hK.out _ _ (fun _=>JH (al (Cc (Ext.alloc _ _) U.o)) (Xj.o _ (WS.o.trans (Ext.alloc _ _)))) ?_;clear hK K
   try simp only[Act.put,sA,sB,sC]
   refine bg (i:=8) (oi:=?_) ?_ ?_ ?_ (fun K hK=>?_);rotate_left
   ·simp only[gA,gB,gC];rfl
   ·kernel_rfl
   ·kernel_rfl
   refine bF _ _ j0 (w.heap.size+2) (.slice a1 n1 c1) _ j0 (Z6.o.ext (Ext.alloc _ _)) _ 1 _ [y] j0 (Ints.oneE _ _ _ _ e8) (by rw[KL.o];omega) (by simp;omega) ?_;intro v9 w9 ho Ql k9;obtain⟨a9,n9,c9,rfl,PS⟩:=ho.var;have FR:=ae ho;have PY:=ae ((Ql.block (w.heap.size+1) (mr (Cc (Ext.alloc _ _) U.o)) (fun e=>by have:=(Z6.o.lt _ e.symm).1;omega)).trans (Cc (Ext.alloc _ _) U.o));have W5:=ae ((Ql.block w.heap.size (mr (Cc (Ext.alloc _ _) Z.o)) (fun e=>by have:=(Z6.o.lt _ e.symm).1;omega)).trans (Cc (Ext.alloc _ _) Z.o));have GG:=ae (ak (WS.o.trans (Ext.alloc _ _)) Ql (fun j hj=>by have:=(Z6.o.lt j hj).1;omega));have hz9:=Ql.size;rw[V4]at hz9;have WO:=sd w9 (w.heap.size+1) 1 _ _ PY.o;have Q:=al PY.o;clear ho Ql k9;refine hK.out _ _ (fun _=>JH Q (Xj.o _ GG.o)) ?_;have l7:=JH Q (Xj.o _ GG.o);clear hK K
   try simp only[Act.put,sA,sB,sC]
   refine lp 9 ?_;refine dM (i:=10) (oi:=?_) (w':=?_) ?_ ?_ ?_ ?_ ?_ ?_ ?_;rotate_left 2
   ·simp only[gA,gB,gC];rfl
   ·kernel_rfl
   ·kernel_rfl
   ·exact EE e9
   ·rfl
   ·go_simp;(try with_reducible rfl)
   try simp only[Act.put,sA,sB,sC]
   refine dV e9 ?_ _;obtain⟨I,JX⟩:=b9 (w9.setCell ⟨w.heap.size+1,1,none⟩ (.slice a9 n9 c9));have HG10:=ae (show I.heap[w.heap.size+1]?=some (.cells #[.int .i64 (n:Int),.slice a9 n9 c9] 32 (0,0))by rw[JX];exact ta w9 _ 1 _ _ _ PY.o);have Sg:=ae (show I.heap[w.heap.size]?=some (.cells #[.int .i64 0,.slice none 0 0] 32 (0,0))by rw[JX];exact(bB _ _ _ _ (by show w.heap.size≠w.heap.size+1;omega)).trans W5.o)
   have Cg:=ae (show o4 I (w.heap.size+2) (.slice a9 n9 c9) (Ag (iG l) (k+1))by
    rw[JX,HF.o];exact FR.o.keep fun j hj=>bB _ _ _ _ (by have:=(FR.o.lt j hj).1;show j≠w.heap.size+1;omega))
   have IC:=ae (show Ext w I by rw[JX];exact GG.o.setCell (p:=⟨w.heap.size+1,1,none⟩) (Cj _) _);have hz10:w.heap.size+2<=I.heap.size:=by rw[JX];simp;omega
   rw[<-JX];clear JX WO Q l7;go_wp2_with fail
   go_roundg (g1-1)
   case measure=>have:=HK.o;omega
   case rel=>exact⟨k+1,_,_,_,ae (j1 HK.o),by go_num,HG10,Sg,Cg,IC,ae hz10⟩
  ·have K1:N=k:=by have:=HK.o;omega
   subst K1;have r0:=an HR.o;have r1:=al HR.o;have rf:=fun j=>sd wr w.heap.size j _ _ HR.o
   obtain⟨I,JX⟩:=b9 ((wr.setCell ⟨w.heap.size,0,none⟩ (.int .i64 (n:Int))).setCell ⟨w.heap.size,1,none⟩ (.slice a1 n1 c1))
   have Cg:=ae (show o4 I (w.heap.size+2) (.slice a1 n1 c1) (Ag (iG l) N)by
    rw[JX];exact HO.o.keep fun j hj=>(bB _ _ _ _ (by have:=(HO.o.lt j hj).1;show j≠w.heap.size;omega)).trans (bB _ _ _ _ (by have:=(HO.o.lt j hj).1;show j≠w.heap.size;omega)))
   have IC:=ae (show Ext w I by rw[JX];exact(HX.o.setCell (p:=⟨w.heap.size,0,none⟩) (ao _) _).setCell (p:=⟨w.heap.size,1,none⟩) (ao _) _);have Sg:=ae (show I.heap[w.heap.size]?=some (.cells #[.int .i64 (n:Int),.slice a1 n1 c1] 32 (0,0))by rw[JX];exact ta _ _ 1 _ _ _ (ta wr _ 0 _ _ _ HR.o));have z0:=an Sg.o;have z1:=al Sg.o;rw[JX]at z0 z1;go_wp2_with fail;rw[JX]at Cg IC;refine bR (v:=.agg #[.int .i64 (n:Int),.slice a1 n1 c1]) (by simp[results,Tryz.results94,go_sem,z0,z1]) rfl ⟨⟨_,rfl,Cg.o.mono e7⟩,IC.o⟩
