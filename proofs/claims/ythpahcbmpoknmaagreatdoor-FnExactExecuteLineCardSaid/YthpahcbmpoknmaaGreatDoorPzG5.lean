import Derived.Test.YthpahcbmpoknmaaGreatDoorPzG0
import Derived.StillTail
import Derived.Laws.EntriesVeiled
import Derived.Lib.ItoaNum
import Derived.Lib.Join
import Derived.Shelf.Strings.Prefix
import Derived.Shelf.Small.Wraps
import Derived.Shelf.Strings.OnBuilder
import Derived.Shelf.Strings.Cut
import Derived.Shelf.Strings.Replace
import Derived.Lib.AppendStr
import Derived.StillTailTactics
set_option linter.all false
set_option maxHeartbeats 6000000
set_option maxRecDepth 100000
namespace Go.Proofs.YthpahcbmpoknmaaGreatDoor
open Ending renaming returned->atn
open List renaming length->Lp
open Obj renaming cells->SH
open Value renaming slice->FB,bool->ato,string->atr,pointer->ats
open Go.Proofs.Tryz Go.RowKit
variable{σ:Prop}
section
abbrev TX:=@And.intro
def PP{P:Program}{f:FuncId}{a:Array atY}{w:J}{Q:Ending->J->Prop}{V:Type}{v:V->atY}{H:V->J->Prop}{R:J->Prop}(h:Calls P f a w λe w'=>(∃x,e=.returned (v x)/\H x w')/\R w')(k:∀w' x,H x w'->R w'->Q (.returned (v x)) w'):Calls P f a w Q:=h.mono (λe w' ⟨⟨x,y,z⟩,r⟩=>y▸k w' x z r)
def kp{P:Program}{Q:Exit->Act->J->Prop}{ops:Array Oper}{K:Nat}{a:Act}{w H:J}{S:J->Prop}(c:e9 (∀w',D4 H w'->S w'))(k:D4 H w.drew)(h:S w.drew->wpAnyH P .any ops Q S ops.size (Array.replicate ops.size false) a w.drew)(m:P.follows .mixedOrders=true:=by kernel_rfl):(Code.region K ops true).wp P Q a w:=k6 m (c.o _ k) h
def hF{P:Program}{f:FuncId}{a:Array atY}{w:J}{Q:Ending->J->Prop}{V:Type}{v:V->atY}{H:V->J->Prop}{R:J->Prop}(h:Calls P f a w λe w'=>(∃x,e=.returned (v x)/\H x w')/\R w')(k:∀w' x,H x w'->e9 (R w')->Q (.returned (v x)) w'):Calls P f a w Q:=h.mono (λe w' ⟨⟨x,y,z⟩,r⟩=>y▸k w' x z r)
def qc{P:Program}{f:FuncId}{a:Array atY}{w:J}{Q:Ending->J->Prop}{v:atY}{R:J->Prop}(h:Calls P f a w λe w'=>e=.returned v/\R w')(k:∀w',e9 (R w')->Q (.returned v) w'):Calls P f a w Q:=h.mono (λe w' ⟨y,r⟩=>y▸k w' r)
def er{b c o p:Nat}(h:some (⟨b,o,none⟩:Addr)=some ⟨c,p,none⟩):b=c/\o=p:=by simpa using h
def y5{A0 K A2 A3 H A5 P:Prop}(a0:A0)(a1:K)(a2:A2)(a3:A3)(a4:H)(Z:A5)(h:e9 A0->e9 K->e9 A2->e9 A3->e9 H->e9 A5->P):P:=h a0 a1 a2 a3 a4 Z
def Op{A0 H A2 A3 P:Prop}(a0:A0)(a1:H)(Z:A2)(K:A3)(h:e9 A0->e9 H->e9 A2->e9 A3->P):P:=h a0 a1 Z K
def kv{A0 K A2 A3 H P:Prop}(a0:A0)(a1:K)(a2:A2)(a3:A3)(Z:H)(h:e9 A0->e9 K->e9 A2->e9 A3->e9 H->P):P:=h a0 a1 a2 a3 Z
structure ob(P:Prop):Prop where
 o:P
def Mp{P Q:Prop}(k:ob Q)(h:ob Q->P:=by intro k;refine tk 3 ?_;refine tk 4 ?_;refine tk 5 ?_;refine tk 6 ?_;exact k.1):P:=h k
def O5{P Q:Prop}(k:ob Q)(h:ob Q->P:=by intro k;refine tk 11 ?_;refine tk 12 ?_;refine tk 13 ?_;exact k.1):P:=h k
def ZJ{P Q:Prop}(k:ob Q)(h:ob Q->P:=by intro k;refine tk 5 ?_;refine tk 6 ?_;refine tk 7 ?_;refine tk 8 ?_;refine tk 9 ?_;exact k.1):P:=h k
def Zk(h:σ:=by show w.heap.size≠w.heap.size+1;omega):σ:=h
def Zv(h:σ:=by simp[results,qq0,go_sem,r0,r1]<;>rfl):σ:=h
def Zx(h:σ:=by rw[wZ j9];exact LE rfl):σ:=h
def Zt(h:σ:=by intro h';rw[List.contains_eq_mem,P3]at hM;exact hM h'):σ:=h
def Tw(h:σ:=by rw[dI,HF.o,f8 j9,<-HQ1.o];exact C8):σ:=h
def TU(h:σ:=by simp[results,results237,go_sem]<;>rfl):σ:=h
def sg(h:σ:=by simp[results,results78,go_sem,r0,r1]<;>rfl):σ:=h
def RF(h:σ:=by have:=(HO.lt j hj).1;show j≠w.heap.size;omega):σ:=h
def SF(h:σ:=by simp[results,results246,go_sem]<;>rfl):σ:=h
def dk{P Q:Prop}(q:Q)(h:Q->P:=by intro q;go_roundg (gk-1);exact q;have:=HK.o;omega):P:=h q
variable{n i f g:Nat}{w w':J}{a a':Act}{listed l':Array Bool}{oi:Oper}{v x y:atY}{fid:FuncId}{ca:Array atY}{t:TypeId}{l:o7}
theorem mD(h:n<=1000000):Lp (Lib.decDigits n)<=21:=by
 have:=WZ (n:Int) O O
 rwa [Vd]at this
theorem rq{n:Int}(h:-1000000<=n/\n<=1000000):Lp (Lib.itoa n)<=21:=WZ n O O
def kr(V:o7)(k:Nat):List UInt8:=if V[k]?.getD 0=0 then [] else bJ (k:Int)++([32]++(Lib.itoa (V[k]?.getD 0)++[10]))
def dB(V:o7)(m:Nat):List UInt8:=(List.range m).flatMap (kr V)
theorem gF(V:o7)(m:Nat):dB V (m+1)=dB V m++kr V m:=by
 unfold dB;rw[mr,Vs];simp
def fz(p:Nat):List UInt8:=[112,108,97,121,101,114,115,32]++(Lib.decDigits p++[10])
theorem kt{V:o7}(H:∀k:Nat,-1000000<=V[k]?.getD 0/\V[k]?.getD 0<=1000000):∀m,Lp (dB V m)<=40*m
 | 0=>by simp[dB]
 | m+1=>by
   rw[gF,ar];have h1:=kt H m;have h2:Lp (kr V m)<=40:=by
    unfold kr;split
    ·simp
    have h3:=jJ (m:Int);have h4:=rq (H m);simp only[ar,mg,D1];omega
   omega
def eh(p:Nat)(V:o7):List UInt8:=if ak (p:Int) V=true then fz p++dB V (Lp V) else []
def Uy(h:σ:=by
 go_wp2;go_ret;exact⟨qq0 HF.symm,Ig.trans X1.o⟩
 ):σ:=h
def PT(h:σ:=by
 have SA:n=k:=by omega
 subst SA;go_wp2;go_ret;exact⟨cu (by rw[HF.o]),Ig.trans HX.o⟩
 ):σ:=h
def Kv(h:σ:=by
 rw[htq,aX,ar];have h1:=Lw.o k;have h2:=N4.o;unfold fz;simp only[ar,mg,D1];omega
 ):σ:=h
theorem ph{p:Nat}{a:o6}{cap:Nat}{V:o7}(h:d6 w a n cap V)(hV:∀k:Nat,-1000000<=V[k]?.getD 0/\V[k]?.getD 0<=1000000):
 f9 111 #[Id (p:Int) a n cap] w (atr (bs (eh p V))):=by
 have⟨W,Z⟩:=j7 (w.alloc (SH #[U p,FB a n cap] 31));have N':D4 w W:=by rw[Z];exact ZL
 have Ig:=I N';have HI:=I (h.ext N');have⟨y7,y8⟩:=h.ath;refine kv h.hlen (show W.cell? (IM w 0)=some (U p)by rw[Z];simp) (show W.cell? (IM w 1)=some (FB a n cap)by rw[Z];simp) hV (bY (p:=(p:Int)) HI) λHL G0 G1 HV Ho=>?_;cases D9:ak (p:Int) V
 ·rw[D9]at Ho;have HF:=I (show bs (eh p V)={ data:=#[] } by unfold eh;rw[D9];rfl);clear h N' hV D9;have g0:=G0.o;have g1:=G1.o;unfold f9;go_in
  go_upto_region 1 with rfl;rw[<-Z];clear Z;go_wp2_with rfl;refine qc Ho λw1 X1=>?_;have qq0:=@cu;exact Uy
 rw[D9]at Ho;obtain⟨q,hq,I6,Lk,hlen,Y5,_⟩:=ap D9;have HV0:=I Y5;obtain rfl:p=q:=O;have IU:n<=32:=by rw[<-HL.o,hlen];exact(bp p Lk).2
 have Ht:1<=n:=by rw[<-HL.o,hlen];exact(bp p Lk).1
 refine Op (show eh p V=fz p++dB V n by unfold eh;rw[i7 D9,HL.o]) (kt (V:=V) hV) (λw'=>Ad (w:=w') p O) (mD (n:=p) O) λHF Lw HP N4=>?_;clear h N' hV D9 hq hlen Y5;have g0:=G0.o;have g1:=G1.o;unfold f9;go_in
 go_upto_region 1 with rfl;rw[<-Z];clear Z;go_wp2_with rfl;refine qc Ho λw1 hx=>?_;have X1:=I hx;clear g0 g1;have g0:=X1.o9 G0.o;have g1:=X1.o9 G1.o;go_wp2_with rfl;refine qc (HP _) λw2 hx=>?_;have X2:=I (X1.trans hx);clear g0 g1;have g1:=X2.o9 G1.o;have⟨td,HTD⟩:=Ok (bs (Lib.decDigits p));have hts:td.size<=21:=by rw[HTD.o,aX];exact N4
 rw[<-HTD.o];go_wp2_with rfl;have Hx:=I (show({ data:=#[112,108,97,121,101,114,115,32] }:ByteArray)++td++{ data:=#[10] }=bs (fz p++dB V 1)by
  have h1:dB V 1=[]:=by rw[show(1:Nat)=0+1 from rfl,gF];unfold kr;rw[i7 HV0.o];rfl
  rw[h1,D0,HTD.o];unfold fz;rw[<-cI,<-cI,<-ByteArray.append_assoc];rfl)
 rw[Hx.o];clear g1
 go_loopg [3,4] n (λgk oo kk wr=>∃(k:Nat),e9 (gk+k=n+1)/\kk=U k/\oo=atr (bs (fz p++dB V k))/\e9 (D4 W wr)/\e9 (1<=k/\k<=n))
 ·exact⟨1,I rfl,rfl,rfl,X2,I ⟨m9 _,Ht⟩⟩
 rename Nat=>g1;rename J=>wr;obtain⟨k,HK,rfl,rfl,HX,HB⟩:=hrel;have⟨Ij,E'⟩:=HB.o;have q1:=HX.o9 G1.o;by_cases hlt:k<n
 ·obtain⟨b,off,rfl,hc⟩:=(HI.ext HX).at hlt;have IG:=SW k n;have MI:=aE k;obtain⟨v,hv⟩:∃v:Int,V[k]?.getD 0=v:=⟨_,rfl⟩;have hv6:-1000000<=v/\v<=1000000:=by rw[<-hv];exact HV.o k
  rw[hv]at hc;by_cases MB:v=0
  ·subst MB;have HS:=I (show dB V (k+1)=dB V k by rw[gF];unfold kr;rw[hv,i7 rfl,D0]);clear hv;go_wp2_with rfl;refine gy ?_;exact⟨k+1,I (l8 HK.o),by go_num,by rw[HS.o],HX,I O⟩
  have HS:=I (show dB V (k+1)=dB V k++(bJ (k:Int)++([32]++(Lib.itoa v++[10])))by rw[gF];unfold kr;rw[hv,f8 MB]);have hvz:(v != 0)=true:=by simp[MB]
  have RS:=I (λw'=>ig (w:=w') k O);have HFI:=I (λw'=>iX (w:=w') v O O);have⟨tc,OC⟩:=j7 (bs (bJ (k:Int)));have⟨ti,Zb⟩:=j7 (bs (Lib.itoa v));have⟨tq,htq⟩:=j7 (bs (fz p++dB V k));have hcs:tc.size<=5:=by rw[OC,aX];exact jJ _
  have his:ti.size<=21:=by rw[Zb,aX];exact rq hv6
  have hos:tq.size<=2000:=by
   exact Kv
  have Ve:=I (show tq++tc++{ data:=#[32] }++ti++{ data:=#[10] }=bs (fz p++dB V (k+1))by
   rw[htq,OC,Zb];show bs _++bs _++bs [32]++bs _++bs [10]=_;rw[cI,cI,cI,cI,HS.o];simp only[vl])
  have QP:¬9223372036854775807<tq.size+tc.size:=O;have VB:¬9223372036854775807<tq.size+tc.size+1:=O;have hf3:¬9223372036854775807<tq.size+tc.size+1+ti.size:=O;have hf4:¬9223372036854775807<tq.size+tc.size+1+ti.size+1:=O;simp only[<-OC]at RS;simp only[<-Zb]at HFI;rw[<-htq];clear hv OC Zb htq;go_wp2_with rfl;have H:=D4.drew wr;have r8:=I λw' (h:D4 wr w')=>TX (h.o9 q1) (h.o9 hc);refine kp r8 H λr9=>?_;refine tk 0 ?_;refine tk 1 ?_;refine ZJ ⟨?_⟩;refine rd 2 λK hK=>?_;go_simp
  (go_at_call 167;refine i6 (RS _) λw3 C0=>?_;have H:=H.trans C0)
  go_wp2_with rfl;refine KO (r8 _ H) λr9=>?_;refine tk 3 ?_;refine tk 4 ?_;refine rd 10 λK hK=>?_;go_simp
  (go_at_call 51;refine i6 (HFI _) λw3 C0=>?_;have H:=H.trans C0)
  go_wp2_with rfl;refine KO (r8 _ H) λr9=>?_;refine O5 ⟨?_⟩;refine ST k8 ?_ _;have C7:=I (HX.trans H);clear H r9 hc q1;rw[Ve.o];go_wp2_with rfl;refine gy ?_;exact⟨k+1,I (l8 HK.o),by go_num,rfl,C7,I O⟩
 exact PT
theorem xF {w: J}{p: Nat}{a: Option Addr}{n cap: Nat}{V: List Int}(h : d6 w a n cap V)(hV : ∀ k : Nat, -1000000 <= V[k]?.getD 0 /\ V[k]?.getD 0 <= 1000000)(ht : tIw w) :
 f9 76 #[Id (p:Int) a n cap] w (atr (bs (eh p V))):=by
 have⟨W,hW⟩:=j7 (w.alloc (SH #[U p,FB a n cap] 31));have N':D4 w W:=by rw[hW];exact ZL
 refine Fn N' (λ(w':J) (hx:D4 W w')=>dP ht (N'.trans hx)) (h.ext N') λIg HT HI=>?_;have⟨y7,y8⟩:=h.ath;refine kv h.hlen (show W.cell? (IM w 0)=some (U p)by rw[hW];simp) (show W.cell? (IM w 1)=some (FB a n cap)by rw[hW];simp) hV (bV (p:=(p:Int)) HI) λHL G0 G1 HV Ho=>?_;cases D9:ak (p:Int) V
 ·rw[D9]at Ho;have HF:=I (show bs (eh p V)={ data:=#[] } by unfold eh;rw[D9];rfl);have g0:=G0.o;have g1:=G1.o;unfold f9;go_in
  go_upto_region 1 with rfl;rw[<-hW];clear hW;go_wp2_with rfl;refine i6 Ho λw1 hx=>?_;have X1:=I hx;have qq0:=@cu;exact Uy
 rw[D9]at Ho;obtain⟨q,hq,I6,Lk,hlen,Y5,_⟩:=ap D9;obtain rfl:p=q:=O;have IU:n<=32:=by rw[<-HL.o,hlen];exact(bp p Lk).2
 refine Op (show eh p V=fz p++dB V n by unfold eh;rw[i7 D9,HL.o]) (kt (V:=V) hV) (λ(w':J) (hx:D4 W w')=>zQ (w:=w') p O (HT w' hx)) (mD (n:=p) O) λHF Lw HP N4=>?_;have g0:=G0.o;have g1:=G1.o;unfold f9;go_in
 go_upto_region 1 with rfl;rw[<-hW];clear hW;go_wp2_with rfl;refine i6 Ho λw1 hx=>?_;have X1:=I hx;have g0:=X1.o9 G0.o;have g1:=X1.o9 G1.o;go_wp2_with rfl;refine i6 (HP _ X1) λw2 hx=>?_;have X2:=I (X1.trans hx);have g1:=X2.o9 G1.o;have⟨td,HTD⟩:=Ok (bs (Lib.decDigits p));have hts:td.size<=21:=by rw[HTD.o,aX];exact N4
 rw[<-HTD.o];go_wp2_with rfl;have Hx:=I (show({ data:=#[112,108,97,121,101,114,115,32] }:ByteArray)++td++{ data:=#[10] }=bs (fz p++dB V 0)by
  rw[HTD.o];unfold fz;rw[show dB V 0=[]from rfl,D0,<-cI,<-cI,<-ByteArray.append_assoc];rfl)
 rw[Hx.o]
 go_loopg [3,17] n (λgk oo kk wr=>∃(k:Nat),e9 (gk+k=n)/\kk=U k/\oo=atr (bs (fz p++dB V k))/\e9 (D4 W wr))
 ·exact⟨0,I O,rfl,rfl,X2⟩
 obtain⟨k,HK,rfl,rfl,HX⟩:=hrel;have E':=HK.o;by_cases hlt:k<n
 ·obtain⟨b,off,rfl,hc⟩:=(HI.ext HX).at hlt;have IG:=SW k n;have MI:=aE k;obtain⟨v,hv⟩:∃v:Int,V[k]?.getD 0=v:=⟨_,rfl⟩;have hv6:-1000000<=v/\v<=1000000:=by rw[<-hv];exact HV.o k
  rw[hv]at hc;by_cases MB:v=0
  ·subst MB;have HS:=I (show dB V (k+1)=dB V k by rw[gF];unfold kr;rw[hv,i7 rfl,D0]);clear hv;go_wp2_with rfl;refine dk ?_;exact⟨k+1,I (l8 HK.o),by go_num,by rw[HS.o],HX⟩
  have HS:=I (show dB V (k+1)=dB V k++(bJ (k:Int)++([32]++(Lib.itoa v++[10])))by rw[gF];unfold kr;rw[hv,f8 MB]);have hvz:(v != 0)=true:=by simp[MB]
  have RS:=I (λw'=>ie (w:=w') k O);have HFI:=I (λ(w':J) (hx:D4 W w')=>kX (w:=w') v O O (HT w' hx));have⟨tc,OC⟩:=j7 (bs (bJ (k:Int)));have⟨ti,Zb⟩:=j7 (bs (Lib.itoa v));have⟨tq,htq⟩:=j7 (bs (fz p++dB V k));have hcs:tc.size<=5:=by rw[OC,aX];exact jJ _
  have his:ti.size<=21:=by rw[Zb,aX];exact rq hv6
  have hos:tq.size<=2000:=by
   exact Kv
  have Ve:=I (show tq++(tc++{ data:=#[32] }++ti++{ data:=#[10] })=bs (fz p++dB V (k+1))by
   rw[htq,OC,Zb];show bs _++(bs _++bs [32]++bs _++bs [10])=_;rw[cI,cI,cI,cI,HS.o];simp only[vl])
  simp only[<-OC]at RS;simp only[<-Zb]at HFI;rw[<-htq];clear hv OC Zb htq;go_wp2_with rfl;refine i6 (RS _) λw3 C0=>?_;have C5:=I (HX.trans C0);go_wp2_with rfl;refine i6 (HFI _ C5) λw4 E4=>?_;have Io:=I (C5.trans E4);go_wp2_with rfl;rw[Ve.o];refine dk ?_;exact⟨k+1,I (l8 HK.o),by go_num,rfl,Io⟩
 exact PT
section
variable{P:Program}{ops:Array Oper}{Q:Exit->Act->J->Prop}{md:Region.Mode}{S:J->Prop}{M:List Nat}
def gJ(M:List Nat)(listed:Array Bool):Prop:=∀j∈M,listed.getD j true=false
theorem gJ.set{M:List Nat}{listed:Array Bool}{i:Nat}(h:gJ M listed)(hi:i∉M):gJ M (listed.setIfInBounds i true):=λj H=>by
 rw[getD_set_ne true (show i≠j from λe=>hi (by rw[e];exact H))];exact h j H
theorem gJ.aef{M:List Nat}{listed:Array Bool}{i:Nat}(h:gJ M (listed.setIfInBounds i true))(hi:i∉M):gJ M listed:=λj H=>by
 have:=h j H
 rwa [getD_set_ne true (show i≠j from λe=>hi (by rw[e];exact H))]at this
def cQ(P:Program)(md:Region.Mode)(ops:Array Oper)(Q:Exit->Act->J->Prop)(M:List Nat)(S:J->Prop):Nat->Array Bool->Act->J->Prop
 | 0,listed,a,w=>Region.ready md ops listed=[]/\Q .normal a w
 | f+1,listed,a,w=>(Region.ready md ops listed=[]->Q .normal a w) /\
   ∀i∈Region.ready md ops listed,wpOp P ops Q i (λa' w'=>(gJ M (listed.setIfInBounds i true)->S w')/\cQ P md ops Q M S f (listed.setIfInBounds i true) a' w') a w
theorem cQ.any:∀{f:Nat} {listed:Array Bool} {a:Act} {w:J},cQ P md ops Q M S f listed a w->wpAny P md ops Q f listed a w
 | 0,_,_,_,h=>h
 | f+1,_,_,_,h=>⟨h.1,λi hi=>wpOp_mono (λa' w' H=>cQ.any H.2) (h.2 i hi)⟩
theorem nj{i:Nat}{oi:Oper}{v:atY}{T:J->Prop}(hi:ops[i]?=some oi)(hsel:∀(j:Nat) (o:Oper) cs b,ops[j]?=some o->o.op≠.select cs b)
 (hQ:∀c a w,Q (.panic c) (a.put oi.dst v) w->Q (.panic c) a w) (hiM:i∉M)
 (hT:(∀w,T w)∨((∀w,S w->T w)/\∀j∈M,∀oj,ops[j]?=some oj->∃e∈oj.after,Region.binds md e=true/\e.on=i)) :
 ∀(f:Nat) (listed:Array Bool) (a:Act) (w:J),
   (∀j oj,ops[j]?=some oj->j≠i->listed.getD j true=false->(∀e∈oj.after,Region.binds md e=true->e.on≠i)->oi.apart ops oj=true) ->
   i∈Region.ready md ops listed->YieldsIf P ops T oi v a->(gJ M listed->S w)->((∀w,T w)∨gJ M listed) ->
   cQ P md ops Q M S f (listed.setIfInBounds i true) (a.put oi.dst v) w->cQ P md ops Q M S (f+1) listed a w:=by
 have now:∀{listed:Array Bool} {w:J},(gJ M listed->S w)->((∀w,T w)∨gJ M listed)->T w:=λ{listed w} h1 h2=>by
  rcases h2 with h2|h2
  ·exact h2 w
  rcases hT with Z|Z
  ·exact Z w
  exact Z.1 w (h1 h2)
 intro f
 induction f with
 | zero =>
   intro listed a w _ hr hy hS hF H;refine⟨λh=>absurd hr (by rw[h];exact R5),λj hj=>?_⟩;by_cases K:j=i
   ·subst K;exact hy.wpOp hi (now hS hF) ⟨λh=>hS (h.aef hiM),H⟩
   exact absurd (ready_mono hj K) (by rw[H.1];exact R5)
 | succ f ih =>
   intro listed a w ZB hr hy hS hF H;refine⟨λh=>absurd hr (by rw[h];exact R5),λj hj=>?_⟩;by_cases K:j=i
   ·subst K;exact hy.wpOp hi (now hS hF) ⟨λh=>hS (h.aef hiM),H⟩
   have⟨hjun,oj,hoj,Gs⟩:=mem_ready.1 hj;have af2:∀e∈oj.after,Region.binds md e=true->e.on≠i:=λe he hb heq=>by
    have h1:=Gs e he hb;have h0:=(mem_ready.1 hr).1;rw[heq]at h1;rcases xf i listed.size with h'|h'
    ·simp[h']at h0 h1;rw[h0]at h1;cases h1
    simp[Array.getElem?_eq_none h']at h1
   have step:=wpOp_putIf hoj (ZB j oj hoj K hjun af2) (λcs b=>hsel i oi cs b hi) (λcs b=>hsel j oj cs b hoj) hQ hy (H.2 j (ready_mono hj K));have agh:∀k ok,ops[k]?=some ok->k≠i->(listed.setIfInBounds j true).getD k true=false ->
    (∀e∈ok.after,Region.binds md e=true->e.on≠i)->oi.apart ops ok=true:=λk ok hk IG Nv hno=>by
    refine ZB k ok hk IG ?_ hno;by_cases hjk:j=k
    ·rw[<-hjk];exact hjun
    rwa [getD_set_ne true hjk]at Nv
   have hF':(∀w,T w)∨gJ M (listed.setIfInBounds j true):=by
    rcases hF with h2|h2
    ·exact .inl h2
    rcases hT with Z|Z
    ·exact .inl Z
    refine .inr (h2.set λhjM=>?_);have⟨e,he,hb,ho⟩:=Z.2 j hjM oj hoj;exact af2 e he hb ho
   have e1:(listed.setIfInBounds i true).setIfInBounds j true=(listed.setIfInBounds j true).setIfInBounds i true:=Array.setIfInBounds_comm _ _ (vA K);rw[e1]at step;exact wpOp_mono (λa' w' Z=>⟨λhFr=>Z.2.1 (hFr.set hiM),ih (listed.setIfInBounds j true) a' w' agh (ready_mono hr (vA K)) Z.1 (λhFr=>Z.2.1 (hFr.set hiM)) hF' Z.2.2⟩) step
def WL(md:Region.Mode)(ops:Array Oper)(M:List Nat)(i:Nat):Bool:=M.all λj=>Region.waitsFor md ops j i
theorem DN{i:Nat}{oi:Oper}{v:atY}{f:Nat}{listed:Array Bool}{a:Act}{w:J}(hi:ops[i]?=some oi)
 (hs:Region.noSelect ops=true) (hf:Region.free md ops listed i=true) (hr:(Region.ready md ops listed).contains i=true) (hM:M.contains i=false) (hw:WL md ops M i=true) (NO:M.all (λj=>!listed.getD j true)=true)
 (hQ:∀c a w,Q (.panic c) (a.put oi.dst v) w->Q (.panic c) a w) (hy:YieldsIf P ops S oi v a) (hS:S w)
 (h:cQ P md ops Q M S f (listed.setIfInBounds i true) (a.put oi.dst v) w):cQ P md ops Q M S (f+1) listed a w:=by
 refine nj (T:=S) hi (FO hs) hQ Zt (.inr ⟨λ_ h=>h,λj K oj H=>?_⟩) f listed a w (ka hi hf) (by simpa using hr) hy (λ_=>hS) (.inr λj K=>?_) h
 ·have h1:=fp.1 hw j K;have⟨oj',Z,e,he,hb,ho⟩:=Region.waitsFor_spec h1;rw[H]at Z;cases Z;exact⟨e,he,hb,ho⟩
 have:=fp.1 NO j K
 simpa using this
theorem DO{i:Nat}{oi:Oper}{v:atY}{f:Nat}{listed:Array Bool}{a:Act}{w:J}(hi:ops[i]?=some oi)
 (hs:Region.noSelect ops=true) (K:Region.free md ops listed i=true) (hr:(Region.ready md ops listed).contains i=true) (hM:M.contains i=false)
 (hQ:∀c a w,Q (.panic c) (a.put oi.dst v) w->Q (.panic c) a w) (H:YieldsIf P ops (λ_=>True) oi v a) (Z:S w)
 (h:cQ P md ops Q M S f (listed.setIfInBounds i true) (a.put oi.dst v) w):cQ P md ops Q M S (f+1) listed a w :=
 nj (T:=λ_=>True) hi (FO hs) hQ Zt (.inl λ_=>trivial) f listed a w (ka hi K) (by simpa using hr) H (λ_=>Z) (.inl λ_=>trivial) h
theorem kq{i:Nat}{oi:Oper}{v:atY}{f:Nat}{listed:Array Bool}{a:Act}{w:J}(hi:ops[i]?=some oi)
 (hs:Region.noSelect ops=true) (hf:Region.free md ops listed i=true) (hr:(Region.ready md ops listed).contains i=true) (hM:M.contains i=false)
 (hQ:∀c a w,Q (.panic c) (a.put oi.dst v) w->Q (.panic c) a w) (K:YieldsIf P ops (λ_=>True) oi v a) (NO:M.any (λj=>listed.getD j true)=true)
 (h:cQ P md ops Q M S f (listed.setIfInBounds i true) (a.put oi.dst v) w):cQ P md ops Q M S (f+1) listed a w :=
 nj (T:=λ_=>True) hi (FO hs) hQ Zt (.inl λ_=>trivial) f listed a w (ka hi hf) (by simpa using hr) K (λhF=>by
  have⟨j,Z,H⟩:=hJ.1 NO;rw[hF j Z]at H
  cases H) (.inl λ_=>trivial) h
theorem YB{i:Nat}{oi:Oper}{f:Nat}{listed:Array Bool}{a:Act}{w w':J}(hi:ops[i]?=some oi)(hr:Region.ready md ops listed=[i])(hM:M.contains i=true)(Z:i<listed.size)
 (hw:Region.wanted oi (yielded ops a.tmps)=true) (H:(execOp a.eval oi).run P w=.ok .skip w')
 (h:cQ P md ops Q M S f (listed.setIfInBounds i true) (a.put oi.dst undef) w'):cQ P md ops Q M S (f+1) listed a w:=by
 refine⟨λh0=>absurd (hr.symm.trans h0) j9,λj K=>?_⟩;rw[hr]at K;obtain rfl:j=i:=by simpa using K
 unfold wpOp;simp only[hi,hw,G6];refine .inl ?_;unfold Oper.wp;rw[H];refine⟨λhF=>absurd (hF j (by simpa using hM)) ?_,h⟩;simp[Z]
theorem DP{i:Nat}{oi:Oper}{f:Nat}{listed:Array Bool}{a:Act}{w:J}(hi:ops[i]?=some oi)(hr:Region.ready md ops listed=[i])(hw:Region.wanted oi (yielded ops a.tmps)=true)
 (h:∀K':Act->J->Prop,Shut (∀a w,(gJ M (listed.setIfInBounds i true)->S w)->cQ P md ops Q M S f (listed.setIfInBounds i true) a w->K' a w)->Oper.wp P oi a w K' Q):cQ P md ops Q M S (f+1) listed a w:=by
 refine⟨λh0=>absurd (hr.symm.trans h0) j9,λj H=>?_⟩;rw[hr]at H;obtain rfl:j=i:=by simpa using H
 refine wpOp_step hi (λK' K=>?_);rw[i7 hw];exact h K' (λa w h1 Z=>K a w ⟨h1,Z⟩)
theorem Im(i:Nat){oi:Oper}{f:Nat}{listed:Array Bool}{a:Act}{w:J}
 (h:∀K':Act->J->Prop,Shut (∀a w,(gJ M (listed.setIfInBounds i true)->S w)->cQ P md ops Q M S f (listed.setIfInBounds i true) a w->K' a w)->Oper.wp P oi a w K' Q)
 (hi:ops[i]?=some oi:=by simp only[gA,gB,gC];rfl) (hr:Region.ready md ops listed=[i]:=by kernel_rfl) (hw:Region.wanted oi (yielded ops a.tmps)=true:=by kernel_rfl):cQ P md ops Q M S (f+1) listed a w:=DP hi hr hw h
theorem Ql(i:Nat){oi:Oper}{f:Nat}{listed l':Array Bool}{a a':Act}{w w':J}(h:cQ P md ops Q M S f l' a' w')
 (hi:ops[i]?=some oi:=by simp only[gA,gB,gC];rfl) (hr:Region.ready md ops listed=[i]:=by kernel_rfl) (hM:M.contains i=true:=by kernel_rfl) (Z:i<listed.size:=by exact nR k8)
 (hw:Region.wanted oi (yielded ops a.tmps)=true:=by rfl) (H:(execOp a.eval oi).run P w=.ok .skip w':=by go_simp;(try with_reducible rfl))
 (K:listed.setIfInBounds i true=l':=by(try simp only[sA,sB,sC]);rfl) (ha:a.put oi.dst undef=a':=by(try simp only[Act.put,sA,sB,sC]);rfl):cQ P md ops Q M S (f+1) listed a w:=by
 subst K ha;exact YB hi hr hM Z hw H h
theorem lp(i:Nat){oi:Oper}{v:atY}{f:Nat}{listed l':Array Bool}{a a':Act}{w:J}(h:cQ P md ops Q M S f l' a' w)(hi:ops[i]?=some oi:=by simp only[gA,gB,gC];rfl)(hs:Region.noSelect ops=true:=by kernel_rfl)
 (hf:Region.free md ops listed i=true:=by kernel_rfl) (hr:(Region.ready md ops listed).contains i=true:=by kernel_rfl) (hM:M.contains i=false:=by kernel_rfl) (hQ:∀c a w,Q (.panic c) (a.put oi.dst v) w->Q (.panic c) a w:=by exact λ_ _ _ h=>h)
 (K:YieldsIf P ops (λ_=>True) oi v a:=by(refine uf ⟨by rfl,?_⟩;intro w H;(try dsimp only at H);go_simp;(try with_reducible rfl))) (hS:S w:=by assumption)
 (Z:listed.setIfInBounds i true=l':=by(try simp only[sA,sB,sC]);rfl) (ha:a.put oi.dst v=a':=by(try simp only[Act.put,sA,sB,sC]);rfl):cQ P md ops Q M S (f+1) listed a w:=by subst Z ha;exact DO hi hs hf hr hM hQ K hS h
theorem ll(i:Nat){oi:Oper}{v:atY}{f:Nat}{listed l':Array Bool}{a a':Act}{w:J}(h:cQ P md ops Q M S f l' a' w)(hi:ops[i]?=some oi:=by simp only[gA,gB,gC];rfl)(hs:Region.noSelect ops=true:=by kernel_rfl)
 (hf:Region.free md ops listed i=true:=by kernel_rfl) (hr:(Region.ready md ops listed).contains i=true:=by kernel_rfl) (hM:M.contains i=false:=by kernel_rfl) (hD:WL md ops M i=true:=by kernel_rfl) (hE:M.all (λj=>!listed.getD j true)=true:=by kernel_rfl) (hQ:∀c a w,Q (.panic c) (a.put oi.dst v) w->Q (.panic c) a w:=by exact λ_ _ _ h=>h)
 (K:YieldsIf P ops S oi v a:=by(refine uf ⟨by rfl,?_⟩;intro w H;(try dsimp only at H);go_simp;(try with_reducible rfl))) (hS:S w:=by assumption)
 (Z:listed.setIfInBounds i true=l':=by(try simp only[sA,sB,sC]);rfl) (ha:a.put oi.dst v=a':=by(try simp only[Act.put,sA,sB,sC]);rfl):cQ P md ops Q M S (f+1) listed a w:=by subst Z ha;exact DN hi hs hf hr hM hD hE hQ K hS h
def ly{P Q:Prop}(k:ob Q)(h:ob Q->P:=by intro k;refine lp 0 ?_;refine ll 1 ?_;refine lp 2 ?_;refine lp 3 ?_;exact k.1):P:=h k
theorem cU{listed:Array Bool}{a:Act}{w:J}(hr:Region.ready md ops listed=[])(h:Q .normal a w):∀f,cQ P md ops Q M S f listed a w
 | 0=>⟨hr,h⟩
 | _+1=>⟨λ_=>h,λi hi=>absurd hi (by rw[hr];exact R5)⟩
theorem cj{H:Nat}{a:Act}{w:J}(hm:P.follows .mixedOrders=true)(h:cQ P .any ops Q M S ops.size (Array.replicate ops.size false) a w.drew):(Code.region H ops true).wp P Q a w :=
 wp_region_any hm h.any
end
def iK(P:Program)(w:J)(fid:FuncId)(ca:Array atY)(m:Nat)(f:Nat->Int):Prop :=
 ∀(s:Nat) (w1:J),s<m->D4 w w1->Calls P fid (#[U s]++ca) w1 λe w2=>e=atn (U (f s))/\D4 w1 w2
theorem iK.ext{P:Program}{m:Nat}{f:Nat->Int}(h:iK P w fid ca m f)(hx:D4 w w'):iK P w' fid ca m f :=
 λs w1 hs k=>h s w1 hs (hx.trans k)
def FZ(f:Nat->Int)(m:Nat):o7:=(List.range m).map f
theorem jS(f:Nat->Int)(m:Nat):FZ f (m+1)=FZ f m++[f m]:=by simp[FZ,mr]
theorem jq(f:Nat->Int)(m:Nat):Lp (FZ f m)=m:=by simp[FZ]
theorem AT{f:Nat->Int}(h1:1<=n)(H:n<=5)(K:f 0=0)(hb:∀s,s<cN n->-500<=f s/\f s<=500):ak (n:Int) (FZ f (cN n))=true:=by
 have hN:=bp n H;unfold ak;rw[jq,dT n H];simp only[cM,cq];refine⟨?_,?_,trivial,?_⟩
 ·rw[fp];intro x hx;obtain⟨s,hs,rfl⟩:=xl.1 hx;have:=hb s (nM.1 hs);unfold A8;simp;omega
 ·unfold A8;simp;omega
 have:0<cN n:=O;simp[FZ,this,K]
theorem bI(h:w.heap[g]?=some (SH #[x,y] t (0,0))):w.cell? (IM g 0)=some x:=by rw[UV w g 0 _ t _ h];rfl
theorem aL(h:w.heap[g]?=some (SH #[x,y] t (0,0))):w.cell? (IM g 1)=some y:=by rw[UV w g 1 _ t _ h];rfl
theorem pT{z:atY}(h:w.heap[g]?=some (SH #[x,y] t (0,0))):(w.setCell (IM g 1) z).heap[g]?=some (SH #[x,z] t (0,0)):=by
 rw[aM w g 1 _ t z h];rfl
def jv(w:J)(base:Nat)(e:Ending)(n:Nat)(l:o7)(b:Bool):Prop:=∃v,e=atn (.tuple #[.agg #[U n,v],ato b])/\y9 w base v l
def Su(h:σ:=by
 refine HO1.mono O |>.keep λj hj=>?_
 have:=(HO1.lt j hj).1;rw[If _ _ _ _ t8,If _ _ _ _ t8]
 ):σ:=h
def Zb(h:σ:=by
 refine⟨0,none,0,0,ef _,rfl,I (by unfold FZ;exact⟨rfl,.inl ⟨rfl,rfl⟩⟩),I ?_,I ?_⟩
 ·exact LE j9
 ·exact ZL
 ):σ:=h
def P1(h:σ:=by
 refine⟨k+1,a3,n3,c3,by omega,by go_num,I ?_,I (pT F1),I (C5.setCell j9 _)⟩;rw[jS];exact C8.keep λj hj=>If _ _ _ _ (by have:=(C8.lt j hj).1;simp;omega)
 ):σ:=h
set_option maxRecDepth 100000 in
theorem Av{N:Nat}{f:Nat->Int}(hN:N<=32)(hC:∀w',Calls prog 83 #[U n] w' λe w2=>e=atn (U N)/\w'=w2)(hg:Rd prog fid)(hf:iK prog w fid ca N f){B:Bool}(hB:ak (n:Int) (FZ f N)=B):
 Calls prog 78 #[U n,.func (.func fid) #[] ca] w λe w'=>jv w' w e (if B=true then n else 0) (if B=true then FZ f N else []) B/\D4 w w':=by
 have Qh:=I hC;have VD:∀(args:Array atY) (w:J),(callFunc fid args).run prog w=.ok (.enter fid args) w:=hg;have HF:=I hf;have Ho:=I hB;go_in
 go_wp2_with (go_at_call 83;refine cR (Qh _) ?_)
 go_loopw [12] (λi wr=>∃(k:Nat) (a1:o6) (n1 c1:Nat),k<=N/\i=U k/\e9 (y9 wr (w.heap.size+1+1) (FB a1 n1 c1) (FZ f k))/\e9 (wr.heap[w.heap.size+1]?=some (SH #[U n,FB a1 n1 c1] 31 (0,0)))/\e9 (D4 (w.alloc (SH #[U 0,d9] 31)) wr)) (λi _=>N-(intOf i).toNat)
 case atStart =>
  exact Zb
 obtain⟨k,a1,n1,c1,hk,rfl,HO,HB,Z⟩:=hrel;have Oh:=bI HB.o;have MU:=aL HB.o;have K:=IO HB.o;by_cases hlt:k<N
 ·go_wp2_with rfl
  go_region_law (first
   | (refine bU _ rfl (aO _ _ rfl (w.heap.size+1+1) _ _ rfl (HO1.ext ZL) _ 1 _ [f k] rfl (d6.one _ _ _) (by rw[jq];omega) t8 ?_);intro v3 w3 Gw NN Nw;obtain⟨a3,n3,c3,rfl,NB⟩:=Gw.var;have C8:=I Gw;have C5:=I (aj ((Z.trans H).trans ZL) NN (λj hj=>by have:=(HO1.lt j hj).1;simp;omega));have F1:=I ((NN.block _ t8 (λe=>by have:=(HO1.lt _ e.symm).1;omega)).trans (((D4.alloc w1 _).block _ NH).trans FJ));have cg3:=aL F1.o;have fg3:=fy w3 (w+1) 1 _ _ F1.o)
   | (go_simp;refine i6 (HF k _ hlt ((ZL.trans Z).trans (D4.drew wr))) λw1 hx=>?_;have H:=I ((D4.drew wr).trans hx);have HO1:=I (HO.ext H);have FJ:=I ((H.block _ K).trans HB);have b1:=aL FJ.o;have NH:=IO FJ.o))
  all_goals
   go_wp2
   go_roundw
   case rel =>
    exact P1
   exact k9
 have E':k=N:=O;subst E';have HV:=I (bV (p:=(n:Int)) HO.ints);rw[Ho.o]at HV;go_wp2_with rfl;refine i6 HV λw1 hx=>?_;have HO1:=I (HO.ext hx);have hg0':=hx.o9 Oh;have hg1':=hx.o9 MU;have H:=I (Z.trans hx);have r0:w1.cell? (IM w 0)=some (U 0):=H.o9 j9;have r1:w1.cell? (IM w 1)=some d9:=H.o9 j9;have f0:w1.frozen? (IM w 0)=false:=(H.Fl _ _ j9).trans j9;have f1:w1.frozen? (IM w 1)=false:=(H.Fl _ _ j9).trans j9;cases B with
 | false =>
   go_wp2;refine GE sg rfl ⟨⟨_,rfl,y4⟩,?_⟩;exact(((ZL.trans H).setCell j9 _).setCell j9 _)
 | true =>
   go_wp2;refine GE sg rfl ⟨⟨_,rfl,?_⟩,?_⟩
   ·exact Su
   exact(((ZL.trans H).setCell j9 _).setCell j9 _)
theorem oU{f:Nat->Int}(Z:1<=n)(H:n<=5)(hg:Rd prog fid)(K:iK prog w fid ca (cN n) f)
 (h:f 0=0) (hb:∀s,s<cN n->-500<=f s/\f s<=500) :
 Calls prog 78 #[U n,.func (.func fid) #[] ca] w λe w'=>jv w' w e n (FZ f (cN n)) true/\D4 w w' :=
 Av (bp n H).2 (λw'=>xD n H w') hg K (AT Z H h hb)
def oc(q:Int)(l:o7)(s:Nat):Int:=Fv (mp q l (s:Int))
def kH(q:Int)(l:o7):Nat:=if aW 1 q l then Lp l else 0
def je(q:Int)(l:o7):o7:=if aW 1 q l then FZ (oc q l) (cN (Lp l)) else []
theorem zc(b:Bool):-500<=Fv b/\Fv b<=500:=by cases b<;>simp[Fv]
theorem CW{q:Int}(h:aW 1 q l=true):mp q l 0=false:=by
 have hq:1<=q:=by unfold aW A8 at h;simp at h;omega
 have hz:∀k,ei 0 l k=0:=by
  intro k
  induction k with
  | zero=>rfl
  | succ k ih=>simp[ei,M2,ih]
 unfold mp;rw[hz];simp;omega
theorem ud:Rd prog 242:=cE func242 k8 k8
theorem wG{q:Int}{a:o6}{cap b:Nat}(s:Nat)(h:d6 w a n cap l)(hb:w.heap[b]?=some (SH #[U q,FB a n cap] 163 (0,0)))(hs:s<32)(h5:n<=5):
 f9 242 #[U s,ats (some (IM b 0))] w (U (oc q l s)):=by
 have c0:=bI hb;have c1:=aL hb;have K:=I h;cases hw:mp q l (s:Int)
 all_goals
  have H:=I hw;unfold f9;go_in
  go_wp2_with rfl;refine i6 (Mk _ K.o O O O) λw1 hx=>?_;rw[hw];go_wp2;go_ret;exact⟨au (by unfold oc;rw[H.o];rfl),hx⟩
def Mn(h:σ:=by
 rw[hv]at HV;have Hb:=I hv;clear hv;go_in
 go_wp2_with rfl;refine HV.mono ?_;rintro e w1 ⟨rfl,hx⟩;have r0:w1.cell? (IM (w.heap.size+1) 0)=some (U 0):=hx.o9 j9;have r1:w1.cell? (IM (w.heap.size+1) 1)=some d9:=hx.o9 j9;have f0:w1.frozen? (IM (w.heap.size+1) 0)=false:=(hx.Fl _ _ j9).trans j9;have f1:w1.frozen? (IM (w.heap.size+1) 1)=false:=(hx.Fl _ _ j9).trans j9;have A6:=I (HX.trans hx);clear hx;go_wp2;refine GE Zv rfl ⟨⟨d9,?_,?_⟩,?_⟩
 ·unfold kH;rw[Hb.o];rfl
 ·unfold je;rw[Hb.o];exact⟨rfl,.inl ⟨rfl,rfl⟩⟩
 ·exact(A6.setCell j9 _).setCell j9 _
 ):σ:=h
theorem xN{q:Int}{a:o6}{cap:Nat}(h:d6 w a n cap l):
 Calls prog 159 #[Id q a n cap] w λe w'=>jv w' w e (kH q l) (je q l) (aW 1 q l)/\D4 w w':=by
 have hi:=h.alloc (SH #[U q,FB a n cap] 163);refine Fn h.hlen (sN (x:=q) (hi.ext (D4.alloc _ (SH #[U 0,d9] 31)))) ((D4.alloc w (SH #[U q,FB a n cap] 163)).trans (D4.alloc _ (SH #[U 0,d9] 31))) λHL HV HX=>?_;have⟨y7,y8⟩:=h.ath;cases hv:aW 1 q l
 ·have qq0:=@results159;exact Mn
 rw[hv]at HV;have Hb:=I hv;have H:1<=n/\n<=5:=by have:=iH hv;have:=HL.o;omega
 obtain⟨Ht,H⟩:=H;have hN:=bp n H;have HI:=I hi;have HZ:=I (CW hv);go_in
 go_wp2_with rfl;refine i6 HV λw1 hx=>?_;have c1:w1.cell? (IM w 1)=some (FB a n cap):=hx.o9 j9;refine Fn (show w1.heap[w.heap.size]?=some (SH #[U q,FB a n cap] 163 (0,0))from(hx.block _ t8).trans Zx) hx ((HI.ext ZL).ext hx) λHB A6 Oo=>?_;have HT:e9 (iK prog w1 242 #[ats (some (IM w 0))] (cN n) (oc q l)):=I λs w2 hs k=>wG s (Oo.ext k) ((k.block _ (IO HB)).trans HB) O H;have HM:=I (oU Ht H ud HT.o (by unfold oc;rw[show((0:Nat):Int)=0 from rfl,HZ.o];rfl) (λs _=>zc _));go_wp2_with rfl;refine PP HM λw2 v ho hx=>?_;obtain⟨a2,Z,c2,rfl,Jb⟩:=ho.var;have K:=I (A6.trans hx);have r0:w2.cell? (IM (w+1) 0)=some (U 0):=K.o9 j9;have r1:w2.cell? (IM (w+1) 1)=some d9:=K.o9 j9;have f0:w2.frozen? (IM (w+1) 0)=false:=(K.Fl _ _ j9).trans j9;have f1:w2.frozen? (IM (w+1) 1)=false:=(K.Fl _ _ j9).trans j9;have HO1:=I ho;have NH:=A6.size;simp at NH;go_wp2;refine GE (by simp[results,results159,go_sem,r0,r1]<;>rfl) rfl ⟨⟨FB a2 Z c2,?_,?_⟩,?_⟩
 ·unfold kH;rw[Hb.o,i7 rfl,HL.o]
 ·unfold je;rw[Hb.o,i7 rfl,HL.o];exact Su
 exact((HX.trans K).setCell j9 _).setCell j9 _
def nC(h:σ:=by
 exact((HX.trans (A6.trans C7)).setCell j9 _).setCell j9 _
 ):σ:=h
set_option maxRecDepth 100000 in
theorem yU{q:Int}{a:o6}{cap:Nat}(h:d6 w a n cap l):
 Calls prog 166 #[Id q a n cap] w λe w'=>jv w' w e (kH q l) (je q l) (aW 1 q l)/\D4 w w':=by
 have hi:=h.alloc (SH #[U q,FB a n cap] 163);refine Fn h.hlen (tI (x:=q) (hi.ext (D4.alloc _ (SH #[U 0,d9] 31)))) ((D4.alloc w (SH #[U q,FB a n cap] 163)).trans (D4.alloc _ (SH #[U 0,d9] 31))) λHL HV HX=>?_;have⟨y7,y8⟩:=h.ath;cases hv:aW 1 q l
 ·have qq0:=@results166;exact Mn
 rw[hv]at HV;have Hb:=I hv;have H:1<=n/\n<=5:=by have:=iH hv;have:=HL.o;omega
 obtain⟨Ht,H⟩:=H;have hN:=bp n H;have HI:=I hi;go_in
 go_wp2_with rfl;refine i6 HV λw1 hx=>?_;have c1:w1.cell? (IM w 1)=some (FB a n cap):=hx.o9 j9;have J2:w.heap.size<w1.heap.size:=vM _ _ c1;have Pa:w.heap.size+1<w1.heap.size:=by have:=hx.size;simp at this;omega
 have A6:=I hx;have Oo:=I ((HI.ext ZL).ext hx);go_wp2_with (go_at_call 91;refine cR (yM n H _) ?_)
 go_loopw [6] (λi wr=>∃(k:Nat) (a1:o6) (n1 c1:Nat),k<=cN n/\i=U k/\e9 (y9 wr (w1+1) (FB a1 n1 c1) (FZ (oc q l) k))/\e9 (wr.heap[w1.heap.size]?=some (SH #[U n,FB a1 n1 c1] 31 (0,0)))/\e9 (D4 w1 wr)) (λi _=>cN n-(intOf i).toNat)
 case atStart =>
  exact Zb
 obtain⟨k,a1,n1,c1,hk,rfl,HO1,HB,C7⟩:=hrel;have Oh:=bI HB.o;have MU:=aL HB.o;have K:=IO HB.o;have c0:wr.cell? (IM w 0)=some (U q):=(A6.trans C7).o9 j9;have c1':wr.cell? (IM w 1)=some (FB a n cap):=(A6.trans C7).o9 j9;by_cases hlt:k<cN n
 ·go_wp2_with rfl
  go_region_law (first
   | (refine bU _ rfl (aO _ _ rfl (w1+1) _ _ rfl (Z.ext ZL) _ 1 _ [oc q l k] rfl (d6.one _ _ _) (by rw[jq];omega) t8 ?_);intro v3 w3 Gw NN Nw;obtain⟨a3,n3,c3,rfl,NB⟩:=Gw.var;have C8:=I Gw;have C5:=I (aj (X1.trans ZL) NN (λj hj=>by have:=(Z.lt j hj).1;omega));have F1:=I ((NN.block _ t8 (λe=>by have:=(Z.lt _ e.symm).1;omega)).trans (((D4.alloc w4 _).block _ NH).trans FJ));have cg3:=aL F1.o;have fg3:=fy w3 w1 1 _ _ F1.o)
   | (go_simp;go_at_call 251;refine i6 (ET _ ((Oo.ext C7).ext (D4.drew wr)) O O H) λw4 hx=>?_;have X1:=I (C7.trans ((D4.drew wr).trans hx));have Z:=I ((HO1.ext (D4.drew wr)).ext hx);have FJ:=I (((D4.drew wr).trans hx).block _ K |>.trans HB);have b1:=aL FJ.o;have NH:=IO FJ.o)
   | (go_simp;go_at_call 249;refine cR (fN _ _) ?_))
  all_goals
   go_wp2
   go_roundw
   case rel =>
    exact P1
   exact k9
 have E':k=cN n:=O;subst E';have r0:wr.cell? (IM (w+1) 0)=some (U 0):=(A6.trans C7).o9 j9;have r1:wr.cell? (IM (w+1) 1)=some d9:=(A6.trans C7).o9 j9;have f0:wr.frozen? (IM (w+1) 0)=false:=((A6.trans C7).Fl _ _ j9).trans j9;have f1:wr.frozen? (IM (w+1) 1)=false:=((A6.trans C7).Fl _ _ j9).trans j9;go_wp2;refine GE (by simp[results,results166,go_sem,r0,r1]<;>rfl) rfl ⟨⟨FB a1 n1 c1,?_,?_⟩,?_⟩
 ·unfold kH;rw[Hb.o,i7 rfl,HL.o]
 ·unfold je;rw[Hb.o,i7 rfl,HL.o];exact Su
 exact nC
end
section
variable{w:J}{x sum:Int}{a:o6}{n left:Nat}{l:o7}
theorem tG{cap:Nat}(h:d6 w a n cap l):
 f9 247 #[Id x a n cap] w (ato (aW 0 x l)):=by
 have h1:=h.alloc (SH #[U x,FB a n cap] 160);exact Mi
theorem qb:Rd prog 299:=cE func299 k8 k8
theorem qY(x:Int)(w:J):Calls prog 299 #[U x] w λe w'=>e=atn (ato (!A8 x 0 100))/\w=w':=by
 exact YW
theorem oy(w:J):O4 prog w 299 #[] (λx=>!A8 x 0 100) :=
 λx w1 _=>(qY x w1).mono λe w' ⟨H,hw⟩=>⟨H,hw▸So⟩
theorem sM{cap:Nat}(h:d6 w a n cap l):
 f9 238 #[Id x a n cap] w (ato (aW 0 x l)):=by
 have h1:=h.alloc (SH #[U x,FB a n cap] 160);have HX:=I (D4.alloc w (SH #[U x,FB a n cap] 160));have qq0:=@qb;have qq1:=@oy;exact Wx
theorem Xz:∀n:Fin 6,∀s:Fin 32,s.val<cN n.val->bits .andNot .i64 ((cN n.val:Int)-1) ((s.val:Nat):Int)=(cN n.val:Int)-1-((s.val:Nat):Int):=by decide +kernel
theorem EG(n s:Nat)(H:n<=5)(hs:s<cN n):bits .andNot .i64 ((cN n:Int)-1) (s:Int)=(cN n:Int)-1-(s:Int):=Xz ⟨n,by omega⟩ ⟨s,by have:=bp n H;omega⟩ hs
theorem yJ:∀n:Fin 6,∀s:Fin 32,∀k:Fin 5,s.val<cN n.val->k.val<n.val->M2 ((cN n.val:Int)-1-((s.val:Nat):Int)) k.val=!M2 ((s.val:Nat):Int) k.val:=by decide +kernel
theorem XB(n s k:Nat)(H:n<=5)(hs:s<cN n)(K:k<n):M2 ((cN n:Int)-1-(s:Int)) k=!M2 (s:Int) k:=yJ ⟨n,by omega⟩ ⟨s,by have:=bp n H;omega⟩ ⟨k,by omega⟩ hs K
theorem lw{l:o7}(h:∀i:Nat,0<=l[i]?.getD 0/\l[i]?.getD 0<=100)(c:Int):∀k,k<=1000->0<=ei c l k/\ei c l k<=100*k
 | 0,_=>by simp[ei]
 | k+1,hk=>by
   have ih:=lw h c k O;have hx:=h k;unfold ei
   split
   ·unfold wrap64;omega
   omega
theorem CS(h:∀i:Nat,0<=l[i]?.getD 0/\l[i]?.getD 0<=100)(c:Int)(k:Nat)(H:k<=1000):ei c l (k+1)=(if M2 c k then ei c l k+l[k]?.getD 0 else ei c l k):=by
 have:=lw h c k H;have hx:=h k;rw[ei];split
 ·unfold wrap64;omega
 rfl
theorem AZ:∀(l:o7) (H A:Int),(∀x∈l,0<=x/\x<=100)->0<=H->H<=A->A+100*Lp l<=1000000->l.foldl (λa x=>wrap64 (a+x)) H<=A+100*Lp l
 | [],H,A,_,_,h,_=>by simpa using h
 | x::l,H,A,hx,h0,h,hA=>by
   have h1:=hx x Zd;simp only[kc,mg]at *;have hw:wrap64 (H+x)=H+x:=by unfold wrap64;omega
   rw[hw];have:=AZ l (H+x) (A+100) (λy K=>hx y (dr _ K)) O O O;omega
theorem pB{lo:Int}(h:aW lo x l=true):(∀i:Nat,0<=l[i]?.getD 0/\l[i]?.getD 0<=100)/\lo<=x/\x<=500:=by
 have hlen:=iH h;unfold aW gL at h;simp only[cM]at h;have H:∀y∈l,0<=y/\y<=100:=λy K=>by
  have:=fp.1 h.1.1 y K;unfold A8 at this
  simpa using this
 refine⟨λi=>?_,?_⟩
 ·by_cases hi:i<Lp l
  ·have:=H _ (cP hi)
   simpa[hi]using this
  simp[mq (by omega:l.length<=i)]
 have hb:lo<=x/\x<=QD l:=by have:=h.2;unfold A8 at this;simpa using this
 have:=AZ l 0 0 H O O O;unfold QD at hb;omega
def Sk(a b:Int):Int:=if a > b then a else b
def is(q:Int)(l:o7)(s:Nat):Int:=Sk 0 (q-ei ((cN (Lp l):Int)-1-(s:Int)) l (Lp l))*Fv (decide (0<s))
def kd(q:Int)(l:o7):Nat:=if aW 0 q l then Lp l else 0
def iM(q:Int)(l:o7):o7:=if aW 0 q l then FZ (is q l) (cN (Lp l)) else []
theorem qI{q:Int}(h:aW 0 q l=true)(s:Nat):0<=is q l s/\is q l s<=500:=by
 have H:=pB h;have hl:=iH h;have hs:=lw H.1 ((cN (Lp l):Int)-1-(s:Int)) (Lp l) O;unfold is Sk;cases decide (0<s)<;>simp[Fv]<;>split<;>omega
theorem rZ{q:Int}(h:aW 0 q l=true)(s:Nat):IntKind.i64.wrap (Sk 0 (q-ei ((cN (Lp l):Int)-1-(s:Int)) l (Lp l))*Fv (decide (0<s)))=is q l s:=by
 have:=qI h s;have H:Sk 0 (q-ei ((cN (Lp l):Int)-1-(s:Int)) l (Lp l))*Fv (decide (0<s))=is q l s:=rfl;rw[H,j0];omega
theorem oR:Rd prog 239:=cE func239 k8 k8
theorem qh{q:Int}{cap b b':Nat}(s:Nat)(h:d6 w a n cap l)(hb:w.heap[b]?=some (SH #[U q,FB a n cap] 160 (0,0)))(R4:w.cell? (IM b' 0)=some (U ((cN n:Int)-1)))(H:aW 0 q l=true)(hs:s<cN n)(Z:n<=5):
 f9 239 #[U s,ats (some (IM b 0)),ats (some (IM b' 0))] w (U (is q l s)):=by
 have c0:=bI hb;have c1:=aL hb;refine Fn h h.hlen (EG n s Z hs) λHI HL HC=>?_;have hN:=bp n Z;have Gs:=pB H;have hst:=lw Gs.1 ((cN n:Int)-1-(s:Int)) n O;have hq:=Gs.2;have HF:=I (rZ H s);by_cases h0:s=0
 ·subst h0;unfold f9;go_in
  go_wp2;go_ret;exact⟨au (by unfold is;simp[Fv]),So⟩
 have K:decide (0<s)=true:=t8;have Gc:=I K;unfold f9;go_in
 go_wp2
 go_quiet ((go_at_call 240;rw[HC.o];exact be (vn _ (HI.drewN _) O O O)))
 go_wp2
 all_goals
  go_ret;refine⟨au ?_,y6 So _⟩;unfold is Sk;rw[HL.o,Gc.o];simp only[Fv,G6,Int.mul_one];split<;>omega
def QK(h:σ:=by
 rw[hv]at HV;have Hb:=I hv;clear hv;go_in
 go_wp2_with rfl;refine HV.mono ?_;rintro e w1 ⟨rfl,hx⟩;have r0:w1.cell? (IM (w.heap.size+1) 0)=some (U 0):=hx.o9 j9;have r1:w1.cell? (IM (w.heap.size+1) 1)=some d9:=hx.o9 j9;have f0:w1.frozen? (IM (w.heap.size+1) 0)=false:=(hx.Fl _ _ j9).trans j9;have f1:w1.frozen? (IM (w.heap.size+1) 1)=false:=(hx.Fl _ _ j9).trans j9;have A6:=I (HX.trans hx);clear hx;go_wp2;refine GE Zv rfl ⟨⟨d9,?_,?_⟩,?_⟩
 ·unfold kd;rw[Hb.o];rfl
 ·unfold iM;rw[Hb.o];exact⟨rfl,.inl ⟨rfl,rfl⟩⟩
 ·exact(A6.setCell j9 _).setCell j9 _
 ):σ:=h
theorem qV{q:Int}{cap:Nat}(h:d6 w a n cap l):
 Calls prog 158 #[Id q a n cap] w λe w'=>jv w' w e (kd q l) (iM q l) (aW 0 q l)/\D4 w w':=by
 have hi:=h.alloc (SH #[U q,FB a n cap] 160);refine Fn h.hlen (sM (x:=q) (hi.ext (D4.alloc _ (SH #[U 0,d9] 31)))) ((D4.alloc w (SH #[U q,FB a n cap] 160)).trans (D4.alloc _ (SH #[U 0,d9] 31))) λHL HV HX=>?_;have⟨y7,y8⟩:=h.ath;cases hv:aW 0 q l
 ·have qq0:=@results158;exact QK
 rw[hv]at HV;have Hb:=I hv;have H:1<=n/\n<=5:=by have:=iH hv;have:=HL.o;omega
 obtain⟨Ht,H⟩:=H;have hN:=bp n H;have HI:=I hi;have Z:=I hv;have hint:=dc ((cN n:Int)-1)
 go_in
 go_wp2_with rfl;refine i6 HV λw1 hx=>?_;have c1:w1.cell? (IM w 1)=some (FB a n cap):=hx.o9 j9;refine Fn (show w1.heap[w.heap.size]?=some (SH #[U q,FB a n cap] 160 (0,0))from(hx.block _ t8).trans Zx) hx ((HI.ext ZL).ext hx) λHB A6 Oo=>?_;have J2:w.heap.size<w1.heap.size:=vM _ _ c1;have Qv:=I (D4.alloc w1 (SH #[U ((cN n:Int)-1)] 3));have HT:e9 (iK prog (w1.alloc (SH #[U ((cN n:Int)-1)] 3)) 239 #[ats (some (IM w 0)),ats (some (IM w1 0))] (cN n) (is q l)):=I λs w2 hs k =>
  qh s ((Oo.ext Qv).ext k) (((Qv.trans k).block _ (IO HB)).trans HB) (k.o9 j9) Z.o hs H
 have HM:=I (oU Ht H oR HT.o (by unfold is;simp[Fv]) (λs _=>by have:=qI Z.o s;omega));go_wp2_with (go_at_call 83;refine cR (xD n H _) ?_);refine PP HM λw2 v ho hx=>?_;obtain⟨a2,n2,c2,rfl,Jb⟩:=ho.var;have K:=I ((A6.trans Qv).trans hx);have r0:w2.cell? (IM (w+1) 0)=some (U 0):=K.o9 j9;have r1:w2.cell? (IM (w+1) 1)=some d9:=K.o9 j9;have f0:w2.frozen? (IM (w+1) 0)=false:=(K.Fl _ _ j9).trans j9;have f1:w2.frozen? (IM (w+1) 1)=false:=(K.Fl _ _ j9).trans j9;have HO:=I ho;have NH:=A6.size;simp at NH
 go_wp2;refine GE (by simp[results,results158,go_sem,r0,r1]<;>rfl) rfl ⟨⟨FB a2 n2 c2,?_,?_⟩,?_⟩
 ·unfold kd;rw[Hb.o,i7 rfl,HL.o]
 ·unfold iM;rw[Hb.o,i7 rfl,HL.o];refine HO.mono t8 |>.keep λj hj=>?_
  have:=(HO.lt j hj).1;simp at this;rw[If _ _ _ _ t8,If _ _ _ _ t8]
 exact((HX.trans K).setCell j9 _).setCell j9 _
theorem k'(x y:Int)(w:J):Calls prog 248 #[U x,U y] w λe w'=>e=atn (U (Sk x y))/\w=w':=by
 by_cases h:x > y
 all_goals
  have H:=I h;go_in
  go_wp2;go_ret;exact⟨au (by unfold Sk;first|(rw[i7 H.o])|(rw[f8 (l8 H.o)])),rfl⟩
set_option maxRecDepth 100000 in
theorem rG{q:Int}{cap:Nat}(h:d6 w a n cap l):
 Calls prog 165 #[Id q a n cap] w λe w'=>jv w' w e (kd q l) (iM q l) (aW 0 q l)/\D4 w w':=by
 have hi:=h.alloc (SH #[U q,FB a n cap] 160);refine Fn h.hlen (tG (x:=q) (hi.ext (D4.alloc _ (SH #[U 0,d9] 31)))) ((D4.alloc w (SH #[U q,FB a n cap] 160)).trans (D4.alloc _ (SH #[U 0,d9] 31))) λZ HV HX=>?_;have⟨y7,y8⟩:=h.ath;cases hv:aW 0 q l
 ·have qq0:=@results165;exact QK
 rw[hv]at HV;have Hb:=I hv;have K:1<=n/\n<=5:=by have:=iH hv;have:=Z.o;omega
 obtain⟨Ht,K⟩:=K;have hN:=bp n K;have HI:=I hi;have J9:=I hv;have Gs:=pB hv;have S2:=I Gs.1;have hq:=Gs.2;go_in
 go_wp2_with rfl;refine i6 HV λw1 hx=>?_;have c1:w1.cell? (IM w 1)=some (FB a n cap):=hx.o9 j9;have J2:w.heap.size<w1.heap.size:=vM _ _ c1;have Pa:w.heap.size+1<w1.heap.size:=by have:=hx.size;simp at this;omega
 have A6:=I hx;have Oo:=I ((HI.ext ZL).ext hx);go_wp2_with (go_at_call 91;refine cR (yM n K _) ?_)
 go_loopw [6] (λi wr=>∃(k:Nat) (a1:o6) (n1 c1:Nat),k<=cN n/\i=U k/\e9 (y9 wr (w1+1) (FB a1 n1 c1) (FZ (is q l) k))/\e9 (wr.heap[w1.heap.size]?=some (SH #[U n,FB a1 n1 c1] 31 (0,0)))/\e9 (D4 w1 wr)) (λi _=>cN n-(intOf i).toNat)
 case atStart =>
  exact Zb
 obtain⟨k,a1,n1,c1,hk,rfl,HO1,HB,C7⟩:=hrel;have Oh:=bI HB.o;have MU:=aL HB.o;have hsz:=IO HB.o;have c0:wr.cell? (IM w 0)=some (U q):=(A6.trans C7).o9 j9;have c1':wr.cell? (IM w 1)=some (FB a n cap):=(A6.trans C7).o9 j9;by_cases hlt:k<cN n
 ·have HF:=I (rZ J9.o k);go_wp2
  go_loopw [7,8] (λt i ws=>∃j:Nat,j<=n/\i=U j/\t=U (q-ei ((cN n:Int)-1-(k:Int)) l j)/\ws=wr) (λ_ i _=>n-(intOf i).toNat)
  ·exact⟨0,ef _,rfl,by simp[ei],rfl⟩
  obtain⟨j,hj,rfl,rfl,rfl⟩:=hrel;have hst:=lw S2.o ((cN n:Int)-1-(k:Int)) j O;by_cases Hn:j<n
  ·refine Fn (dG (k:Int) j O O) (CS S2.o ((cN n:Int)-1-(k:Int)) j O) (XB n k j K hlt Hn) λHP HS HR=>?_;obtain⟨bb,off,rfl,hc⟩:=(Oo.ext C7).at Hn;have B0:=S2.o j;cases H:M2 (k:Int) j
   all_goals
    have Qj:=I H;go_wp2_with (go_at_call 173;refine cR (bE _ _ _ O) ?_;rw[HP.o,Qj.o])
    go_roundw
    case rel=>exact⟨j+1,by omega,by go_num,by rw[HS.o,HR.o,Qj.o];simp<;>omega,by simp⟩
    exact k9
  have hje:j=n:=O;subst hje;go_wp2
  go_region_law (first
   | (refine bU _ rfl (aO _ _ rfl (w1+1) _ _ rfl ((HO1.ext ZL).ext fl) _ 1 _ [IntKind.i64.wrap (Sk 0 (q-ei ((cN j:Int)-1-(k:Int)) l j)*Fv (decide (0<k)))] rfl ((d6.one _ _ _).ext fl) (by rw[jq];omega) t8 ?_);intro v3 w3 Gw NN Nw;obtain⟨a3,n3,c3,rfl,NB⟩:=Gw.var;have C8:=I Gw;have C5:=I (aj ((C7.trans ZL).trans fl) NN (λj hj=>by have:=(HO1.lt j hj).1;omega));have F1:=I ((NN.block _ t8 (λe=>by have:=(HO1.lt _ e.symm).1;omega)).trans (((D4.alloc wr _).trans fl).block _ hsz |>.trans HB));have cg3:=aL F1.o;have fg3:=fy w3 w1 1 _ _ F1.o)
   | (go_simp;go_at_call 248;refine cR (k' _ _ _) ?_)
   | (go_simp;go_at_call 249;refine cR (fN _ _) ?_))
  all_goals
   go_wp2
   go_roundw
   case rel =>
    refine⟨k+1,a3,n3,c3,by omega,by go_num,I ?_,I (pT F1),I (C5.setCell j9 _)⟩;rw[jS];have hf:=HF.o;rw[Z.o]at hf;rw[<-hf];exact C8.keep λj hj=>If _ _ _ _ (by have:=(C8.lt j hj).1;simp;omega)
   exact k9
 have E':k=cN n:=O;subst E';have r0:wr.cell? (IM (w+1) 0)=some (U 0):=(A6.trans C7).o9 j9;have r1:wr.cell? (IM (w+1) 1)=some d9:=(A6.trans C7).o9 j9;have f0:wr.frozen? (IM (w+1) 0)=false:=((A6.trans C7).Fl _ _ j9).trans j9;have f1:wr.frozen? (IM (w+1) 1)=false:=((A6.trans C7).Fl _ _ j9).trans j9;go_wp2;refine GE (by simp[results,results165,go_sem,r0,r1]<;>rfl) rfl ⟨⟨FB a1 n1 c1,?_,?_⟩,?_⟩
 ·unfold kd;rw[Hb.o,i7 rfl,Z.o]
 ·unfold iM;rw[Hb.o,i7 rfl,Z.o];exact Su
 exact nC
abbrev lB(x y:Int)(a:o6)(n cap:Nat):atY:=.agg #[.int .i64 x,.int .i64 y,FB a n cap]
def dC(s b:Int)(L:o4):Bool :=
 (decide (1<=s)&&decide (s<=5)&&decide (1<=b)&&decide (b<=5-s)&&decide ((Lp L:Int)=s))&&L.all (λr=>r.all (A8 · 0 100)&&decide ((Lp r:Int)=b))
theorem oS:Rd prog 297:=cE func297 k8 k8
theorem qd:Rd prog 296:=cE func296 k8 k8
theorem qk(x:Int)(w:J):Calls prog 297 #[U x] w λe w'=>e=atn (ato (!A8 x 0 100))/\w=w':=by
 exact YW
theorem mQ(w:J):O4 prog w 297 #[] (λx=>!A8 x 0 100) :=
 λx w1 _=>(qk x w1).mono λe w' ⟨H,hw⟩=>⟨H,hw▸So⟩
def gj(b:Int)(r:o7):Bool:=!decide ((Lp r:Int)=b)||r.any (λx=>!A8 x 0 100)
theorem qZ{m:Nat}{b:Int}{cap:Nat}(hb:w.cell? (IM m 1)=some (U b))(h:d6 w a n cap l):
 f9 296 #[FB a n cap,ats (some (IM m 0))] w (ato (gj b l)):=by
 have H:((n:Int) != b)=!decide ((n:Int)=b):=by by_cases h:(n:Int)=b<;>simp[h]
 have HC:=I (dJ h oS (mQ _));have HL:=I h.hlen;cases K:decide ((n:Int)=b)
 ·rw[K]at H;have Z:=I K;unfold f9;go_in
  go_wp2;go_ret;refine⟨ag ?_,So⟩;unfold gj;rw[HL.o,Z.o];simp
 rw[K]at H;have Z:=I K;unfold f9;go_in
 go_wp2_with rfl;refine i6 HC λw1 hx=>?_;go_wp2;go_ret;refine⟨ag ?_,hx⟩;unfold gj;rw[HL.o,Z.o];simp
theorem kG(s b:Int)(L:o4):dC s b L=((decide (1<=s)&&decide (s<=5)&&decide (1<=b)&&decide (b<=5-s)&&decide ((Lp L:Int)=s))&&!L.any (gj b)):=by
 unfold dC gj;congr 1;rw[Y4];congr 1
 funext r
 rw[Bool.not_or,UP,Y4,Qa];simp
def ZB(h:σ:=by
 (try unfold f9);go_in
 go_wp2;go_ret;exact⟨rfl,HX⟩
 ):σ:=h
theorem lP{y:Int}{cap:Nat}{L:o4}(h:dD w a n cap L):
 f9 235 #[lB x y a n cap] w (ato (dC x y L)):=by
 have h1:=h.alloc (SH #[U x,U y,FB a n cap] 157);refine Fn (D4.alloc w (SH #[U x,U y,FB a n cap] 157)) h.hlen (oI (ca:=#[ats (some (IM w 0))]) (p:=gj y) h1 qd (λl a n c w1 hx hi=>qZ (hx.o9 j9) hi)) λHX HL HC=>?_;by_cases Gs:1<=x/\x<=5/\1<=y/\y<=5-x/\(n:Int)=x
 ·obtain⟨p1,p2,p3,p4,Z⟩:=Gs;have H:((n:Int) != x)=false:=by simp[Z]
  have HP:=I Z;unfold f9;go_in
  go_wp2_with rfl;refine i6 HC λw1 hx=>?_;go_wp2;go_ret;refine⟨ag ?_,HX.trans hx⟩;rw[kG,HL.o];have:=HP.o;simp[p1,p2,p3,p4,this]
 have HN:=I (show dC x y L=false by unfold dC;rw[HL.o];simp only[cF,P3];omega);have F':x<1∨y<1∨5<x∨5-x<y∨((n:Int)≠x):=O;have K:f9 235 #[lB x y a n cap] w (ato false):=by
  by_cases q1:x<1
  ·exact ZB
  by_cases q2:y<1
  ·exact ZB
  by_cases q3:5<x
  ·exact ZB
  by_cases q4:5-x<y
  ·exact ZB
  have H:((n:Int) != x)=true:=t8;unfold f9;go_in
  go_wp2;go_ret;exact⟨rfl,HX⟩
 rw[HN.o];exact K
def kK(b:Int)(r:o7):Bool:=gL r 100&&decide ((Lp r:Int)=b)
theorem qp{b:Int}(h1:1<=b)(h5:b<=5)(r:o7):kK b r=!gj b r:=by
 unfold kK gj;rw[jV];by_cases h:(Lp r:Int)=b
 ·have hi:A8 (Lp r) 1 5=true:=by unfold A8;simp;omega
  rw[hi,bl h];simp
 rw[RK h];simp
def FX(h:σ:=by
 (try unfold f9);go_in
 go_wp2_with (go_at_call 90;refine p9.mono ?_;rintro e w' ⟨rfl,rfl⟩);go_ret;exact⟨rfl,HX⟩
 ):σ:=h
theorem tH{y:Int}{cap:Nat}{L:o4}(h:dD w a n cap L):
 f9 245 #[lB x y a n cap] w (ato (dC x y L)):=by
 have h1:=h.alloc (SH #[U x,U y,FB a n cap] 157);have HX:=I (D4.alloc w (SH #[U x,U y,FB a n cap] 157));have HL:=I h.hlen;have⟨y7,y8⟩:=h.ath;cases q1:A8 x 1 5
 ·have Z:=I (show dC x y L=false by unfold dC A8 at *;simp only[cF,P3]at q1⊢;omega);rw[Z.o];exact FX
 have p1:1<=x/\x<=5:=by unfold A8 at q1;simpa using q1
 obtain⟨p1,p2⟩:=p1;cases q2:A8 y 1 (5-x)
 ·have Z:=I (show dC x y L=false by unfold dC A8 at *;simp only[cF,P3]at q2⊢;omega);rw[Z.o];exact FX
 have p3:1<=y/\y<=5-x:=by unfold A8 at q2;simpa using q2
 obtain⟨p3,p4⟩:=p3;by_cases q3:(n:Int)=x
 ·have H:((n:Int) != x)=false:=by simp[q3]
  have HP:=I q3;unfold f9;go_in
  go_wp2_with (go_at_call 90;refine cR p9 ?_)
  go_loopw [3] (λi wr=>∃k:Nat,k<=n/\i=U k/\e9 ((L.take k).all (kK y)=true)/\F8 (w.alloc (SH #[U x,U y,FB a n cap] 157)) wr) (λi _=>n-(intOf i).toNat)
  ·exact⟨0,ef _,rfl,I rfl,F8.refl _⟩
  obtain⟨k,hk,rfl,HA,hx⟩:=hrel;have c1:wr.cell? (IM w 1)=some (U y):=hx.ext.o9 j9;have c2:wr.cell? (IM w 2)=some (FB a n cap):=hx.ext.o9 j9;have C7:=I (HX.trans hx.ext);have C5:=I hx;by_cases hlt:k<n
  ·obtain⟨b,off,a',n',c',rfl,hc,hr⟩:=(h1.ext hx.ext).at hlt;have hq:=λj=>be (nU 100 (hr.drewN j))
   have HR:=I hr.hlen;have K:=I hq;cases hs:gL (L[k]?.getD []) 100
   ·have HS:=I hs;rw[hs]at K;go_wp2
    go_quiet ((go_at_call 302;exact K.o _))
    go_wp2;go_ret;refine⟨ag ?_,y6 C7.o _⟩;symm;rw[kG];have GF:k<Lp L:=l8 HL.o;have:L.any (gj y)=true:=by
     rw[hJ];refine⟨L[k],cP GF,?_⟩;have h2:=qp p3 O L[k];have h3:kK y L[k]=false:=by unfold kK;have:=HS.o;simp only[GF,In,NE]at this;rw[this];rfl
     rw[h3]at h2
     simpa using h2.symm
    rw[this];simp
   have HS:=I hs;rw[hs]at K;by_cases hb:(n':Int)=y
   ·have H:((n':Int) != y)=false:=by simp[hb]
    have HB:=I hb;go_wp2
    go_quiet ((go_at_call 302;exact K.o _))
    go_wp2
    go_roundw
    case rel=>exact⟨k+1,by omega,by go_num,I (by rw[fE (l8 HL.o),p7,HA.o];simp[kK,HS.o,HR.o,HB.o]),C5.trans ⟨_,rfl⟩⟩
    exact k9
   have H:((n':Int) != y)=true:=by simp[hb]
   have HB:=I hb;go_wp2
   go_quiet ((go_at_call 302;exact K.o _))
   go_wp2;go_ret;refine⟨ag ?_,y6 C7.o _⟩;symm;rw[kG];have GF:k<Lp L:=l8 HL.o;have:L.any (gj y)=true:=by
    rw[hJ];refine⟨L[k],cP GF,?_⟩;have:=HR.o;simp only[GF,In,NE]at this;unfold gj;rw[this,RK HB.o];rfl
   rw[this];simp
  go_wp2;go_ret;refine⟨ag ?_,C7⟩;symm;have:=HA.o;rw[aP (l8 HL.o)]at this;rw[kG,HL.o];have h2:L.any (gj y)=false:=by
   rw[List.any_eq_false];intro r hr;have h3:=fp.1 this r hr;rw[qp p3 O]at h3
   simpa using h3
  rw[h2];have hp:=HP.o;simp[p1,p2,p3,p4,hp]
 have H:((n:Int) != x)=true:=by simp[q3]
 have Z:=I (show dC x y L=false by unfold dC;rw[HL.o];simp only[cF,P3];omega);rw[Z.o];exact FX
theorem WY:∀s:Fin 32,∀k:Fin 5,bits .andNot .i64 ((s.val:Nat):Int) (2^k.val)=(if M2 ((s.val:Nat):Int) k.val then((s.val-2^k.val:Nat):Int) else((s.val:Nat):Int)):=by decide +kernel
theorem gf{s k:Nat}(hs:s<32)(H:k<5)(h:M2 (s:Int) k=true):bits .andNot .i64 (s:Int) (2^k)=((s-2^k:Nat):Int):=by
 have:=WY ⟨s,hs⟩ ⟨k,H⟩;simp only[h,G6]at this;exact this
theorem zy:∀s:Fin 32,∀k:Fin 5,∀j:Fin 5,M2 ((s.val:Nat):Int) k.val=true->M2 ((s.val-2^k.val:Nat):Int) j.val=(M2 ((s.val:Nat):Int) j.val&&!decide (j.val=k.val)):=by decide +kernel
theorem W3{s k j:Nat}(hs:s<32)(H:k<5)(K:j<5)(h:M2 (s:Int) k=true):M2 ((s-2^k:Nat):Int) j=(M2 (s:Int) j&&!decide (j=k)):=zy ⟨s,hs⟩ ⟨k,H⟩ ⟨j,K⟩ h
section
variable(S B:Nat)(G:o4)(s:Nat)
def gg(i j:Nat):Int:=(G[i]?.getD [])[j]?.getD 0
def fU(taken:o7)(i j:Nat):Bool:=M2 (s:Int) i&&(M2 (s:Int) (S+j)&&!RE taken (j:Int))
def cg:Nat->o7->o7×Int
 | 0,_=>([],0)
 | r+1,taken=>(List.range B).foldl (λacc j=>if fU S s taken (S-(r+1)) j=true then(if(cg r (taken++[(j:Int)])).2+gg G (S-(r+1)) j > acc.2 then((j:Int)::(cg r (taken++[(j:Int)])).1,(cg r (taken++[(j:Int)])).2+gg G (S-(r+1)) j) else acc) else acc)
     (-1::(cg r taken).1,(cg r taken).2)
def dM(r:Nat)(taken:o7)(k:Nat):o7×Int :=
 (List.range k).foldl (λacc j=>if fU S s taken (S-(r+1)) j=true then(if(cg S B G s r (taken++[(j:Int)])).2+gg G (S-(r+1)) j > acc.2 then((j:Int)::(cg S B G s r (taken++[(j:Int)])).1,(cg S B G s r (taken++[(j:Int)])).2+gg G (S-(r+1)) j) else acc) else acc)
   (-1::(cg S B G s r taken).1,(cg S B G s r taken).2)
theorem gV(r:Nat)(taken:o7):cg S B G s (r+1) taken=dM S B G s r taken B:=rfl
theorem ik(r:Nat)(taken:o7):dM S B G s r taken 0=(-1::(cg S B G s r taken).1,(cg S B G s r taken).2):=rfl
theorem dI(r:Nat)(taken:o7)(k:Nat):dM S B G s r taken (k+1)=if fU S s taken (S-(r+1)) k=true then(if(cg S B G s r (taken++[(k:Int)])).2+gg G (S-(r+1)) k > (dM S B G s r taken k).2 then((k:Int)::(cg S B G s r (taken++[(k:Int)])).1,(cg S B G s r (taken++[(k:Int)])).2+gg G (S-(r+1)) k) else dM S B G s r taken k) else dM S B G s r taken k:=by
 unfold dM;rw[mr,VP];rfl
theorem gN(H:∀i j,0<=gg G i j/\gg G i j<=100):∀(r:Nat) (taken:o7),(cg S B G s r taken).1.length=r/\0<=(cg S B G s r taken).2/\(cg S B G s r taken).2<=100*r
 | 0,_=>by simp[cg]
 | r+1,taken=>by
   rw[gV];have hb:∀k,(dM S B G s r taken k).1.length=r+1/\0<=(dM S B G s r taken k).2/\(dM S B G s r taken k).2<=100*(r+1:Nat):=by
    intro k
    induction k with
    | zero =>
      have:=gN H r taken;rw[ik];simp only[mg];omega
    | succ k ih =>
      rw[dI];have h1:=gN H r (taken++[(k:Int)]);have h2:=H (S-(r+1)) k;split
      ·split
       ·simp only[mg];omega
       exact ih
      exact ih
   exact hb B
theorem Dc(H:∀i j,0<=gg G i j/\gg G i j<=100)(r:Nat)(taken:o7)(k:Nat):(dM S B G s r taken k).1.length=r+1/\0<=(dM S B G s r taken k).2/\(dM S B G s r taken k).2<=100*(r+1:Nat):=by
 induction k with
 | zero =>
   have:=gN S B G s H r taken;rw[ik];simp only[mg];omega
 | succ k ih =>
   rw[dI];have h1:=gN S B G s H r (taken++[(k:Int)]);have h2:=H (S-(r+1)) k;split
   ·split
    ·simp only[mg];omega
    exact ih
   exact ih
structure MN  where
 now:o7
 KP:o7
 most:Int
def ej:Nat->Nat->Int->MN->MN
 | 0,left,sum,st=>if sum > st.most then⟨st.now,st.now,sum⟩ else st
 | r+1,left,sum,st =>
   if M2 (s:Int) (S-(r+1))=false then ej r left sum ⟨st.now.set (S-(r+1)) (-1),st.KP,st.most⟩
   else(List.range B).foldl (λst j=>if M2 (left:Int) (S+j)=true then ej r (left-2^(S+j)) (sum+gg G (S-(r+1)) j) ⟨st.now.set (S-(r+1)) (j:Int),st.KP,st.most⟩ else st)
    (ej r left sum ⟨st.now.set (S-(r+1)) (-1),st.KP,st.most⟩)
def gu(r left:Nat)(sum:Int)(st:MN)(k:Nat):MN :=
 (List.range k).foldl (λst j=>if M2 (left:Int) (S+j)=true then ej S B G s r (left-2^(S+j)) (sum+gg G (S-(r+1)) j) ⟨st.now.set (S-(r+1)) (j:Int),st.KP,st.most⟩ else st)
   (ej S B G s r left sum ⟨st.now.set (S-(r+1)) (-1),st.KP,st.most⟩)
theorem wy{r left:Nat}{sum:Int}{st:MN}(h:M2 (s:Int) (S-(r+1))=false):ej S B G s (r+1) left sum st=ej S B G s r left sum ⟨st.now.set (S-(r+1)) (-1),st.KP,st.most⟩:=by
 rw[ej,i7 h]
theorem zB{r left:Nat}{sum:Int}{st:MN}(h:M2 (s:Int) (S-(r+1))=true):ej S B G s (r+1) left sum st=gu S B G s r left sum st B:=by
 rw[ej,f8 (by simp[h])];rfl
theorem qG(r left:Nat)(sum:Int)(st:MN):gu S B G s r left sum st 0=ej S B G s r left sum ⟨st.now.set (S-(r+1)) (-1),st.KP,st.most⟩:=rfl
theorem mA(r left:Nat)(sum:Int)(st:MN)(k:Nat):gu S B G s r left sum st (k+1)=if M2 (left:Int) (S+k)=true then ej S B G s r (left-2^(S+k)) (sum+gg G (S-(r+1)) k) ⟨(gu S B G s r left sum st k).now.set (S-(r+1)) (k:Int),(gu S B G s r left sum st k).KP,(gu S B G s r left sum st k).most⟩ else gu S B G s r left sum st k:=by
 simp only[gu,mr,VP,kc,List.foldl_nil]
def lE(i:Nat)(now:o7)(sum:Int)(st0:MN)(b:o7×Int)(out:MN):Prop :=
 Lp out.now=S/\out.now.take i=now.take i/\((st0.most<sum+b.2/\out.KP=now.take i++b.1/\out.most=sum+b.2)∨(¬st0.most<sum+b.2/\out.KP=st0.KP/\out.most=st0.most))
theorem ox{l:o7}{i:Nat}(x:Int)(h:i<Lp l):(l.set i x).take (i+1)=l.take i++[x]:=by
 rw[List.take_set,tn h,O' _ _ t8];congr 1;have:i-(l.take i).length=0:=t8;rw[this];rfl
theorem od(hS:S+B<=5):∀(r left:Nat) (taken:o7) (sum:Int) (st:MN),r<=S->Lp st.now=S->left<32 ->
 (∀j,j<B->M2 (left:Int) (S+j)=(M2 (s:Int) (S+j)&&!RE taken (j:Int))) ->
 lE S (S-r) st.now sum st (cg S B G s r taken) (ej S B G s r left sum st)
 | 0,left,taken,sum,st,hr,hl,hlt,hbit=>by
   have ht:st.now.take S=st.now:=aP O;unfold lE;simp only[cg,ej,Nat.sub_zero,ht,D0,Int.add_zero];by_cases h:sum > st.most
   ·rw[i7 h];exact⟨hl,ht,.inl ⟨h,rfl,rfl⟩⟩
   rw[f8 h];exact⟨hl,ht,.inr ⟨h,rfl,rfl⟩⟩
 | r+1,left,taken,sum,st,hr,hl,hlt,hbit=>by
   have hi:S-r=S-(r+1)+1:=O
   have⟨i,hI⟩:=j7 (S-(r+1));have hiS:i<S:=O
   have hiS':S-r=i+1:=O
   have h0:lE S i st.now sum st (-1::(cg S B G s r taken).1,(cg S B G s r taken).2) (ej S B G s r left sum ⟨st.now.set i (-1),st.KP,st.most⟩):=by
    have K:=od hS r left taken sum ⟨st.now.set i (-1),st.KP,st.most⟩ O o' hlt hbit;unfold lE at K⊢;rw[hiS']at K;simp only[ox _ (show i<st.now.length by omega)]at K;obtain⟨g1,g2,g3⟩:=K;refine⟨g1,?_,?_⟩
    ·have:=IR (List.take i) g2;rw[QA,TW O,List.take_left' t8]at this;exact this
    simpa[vl]using g3
   cases hb:M2 (s:Int) (S-(r+1))
   ·rw[wy _ _ _ _ hb,gV,<-hI];have hno:∀k,dM S B G s r taken k=(-1::(cg S B G s r taken).1,(cg S B G s r taken).2):=by
     intro k
     induction k with
     | zero=>rfl
     | succ k K=>rw[dI,f8 (by simp[fU,hb]),K]
    rw[hno];exact h0
   rw[zB _ _ _ _ hb,gV];have Gs:∀k,k<=B->lE S i st.now sum st (dM S B G s r taken k) (gu S B G s r left sum st k):=by
    intro k
    induction k with
    | zero=>intro _;rw[qG,ik,<-hI];exact h0
    | succ k H =>
      intro hk;have H:=H O;rw[mA,dI];have hf:fU S s taken (S-(r+1)) k=M2 (left:Int) (S+k):=by unfold fU;rw[hb,hbit k O];simp
      rw[hf];by_cases r7:M2 (left:Int) (S+k)=true
      ·rw[i7 r7,i7 r7,<-hI];generalize hst:gu S B G s r left sum st k=w1 at H⊢;generalize Pf:dM S B G s r taken k=b1 at H⊢;obtain⟨l1,l2,l3⟩:=H;have K:=od hS r (left-2^(S+k)) (taken++[(k:Int)]) (sum+gg G i k) ⟨w1.now.set i (k:Int),w1.KP,w1.most⟩ O (by simpa using l1) (KW (Nat.sub_le _ _) hlt) (by
        intro j hj;rw[W3 hlt O O r7,hbit j hj];unfold RE;rw[List.contains_append];by_cases hjk:j=k
        ·subst hjk;simp
        have h1:decide (S+j=S+k)=false:=t8;have h2:[(k:Int)].contains (j:Int)=false:=t8;rw[h1,h2];simp)
       generalize cg S B G s r (taken++[(k:Int)])=b2 at K⊢;generalize ej S B G s r (left-2^(S+k)) (sum+gg G i k) ⟨w1.now.set i (k:Int),w1.KP,w1.most⟩=w2 at K⊢;unfold lE at K;rw[hiS']at K;simp only[ox _ (show i<w1.now.length by omega),l2]at K;obtain⟨g1,g2,g3⟩:=K;have gt:w2.now.take i=st.now.take i:=by
        have:=IR (List.take i) g2;rw[QA,TW O,List.take_left' t8]at this;exact this
       unfold lE;refine⟨g1,gt,?_⟩;by_cases NL:b2.2+gg G i k > b1.2
       ·rw[i7 NL];rcases g3 with⟨p1,p2,p3⟩|⟨p1,p2,p3⟩
        ·refine .inl ⟨?_,by rw[p2];simp,by simp only;omega⟩
         try simp only
         rcases l3 with⟨q1,Z,q3⟩|⟨q1,Z,q3⟩<;>omega
        try simp only at p1 p2 p3⊢
        rcases l3 with⟨q1,Z,q3⟩|⟨q1,Z,q3⟩
        ·omega
        exact .inr ⟨by omega,by rw[p2,Z],by omega⟩
       rw[f8 NL];rcases g3 with⟨p1,p2,p3⟩|⟨p1,p2,p3⟩
       ·try simp only at p1 p2 p3
        rcases l3 with⟨q1,Z,q3⟩|⟨q1,Z,q3⟩<;>omega
       try simp only at p1 p2 p3
       rcases l3 with⟨q1,Z,q3⟩|⟨q1,Z,q3⟩
       ·exact .inl ⟨q1,by rw[p2,Z],by omega⟩
       exact .inr ⟨q1,by rw[p2,Z],by omega⟩
      rw[f8 r7,f8 r7];exact H
   have:=Gs B (m9 _)
   rwa [<-hI]
end
end
section
variable{x:Int}{G:o4}{S B s:Nat}
theorem y9.acv(w:J)(base:Nat)(x:Int)(hb:base<=w.heap.size):y9 (w.alloc (SH #[U x] 3)) base (GT w 1 1) [x] :=
 nr w #[U x] 1 hb (by simp[maxLen]) rfl
theorem d6.one'(w:J)(x:Int)(t:TypeId)(n:Nat)(H:n=w.heap.size):d6 (w.alloc (SH #[U x] t)) (some (IM n 0)) 1 1 [x]:=by
 subst H;exact d6.one w x t
theorem y9.made'(w:J)(base n:Nat)(H:n=w.heap.size)(hb:base<=w.heap.size):y9 (w.alloc (SH #[] 3)) base (GT n 0 0) []:=by
 subst H;exact y9.made w base hb
structure Vh(S B:Nat)(G:o4):Prop where
 s1:1<=S
 b1:1<=B
 sb:S+B<=5
 rows:G.length=S
 row:∀i,i<S->(G[i]?.getD []).length=B
 bd:∀i j,0<=gg G i j/\gg G i j<=100
theorem mw{y:Int}(h:dC x y G=true):∃S B:Nat,x=S/\y=B/\Vh S B G:=by
 simp only[dC,cM,cq,fp]at h;obtain⟨⟨⟨⟨⟨h1,h2⟩,h3⟩,h4⟩,h5⟩,Z⟩:=h;refine⟨x.toNat,y.toNat,by omega,by omega,by omega,by omega,by omega,by omega,λi hi=>?_,λi j=>?_⟩
 ·have H:i<Lp G:=by omega
  have:=(Z _ (cP H)).2;simp[H];omega
 unfold gg;by_cases H:i<Lp G
 ·have:=(Z _ (cP H)).1;simp only[In H,NE];by_cases K:j<G[i].length
  ·have:=this _ (cP K);simp only[A8,cM,cq]at this
   simpa[K]using this
  simp[mq (by omega:G[i].length<=j)]
 simp[mq (by omega:G.length<=i)]
theorem d6.ZW{w w':J}{row:Option Nat}{b:Nat}(h:d6 w (some (IM b 0)) 1 1 [x])(hg:w.grownBy w' row)(H:row≠some b):d6 w' (some (IM b 0)) 1 1 [x]:=by
 have⟨b',off,e,hc⟩:=h.at (k:=0) O;obtain⟨rfl,rfl⟩:=er e;have hb:=hg.block b (vM w _ hc) (λe=>H e.symm);refine⟨rfl,m9 _,by omega,λk K=>⟨b,0,rfl,λk K=>?_⟩⟩;obtain rfl:k=0:=O;rw[<-hc];simp[World.cell?,hb]
theorem ES(hM:Vh S B G)(hs:s<32):∀(r i:Nat) (ii:Int),ii=(i:Int)->i+r=S->∀(w:J) (a:o6) (n cap:Nat) (ta:o6) (tn tc:Nat) (taken:o7),
 dD w a n cap G->d6 w ta tn tc taken->Lp taken<=i ->
 Calls prog 246 #[lB S B a n cap,.int .i64 (s:Int),.int .i64 ii,FB ta tn tc] w λe w' =>
  (∃v,e=atn (.tuple #[v,.int .i64 (cg S B G s r taken).2])/\y9 w' w v (cg S B G s r taken).1)/\D4 w w':=by
 have KD:=hM.sb;intro r
 induction r with
 | zero =>
   intro i ii hii hi w a n cap ta tn tc taken hG hT hl;subst hii;have heq:((i:Int) == (S:Int))=true:=t8;have HX:=I (D4.alloc w (SH #[.int .i64 (S:Int),.int .i64 (B:Int),FB a n cap] 157));have HZ:e9 (cg S B G s 0 taken=([],0)):=I (rfl);clear hG hT hl hi;go_in
   go_wp2;rw[HZ.o];refine GE SF rfl ⟨⟨_,rfl,y9.made' _ _ _ j9 j9⟩,HX.trans ZL⟩
 | succ r ih =>
   intro i ii hii hi w a n cap ta tn tc taken hG hT hl;subst hii;have heq:((i:Int) == (S:Int))=false:=t8;have hiS:i<S:=O;have Jm:S-(r+1)=i:=O;have HX:=I (D4.alloc w (SH #[.int .i64 (S:Int),.int .i64 (B:Int),FB a n cap] 157));refine Fn (hG.ext HX) (hT.ext HX) hT.hlen λHG HT Qw=>?_;have htl:tn<=5:=l8 hT.hlen;refine y5 (show n=S by have:=hG.hlen;have:=hM.rows;omega) Jm hi hl ih hM λHNS HI SO HL HIH HM=>?_;have hn:=hG.y7;have hm:=hG.y8;clear hG hT hl hi ih Jm hM;go_in
   go_wp2_with rfl;refine PP (HIH (i+1) ((i:Int)+1) j9 (l8 SO.o) _ a n cap ta tn tc taken HG.o HT.o (l8 HL.o)) λw1 v0 ho hx=>?_;obtain⟨a0,n0,p0,rfl,N0⟩:=ho.var;have hbd0:=gN S B G s HM.bd r taken;have QN:n0=r:=l8 N0.o;have X1:=I hx;have O0:=I ho;have NH:=hx.size;simp at NH;clear hx ho;have⟨b0,I7⟩:=j7 ((cg S B G s r taken).2);have⟨l0,hl0⟩:=j7 ((cg S B G s r taken).1);rw[<-I7,<-hl0]at hbd0;rw[<-hl0]at O0;have Mo:=I I7;have Pt:=I hl0;obtain⟨T5,Gm,F0⟩:=hbd0;have HN0:=I QN;have Gq:=I T5;rw[<-I7];clear I7 hl0 QN T5
   go_wp2_with (first
    | (at_builtin;refine bK rfl _ _ rfl (w+1) _ [(-1:Int)] rfl (y9.acv _ _ _ O) _ n0 _ l0 rfl (O0.ext ZL).ints (by have:=HN0.o;have:=SO.o;simp;omega) t8 ?_;intro v2 w2 ho hg r';obtain⟨a2,n2,c2,rfl,Jb⟩:=ho.var;have FM:=I ho;have X2:=I (aj (X1.trans ZL) hg (λj hj=>by have:=iv (show some w1.heap.size=some j from hj);simp;omega));clear ho hg r'))
   have Hy:=I (λk=>Dc S B G s HM.bd r taken k)
   go_loopw [11,12,13] (λt o j wr=>∃(k:Nat) (a1:o6) (n1 p1:Nat),k<=B/\j=.int .i64 (k:Int)/\t=.int .i64 (dM S B G s r taken k).2/\o=FB a1 n1 p1/\e9 (y9 wr (w+1) (FB a1 n1 p1) (dM S B G s r taken k).1)/\e9 (D4 (w.alloc (SH #[.int .i64 (S:Int),.int .i64 (B:Int),FB a n cap] 157)) wr)) (λ_ _ j _=>B-(intOf j).toNat)
   ·exact⟨0,a2,n2,c2,ef _,rfl,by rw[ik,<-Mo.o],rfl,I (by rw[ik,<-Pt.o];exact FM),I X2.o⟩
   obtain⟨k,a1,n1,p1,hk,rfl,rfl,rfl,C8,C5⟩:=hrel;have GY:=Hy.o k;have⟨T,hT⟩:=j7 ((dM S B G s r taken k).2);have⟨Q,hQ⟩:=j7 ((dM S B G s r taken k).1);rw[<-hT];rw[<-hT,<-hQ]at GY;rw[<-hQ]at C8;obtain⟨hql,Qn,ht2⟩:=GY;refine Fn hT hQ hql λZ HQ1 HQL=>?_;clear hT hQ hql;have c0:wr.cell? ⟨w,0,none⟩=some (.int .i64 (S:Int)):=C5.o9 j9;have c1:wr.cell? ⟨w,1,none⟩=some (.int .i64 (B:Int)):=C5.o9 j9;have c2':wr.cell? ⟨w,2,none⟩=some (FB a n cap):=C5.o9 j9;have hr5:r<5:=l8 SO.o;by_cases hlt:k<B
   ·refine Op (dG (s:Int) i O O) (show Ia (s:Int) ((S:Int)+(k:Int))=M2 (s:Int) (S+k)by have:=dG (s:Int) (S+k) O O;simpa using this) (HT.ext C5) (HG.ext C5) λK9 HP2 HTw HGw=>?_;cases Jh:M2 (s:Int) i
    ·have HF:=I (show fU S s taken (S-(r+1)) k=false by unfold fU;rw[HI.o,Jh];rfl);rw[Jh]at K9;clear Jh;go_wp2_with (go_at_call 173;refine(bE _ _ _ O).mono ?_;rw[K9.o];rintro e w' ⟨rfl,rfl⟩)
     go_roundw
     case rel=>exact⟨k+1,a1,n1,p1,by omega,by go_num,by rw[dI,HF.o,f8 j9,<-Z.o],rfl,I Tw,C5⟩
     simp[intOf];omega
    cases K:M2 (s:Int) (S+k)
    ·have HF:=I (show fU S s taken (S-(r+1)) k=false by unfold fU;rw[HI.o,Jh,K];rfl);rw[Jh]at K9;rw[K]at HP2;clear Jh K;go_wp2_with (go_at_call 173;refine(bE _ _ _ O).mono ?_;(first|rw[K9.o]|rw[HP2.o]);rintro e w' ⟨rfl,rfl⟩)
     go_roundw
     case rel=>exact⟨k+1,a1,n1,p1,by omega,by go_num,by rw[dI,HF.o,f8 j9,<-Z.o],rfl,I Tw,C5⟩
     simp[intOf];omega
    have HH:=I (CJ (k:Int) HTw);cases H:RE taken (k:Int)
    ·have HF:=I (show fU S s taken (S-(r+1)) k=true by unfold fU;rw[HI.o,Jh,K,H];rfl);rw[Jh]at K9;rw[K]at HP2;rw[H]at HH;have hiG:i<n:=by have:=HNS.o;omega
     have⟨gb,L0,ga,gn,gc,UR,PL,GQ⟩:=HGw.at hiG;have hgn:k<gn:=by have h1:=GQ.hlen;have h2:=HM.row i hiS;omega
     have⟨rb,roff,hra,NI⟩:=GQ.at hgn;have Ti:=HM.bd i k;have⟨y,hy⟩:=j7 (gg G i k);have NI:wr.cell? ⟨rb,roff+k,none⟩=some (.int .i64 y):=by rw[hy];exact NI
     rw[<-hy]at Ti;have HY:=I hy;have akr:=GQ.y7;have akp:=GQ.y8;clear Jh K H GQ hy;subst UR hra;have hbm:=gN S B G s HM.bd r (taken++[(k:Int)]);have⟨sm,hsm⟩:=j7 ((cg S B G s r (taken++[(k:Int)])).2);have⟨lm,NK⟩:=j7 ((cg S B G s r (taken++[(k:Int)])).1);rw[<-hsm,<-NK]at hbm;obtain⟨hlml,hsm1,hsm2⟩:=hbm;refine Fn hsm NK hlml λTs OW HLML=>?_;clear hsm NK hlml
     go_wp2_with (first
      | (go_at_call 173;refine(bE _ _ _ O).mono ?_;(first|rw[K9.o]|rw[HP2.o]);rintro e w' ⟨rfl,rfl⟩)
      | (go_at_call 303;refine cR HH ?_))
     have r8:=I λw' (h:D4 wr w')=>TX (h.o9 c0) (TX (h.o9 c1) (TX (h.o9 c2') h));have HW1:=I (show IntKind.i64.wrap ((i:Int)+1)=(i:Int)+1 by rw[j0];omega);have r7:=D4.drew wr;have Fu:D4 wr (wr.alloc (SH #[] 3)).drew:=ZL.trans fl;have hkb:D4 wr (wr.alloc (SH #[.int .i64 (k:Int)] 3)).drew:=ZL.trans fl;have ac3:D4 wr ((wr.alloc (SH #[] 3)).alloc (SH #[.int .i64 (k:Int)] 3)).drew:=(ZL.trans ZL).trans fl;have ac2:D4 wr ((wr.alloc (SH #[.int .i64 (k:Int)] 3)).alloc (SH #[] 3)).drew:=(ZL.trans ZL).trans fl;have HOA:e9 (y9 (wr.alloc (SH #[] 3)).drew wr (FB (some ⟨wr,0,none⟩) 0 0) []):=(y9.made' wr _ _ rfl (m9 _)).ext fl;have HOAB:e9 (y9 ((wr.alloc (SH #[] 3)).alloc (SH #[.int .i64 (k:Int)] 3)).drew wr (FB (some ⟨wr,0,none⟩) 0 0) []):=((y9.made' wr _ _ rfl (m9 _)).ext ZL).ext fl
     refine Fn (show y9 ((wr.alloc (SH #[.int .i64 (k:Int)] 3)).alloc (SH #[] 3)).drew wr (FB (some ⟨wr.heap.size+1,0,none⟩) 0 0) []from(y9.made' (wr.alloc (SH #[.int .i64 (k:Int)] 3)) wr _ j9 j9).ext fl) (show d6 ((wr.alloc (SH #[] 3)).alloc (SH #[.int .i64 (k:Int)] 3)).drew (some ⟨wr.heap.size+1,0,none⟩) 1 1 [(k:Int)]from(d6.one' (wr.alloc (SH #[] 3)) (k:Int) 3 (wr+1) j9).ext fl) (show d6 ((wr.alloc (SH #[.int .i64 (k:Int)] 3)).alloc (SH #[] 3)).drew (some ⟨wr,0,none⟩) 1 1 [(k:Int)]from((d6.one' wr (k:Int) 3 wr rfl).ext ZL).ext fl) λHOBA HJAB HJBA=>?_
     go_region_held3 (λw'=>w'.cell? ⟨w,0,none⟩=some (.int .i64 (S:Int))/\w'.cell? ⟨w,1,none⟩=some (.int .i64 (B:Int))/\w'.cell? ⟨w,2,none⟩=some (FB (some ⟨gb,L0,none⟩) n cap)/\D4 wr w')
      (first
        | with_reducible exact r8.o _ r7
        | with_reducible exact r8.o _ Fu
        | with_reducible exact r8.o _ hkb
        | with_reducible exact r8.o _ ac3
        | with_reducible exact r8.o _ ac2
        | with_reducible exact r8.o _ (r7.trans ZL))
      (first
        | (refine bU _ l7 ?_
           refine aO _ _ l7 wr (FB (some ⟨wr,0,none⟩) 0 0) [] l7 (by with_reducible exact HOA.o) ta tn tc taken l7 (HTw.ext Fu) t8 j9 ?_;intro v2 w3 ho hg r';have r7:D4 wr w3:=aj Fu hg (λj hj=>by have:=iv (show some wr.heap.size=some j from hj);omega);rw[Nl]at ho;obtain⟨A2,N2,C2,rfl,HN2'⟩:=ho.var;have Gh:=I (ho.ext (D4.alloc _ (SH #[.int .i64 (k:Int)] 3)));have HJ:=I (d6.one' w3 (k:Int) 3 w3 rfl);have Hc:=I (r7.trans (D4.alloc _ (SH #[.int .i64 (k:Int)] 3)));clear ho hg r')
        | (refine bU _ l7 ?_
           refine aO _ _ l7 wr (FB (some ⟨wr,0,none⟩) 0 0) [] l7 (by with_reducible exact HOAB.o) ta tn tc taken l7 (HTw.ext ac3) t8 t8 ?_;intro v2 w3 ho hg r';have r7:D4 wr w3:=aj ac3 hg (λj hj=>by have:=iv (show some wr.heap.size=some j from hj);omega);rw[Nl]at ho;obtain⟨A2,N2,C2,rfl,HN2'⟩:=ho.var;have Gh:=I ho;have HJ:=I (HJAB.ZW hg (by simp[Value.ownBlock]));have Hc:=I r7;clear ho hg r')
        | (refine bU _ l7 ?_
           refine aO _ _ l7 wr (FB (some ⟨wr.heap.size+1,0,none⟩) 0 0) [] l7 (by with_reducible exact HOBA.o) ta tn tc taken l7 (HTw.ext ac2) t8 t8 ?_;intro v2 w3 ho hg r';have r7:D4 wr w3:=aj ac2 hg (λj hj=>by have:=iv (show some (wr.heap.size+1)=some j from hj);omega);rw[Nl]at ho;obtain⟨A2,N2,C2,rfl,HN2'⟩:=ho.var;have Gh:=I ho;have HJ:=I (HJBA.ZW hg (by simp[Value.ownBlock]));have Hc:=I r7;clear ho hg r')
        | (refine bU _ l7 ?_
           refine aO _ _ l7 wr (FB A2 N2 C2) taken l7 (by with_reducible exact Gh.o) _ 1 1 [(k:Int)] l7 HJ.o (l8 Qw.o) (by have:=Hc.size;simp at this⊢;omega) ?_;intro v3 w4 ho hg r';have r7:D4 wr w4:=aj Hc.o hg (λj hj=>(Gh.lt j hj).1);obtain⟨A3,N3,C3,rfl,HN3'⟩:=ho.var;have Fj:=I ho;clear ho hg r')
        | (go_at_call 246;rw[HW1.o];refine(HIH (i+1) ((i:Int)+1) j9 (l8 SO.o) _ (some ⟨gb,L0,none⟩) n cap A3 N3 C3 (taken++[(k:Int)]) (HGw.ext r7) Fj.ints (by have:=HL.o;simp;omega)).mono ?_;rw[<-Ts.o,<-OW.o];rintro e w5 ⟨⟨v5,rfl,ho⟩,hx⟩;obtain⟨a5,n5,c5,rfl,N5⟩:=ho.var;have Gp:=I ho;have r7:=r7.trans hx;have hsz6:=hx.size;clear ho hx))
     all_goals
      have X5:=I (C5.trans r7);have O3:=I (C8.ext r7);replace c0:=r7.o9 c0;replace c1:=r7.o9 c1;replace c2':=r7.o9 c2';replace PL:=r7.o9 PL;replace NI:=r7.o9 NI;have afS:w.heap.size+1<=w5.heap.size:=by have:=X5.size;simpa using this
      clear r7 Fu hkb ac3 ac2;by_cases NL:T<sm+y
      ·have HGT:=I NL
       go_wp2_with (first
        | (at_builtin;refine bK rfl _ _ rfl (w+1) _ [(k:Int)] rfl (y9.acv _ _ _ O) _ n5 _ lm rfl (Gp.ext ZL).ints (by have:=N5.o;have:=HLML.o;simp;omega) t8 ?_;intro v6 w6 ho hg r';obtain⟨a6,n6,c6,rfl,Jy⟩:=ho.var;have Kb:=I ho;have X6:=I (aj (X5.trans ZL) hg (λj hj=>by have:=iv (show some w5.heap.size=some j from hj);simp;omega));clear ho hg r'))
       go_roundw
       case rel =>
        have hb:dM S B G s r taken (k+1)=((k:Int)::lm,sm+y):=by rw[dI,HF.o,i7 rfl,<-Ts.o,<-OW.o,HI.o,<-HY.o,<-Z.o,i7 (l8 HGT.o)]
        exact⟨k+1,a6,n6,c6,by omega,by go_num,by rw[hb],rfl,I (by rw[hb];simpa using Kb.o),X6⟩
       simp[intOf];omega
      have HGT:=I NL;go_wp2
      go_roundw
      case rel =>
       have hb:dM S B G s r taken (k+1)=dM S B G s r taken k:=by rw[dI,HF.o,i7 rfl,<-Ts.o,<-OW.o,HI.o,<-HY.o,<-Z.o,f8 (l8 HGT.o)]
       exact⟨k+1,a1,n1,p1,by omega,by go_num,by rw[hb,<-Z.o],rfl,I (by rw[hb,<-HQ1.o];exact O3),X5⟩
      simp[intOf];omega
    have HF:=I (show fU S s taken (S-(r+1)) k=false by unfold fU;rw[HI.o,Jh,K,H];rfl);rw[Jh]at K9;rw[K]at HP2;rw[H]at HH;clear Jh K H
    go_wp2_with (first
     | (go_at_call 173;refine(bE _ _ _ O).mono ?_;(first|rw[K9.o]|rw[HP2.o]);rintro e w' ⟨rfl,rfl⟩)
     | (go_at_call 303;refine cR HH ?_))
    go_roundw
    case rel=>exact⟨k+1,a1,n1,p1,by omega,by go_num,by rw[dI,HF.o,f8 j9,<-Z.o],rfl,I Tw,C5⟩
    simp[intOf];omega
   go_wp2;have hkB:k=B:=O;subst hkB;refine GE SF rfl ⟨⟨_,by rw[gV,Z.o],?_⟩,HX.trans C5.o⟩;rw[gV,<-HQ1.o];exact C8.mono O
def fm(x y:Int)(G:o4)(s:Int):Bool:=dC x y G&&A8 s 0 (Gg (x+y)-1)
def lA(x y:Int)(G:o4)(s:Int):o7×Int:=if fm x y G s=true then cg x.toNat y.toNat G s.toNat x.toNat [] else([],0)
theorem tR{y:Int}{s:Int}(h:fm x y G s=false):lA x y G s=([],0):=by simp[lA,h]
theorem wv(h:fm (S:Int) (B:Int) G (s:Int)=true):lA (S:Int) (B:Int) G (s:Int)=cg S B G s S []:=by simp[lA,h]
theorem kV{w:J}{b:Nat}{v u:atY}{t:TypeId}(h:w.heap[b]?=some (SH #[v] t (0,0))):(w.setCell (IM b 0) u).heap[b]?=some (SH #[u] t (0,0)):=one_setCell h
section
variable{w w':J}{base bn bN bo bw n m c m' c':Nat}{p:o7}{L:o4}{a a':o6}{vs:List atY}
end
def LO(h:σ:=by
 have h1:=pI s k h;rw[tW _ h1.1 O];unfold M2;have:s/2^k % 2=0∨s/2^k % 2=1:=by omega
 rcases this with h|h<;>simp[h]
 ):σ:=h
theorem Bj(s:Int)(k:Nat)(h:0<=s)(h':s<=9223372036854775807):(bits BinOp.and IntKind.i64 (s/2^k) 1 == 0)=!M2 s k:=by
 exact LO
theorem Ca(k:Nat)(h:k<=5):IntKind.i64.wrap ((2:Int)^k)=2^k:=by
 have:=fk k;have:=gG k h;rw[j0];omega
abbrev UZ(bm bs bb bo bx bw:Nat):Array atY:=#[ats (some ⟨bm,0,none⟩),ats (some ⟨bo,0,none⟩),ats (some ⟨bx,0,none⟩),ats (some ⟨bb,0,none⟩),ats (some ⟨bw,0,none⟩),ats (some ⟨bs,0,none⟩)]
structure Ws(w0 w:J)(S B s:Nat)(a:o6)(n cap bm bs bb bo br bx bw base:Nat)(a1:o6)(n1 c1:Nat)(st:MN):Prop where
 ord:w0.heap.size<=bm/\bm<bs/\bs<bb/\bb<bo/\bo<br/\br<bx/\bx<bw/\bw<base/\base<=w.heap.size
 hm:w.heap[bm]?=some (SH #[U S,U B,FB a n cap] 157 (0,0))
 hs:w.heap[bs]?=some (SH #[U s] 3 (0,0))
 hb:w.heap[bb]?=some (SH #[FB a1 n1 c1] 29 (0,0))
 ho:w.heap[bo]?=some (SH #[U st.most] 3 (0,0))
 hr:kg w br 3 st.now
 hx:w.heap[bx]?=some (SH #[GT br S S] 29 (0,0))
 hw:w.heap[bw]?=some (SH #[.func (.func 298) #[] (UZ bm bs bb bo bx bw)] 254 (0,0))
 own:y9 w base (FB a1 n1 c1) st.KP
 len:st.now.length=S
 Ue:D4 w0 w
section
variable{w0 w w1:J}{S B s:Nat}{a:o6}{n cap bm bs bb bo br bx bw base:Nat}{a1:o6}{n1 c1:Nat}{st:MN}
theorem Ws.ext(h:Ws w0 w S B s a n cap bm bs bb bo br bx bw base a1 n1 c1 st)(hx:D4 w w1):Ws w0 w1 S B s a n cap bm bs bb bo br bx bw base a1 n1 c1 st :=
 ⟨by have:=h.ord;have:=hx.size;omega,(hx.block _ (IO h.hm)).trans h.hm,(hx.block _ (IO h.hs)).trans h.hs,(hx.block _ (IO h.hb)).trans h.hb,(hx.block _ (IO h.ho)).trans h.ho,h.hr.ext hx,(hx.block _ (IO h.hx)).trans h.hx,(hx.block _ (IO h.hw)).trans h.hw,h.own.ext hx,h.len,h.Ue.trans hx⟩
theorem Ws.Xj(h:Ws w0 w S B s a n cap bm bs bb bo br bx bw base a1 n1 c1 st)(i:Nat)(x:Int):Ws w0 (w.setCell (IM br i) (U x)) S B s a n cap bm bs bb bo br bx bw base a1 n1 c1 ⟨st.now.set i x,st.KP,st.most⟩:=by
 have ho:=h.ord;have H:∀k,k≠br->(w.setCell (IM br i) (U x)).heap[k]?=w.heap[k]?:=λk K=>If w _ k _ K
 refine⟨by simp;omega,?_,?_,?_,?_,h.hr.set i x,?_,?_,h.own.keep λk K=>H k (l8 ((h.own.lt k K).1)),by simpa using h.len,h.Ue.setCell t8 _⟩
 ·rw[H _ O];exact h.hm
 ·rw[H _ O];exact h.hs
 ·rw[H _ O];exact h.hb
 ·rw[H _ O];exact h.ho
 ·rw[H _ O];exact h.hx
 rw[H _ O];exact h.hw
theorem Ws.ab3(h0:Ws w0 w S B s a n cap bm bs bb bo br bx bw base a1 n1 c1 st)(hx:D4 w w1){a2:o6}{K c2:Nat}{l:o7}(hl:y9 w1 w (FB a2 K c2) l)(x:Int):
 Ws w0 ((w1.setCell (IM bb 0) (FB a2 K c2)).setCell (IM bo 0) (U x)) S B s a n cap bm bs bb bo br bx bw base a2 K c2 ⟨st.now,l,x⟩:=by
 have h:=h0.ext hx;have ho:=h.ord;have ho0:=h0.ord;have H:∀k,k≠bb->k≠bo->((w1.setCell (IM bb 0) (FB a2 K c2)).setCell (IM bo 0) (U x)).heap[k]?=w1.heap[k]?:=λk Z r7=>(If _ _ k _ r7).trans (If _ _ k _ Z)
 refine⟨by simp;omega,?_,?_,?_,?_,?_,?_,?_,(hl.mono O).keep λk Z=>H k ?_ ?_,h.len,(h.Ue.setCell t8 _).setCell t8 _⟩
 ·rw[H _ O O];exact h.hm
 ·rw[H _ O O];exact h.hs
 ·rw[If _ _ _ _ t8];exact kV h.hb
 ·exact kV ((If _ _ _ _ t8).trans h.ho)
 ·exact(h.hr.other t8 _).other t8 _
 ·rw[H _ O O];exact h.hx
 ·rw[H _ O O];exact h.hw
 ·have:=(hl.lt k Z).1;omega
 have:=(hl.lt k Z).1;omega
end
def Oz(w0:J)(S B s:Nat)(a:o6)(n cap bm bs bb bo br bx bw base:Nat)(st:MN)(w:J):Prop:=∃a1 n1 c1,Ws w0 w S B s a n cap bm bs bb bo br bx bw base a1 n1 c1 st
theorem mE:Rd prog 298:=cE func298 k8 k8
theorem QB{w0:J}{a:o6}{n cap:Nat}(hM:Vh S B G)(hs:s<32)(hG:dD w0 a n cap G)(bm bs bb bo br bx bw base:Nat):
 ∀(r i:Nat) (ii li sum:Int) (left:Nat) (w:J) (a1:o6) (n1 c1:Nat) (st:MN),ii=(i:Int)->li=(left:Int)->i+r=S->left<32->0<=sum->sum<=100*i ->
 Ws w0 w S B s a n cap bm bs bb bo br bx bw base a1 n1 c1 st ->
 Calls prog 298 #[U ii,U li,U sum,ats (some (IM bm 0)),ats (some (IM bo 0)),ats (some (IM bx 0)),ats (some (IM bb 0)),ats (some (IM bw 0)),ats (some (IM bs 0))] w λe w' =>
  e=atn (.tuple #[])/\Oz w0 S B s a n cap bm bs bb bo br bx bw base (ej S B G s r left sum st) w':=by
 have KD:=hM.sb;have VD:∀(args:Array atY) (w:J),(callFunc 298 args).run prog w=.ok (.enter 298 args) w:=mE;intro r
 induction r with
 | zero =>
   intro i ii li sum left w a1 n1 c1 st hii hli hi FU ME J2 H;subst hii hli;have heq:((i:Int) == (S:Int))=true:=t8;have cm:w.cell? (IM bm 0)=some (U S):=by rw[UV _ _ _ _ _ _ H.hm];rfl
   have co:=C1 H.ho;have fo:=Wh H.ho;have cb:=C1 H.hb;have fb:=Wh H.hb;have cx:=C1 H.hx;have af5:bb≠bo:=l8 H.ord;have af4:bo≠bb:=l8 H.ord;have HS:=I H;have HI:=I hi;by_cases NL:st.most<sum
   ·have HZ:=I (show ej S B G s 0 left sum st=⟨st.now,st.now,sum⟩by simp[ej,NL]);have HN:=I (H.hr.ints (n:=S) (cap:=S) H.len (m9 _) O);go_in
    go_wp2_with rfl;refine yf (kh HN.o O) λw1 v ho hx=>?_;obtain⟨a2,n2,c2,rfl,Jb⟩:=ho.var;have hS1:=HS.ext hx;have co:=C1 hS1.ho;have fo:=Wh hS1.ho;have cb:=C1 hS1.hb;have fb:=Wh hS1.hb;have HX:=I hx;have HO:=I ho;go_wp2;refine GE (Q8 rfl _ _ _) rfl ?_;rw[HZ.o];exact⟨rfl,a2,n2,c2,HS.ab3 HX.o HO.o sum⟩
   have HZ:=I (show ej S B G s 0 left sum st=st by simp[ej,NL]);go_in
   go_wp2;refine GE (Q8 rfl _ _ _) rfl ?_;rw[HZ.o];exact⟨rfl,a1,n1,c1,HS⟩
 | succ r ih =>
   intro i ii li sum left w a1 n1 c1 st hii hli hi FU ME J2 H;subst hii hli;have heq:((i:Int) == (S:Int))=false:=t8;have hiS:i<S:=O;have Jm:S-(r+1)=i:=O;have hord:=H.ord;have cm0:w.cell? (IM bm 0)=some (U S):=by rw[UV _ _ _ _ _ _ H.hm];rfl
   have cx:=C1 H.hx;have hn:=H.hr.cell (k:=i) (by rw[H.len];exact hiS);have⟨y0,JB⟩:=j7 (st.now[i]?.getD 0);rw[<-JB]at hn;have fn:=H.hr.free i;have JE:=I (H.Xj i (-1));have cw1:=C1 JE.hw;refine Op Jm hi ih hM λHI SO HIH MQ=>?_;have I7:=Bj (s:Int) i O O;have LU:S<=5:=O;clear JB;go_in
   go_wp2_with rfl;refine(HIH (i+1) ((i:Int)+1) (left:Int) sum left _ a1 n1 c1 _ j9 rfl (l8 SO.o) FU ME t8 JE).mono ?_;rintro e w2 ⟨rfl,a2,n2,c2,hS2⟩;have IN:=I hS2;have cs2:=C1 hS2.hs;cases Jh:M2 (s:Int) i
   ·rw[Jh]at I7;have Q6:=I Jh;go_wp2;refine GE (Q8 rfl _ _ _) rfl ?_;rw[wy _ _ _ _ (by rw[HI.o];exact Q6),HI.o];exact⟨rfl,a2,n2,c2,IN⟩
   rw[Jh]at I7;have Q6:=I Jh;have cm1:w2.cell? (IM bm 1)=some (U B):=by rw[UV _ _ _ _ _ _ IN.hm];rfl
   have HZ:=I (zB S B G s (r:=r) (left:=left) (sum:=sum) (st:=st) (by rw[HI.o];exact Q6))
   go_wp2
   go_loopw [39] (λj wr=>∃(k:Nat),k<=B/\j=U k/\Oz w0 S B s a n cap bm bs bb bo br bx bw base (gu S B G s r left sum st k) wr) (λj _=>B-(intOf j).toNat)
   ·exact⟨0,ef _,rfl,a2,n2,c2,by rw[qG,HI.o];exact IN⟩
   obtain⟨k,hk,rfl,a3,n3,c3,ZN⟩:=hrel;have MZ:=I ZN;have cm0:wr.cell? (IM bm 0)=some (U S):=by rw[UV _ _ _ _ _ _ ZN.hm];rfl
   have cx:=C1 ZN.hx;by_cases hlt:k<B
   ·have Pf:=mR (left:Int) (S+k) O O;cases LZ:M2 (left:Int) (S+k)
    ·rw[LZ]at Pf;have LH:=I LZ;go_wp2
     go_roundw
     case rel=>exact⟨k+1,by omega,by go_num,a3,n3,c3,by rw[mA,LH.o,f8 j9];exact MZ⟩
     simp[intOf];omega
    rw[LZ]at Pf;have LH:=I LZ;have ajT:=ZN.ord;have Nw:=ZN.hr.cell (k:=i) (by rw[ZN.len];exact hiS);have⟨y3,hy3⟩:=j7 ((gu S B G s r left sum st k).now[i]?.getD 0);rw[<-hy3]at Nw;have fn3:=ZN.hr.free i;have K:=ZN.Xj i (k:Int);have Qy:=I K;have hiG:i<n:=by have:=hG.hlen;have:=MQ.rows;omega
    have⟨hncap,hnmax⟩:=hG.ath;have⟨gb,L0,ga,gn,gc,UR,agd,GQ⟩:=hG.at hiG;have hgn:k<gn:=by have h1:=GQ.hlen;have h2:=MQ.row i hiS;omega
    have⟨rb,roff,hra,Zl⟩:=GQ.at hgn;have Ti:=MQ.bd i k;have⟨y,HY⟩:=Ok (gg G i k);have Zl:w0.cell? (IM rb (roff+k))=some (U y):=by rw[HY.o];exact Zl
    have PL:=K.Ue.o9 agd;have NI:=K.Ue.o9 Zl;have HGC:=I agd;have SQ:=I Zl;rw[<-HY.o]at Ti;have⟨akr,akp⟩:=GQ.ath;have cw4:=C1 K.hw;have cm40:(wr.setCell (IM br i) (U k)).cell? (IM bm 0)=some (U S):=by rw[UV _ _ _ _ _ _ K.hm];rfl
    have cm42:(wr.setCell (IM br i) (U k)).cell? (IM bm 2)=some (FB a n cap):=by rw[UV _ _ _ _ _ _ K.hm];rfl
    subst UR hra;have⟨w4,HW4⟩:=Ok (wr.setCell (IM br i) (U k));rw[<-HW4.o]at PL NI cw4 cm40 cm42 Qy;clear hy3;have r7:=D4.drew w4;have agH:=gf FU (show S+k<5 by omega) LH.o;obtain⟨u,hu⟩:∃u:Nat,u=left-2^(S+k):=⟨_,rfl⟩;have Y7:u<32:=by rw[hu];exact KW (Nat.sub_le _ _) FU
    rw[<-hu]at agH;have HU:=I hu;have eSk:=dc ((S:Int)+(k:Int));have eI:=dc ((i:Int)+1);have eSum:=dc (sum+y);refine Fn (Ca (S+k) O) (show((S:Int)+(k:Int)).toNat=S+k by omega) agH λHPow Tq HCut=>?_;clear hu;go_wp2;rw[<-HW4.o]
    go_region_held3 (λw'=>w'.cell? (IM bw 0)=some (.func (.func 298) #[] (UZ bm bs bb bo bx bw))/\w'.cell? (IM bm 0)=some (U S)/\w'.cell? (IM bm 2)=some (FB (some (IM gb L0)) n cap)/\w'.cell? (IM gb (L0+i))=some (FB (some (IM rb roff)) gn gc)/\w'.cell? (IM rb (roff+k))=some (U y))
     (first
       | exact⟨r7.o9 cw4,r7.o9 cm40,r7.o9 cm42,r7.o9 PL,r7.o9 NI⟩
       | exact⟨C1 Lt.hw,by rw[UV _ _ _ _ _ _ Lt.hm];rfl,by rw[UV _ _ _ _ _ _ Lt.hm];rfl,Lt.Ue.o9 HGC.o,Lt.Ue.o9 SQ.o⟩)
     (first
       | (rw[Tq.o,HPow.o,HCut.o]
          have T1:=HIH.o (i+1) ((i:Int)+1) (u:Int) (sum+y) u _ a3 n3 c3 _ j9 rfl (l8 SO.o) Y7 O t8 (Qy.ext r7)
          with_reducible refine T1.mono ?_
          rintro e w5 ⟨rfl,a5,n5,c5,hS5⟩;have Lt:=I hS5
          skip))
    go_wp2
    go_roundw
    case rel=>exact⟨k+1,by omega,by go_num,a5,n5,c5,by rw[mA,LH.o,i7 rfl,HI.o,<-HY.o,<-HU.o];exact Lt⟩
    simp[intOf];omega
   have hkB:k=B:=O;subst hkB;go_wp2
   go_end0
   rw[HZ.o];exact⟨rfl,a3,n3,c3,MZ⟩
end
section
variable{w:J}{x y:Int}{a:o6}{n S B:Nat}{G:o4}
def X'(h:σ:=by
 repeat(first|exact LE j9|rw[wZ t8]|rw[wZ j9])
 ):σ:=h
theorem xC{s:Int}{cap:Nat}(h:dD w a n cap G):
 Calls prog 237 #[lB x y a n cap,U s] w λe w'=>(∃v,e=atn (.tuple #[v,U (lA x y G s).2,ato (fm x y G s)])/\y9 w' w v (lA x y G s).1)/\D4 w w':=by
 have⟨W,HW⟩:=Ok ((w.alloc (SH #[U x,U y,FB a n cap] 157)).alloc (SH #[U s] 3));have hX:D4 w W:=by rw[HW.o];exact ZL.trans ZL
 refine Fn hX h (lP (x:=x) (y:=y) ((h.ext hX).ext (D4.drew W))) λHX HG HV=>?_;have hsz:W.heap.size=w.heap.size+1+1:=by rw[HW.o];simp
 have Z:W.heap[w.heap.size]?=some (SH #[U x,U y,FB a n cap] 157 (0,0)):=by rw[HW.o,wZ j9];exact LE rfl
 have Wm:W.heap[w.heap.size+1]?=some (SH #[U s] 3 (0,0)):=by rw[HW.o];exact LE j9
 have c0:W.cell? (IM w 0)=some (U x):=by rw[UV _ _ _ _ _ _ Z];rfl
 have c1:W.cell? (IM w 1)=some (U y):=by rw[UV _ _ _ _ _ _ Z];rfl
 have c2:W.cell? (IM w 2)=some (FB a n cap):=by rw[UV _ _ _ _ _ _ Z];rfl
 have cs:=C1 Wm;refine Fn Z Wm hsz λHBM Kt HSZ=>?_;have r7:=D4.drew W;cases hv:dC x y G
 ·have HN:=I (show fm x y G s=false by simp[fm,hv]);rw[hv]at HV;go_in
  go_wp2;rw[<-HW.o];refine k6 (S:=(λw'=>w'.cell? (IM w 0)=some (U x)/\w'.cell? (IM w 1)=some (U y)/\w'.cell? (IM w 2)=some (FB a n cap)/\D4 W w')) k8 ?_ (λr9=>?_)
  ·exact⟨r7.o9 c0,r7.o9 c1,r7.o9 c2,r7⟩
  refine tk 0 ?_;refine rd 1 λK hK=>?_;go_simp
  (go_at_call 235;refine i6 HV λH C0=>?_;have r7:=r7.trans C0)
  go_wp2_with rfl;refine KO (an (r7.o9 c0) (an (r7.o9 c1) (an (r7.o9 c2) r7))) λr9=>?_;refine tk 2 ?_;refine Mp ⟨?_⟩;refine tk 7 ?_;refine tk 8 ?_;refine tk 9 ?_;refine tk 10 ?_;refine O5 ⟨?_⟩;refine tk 14 ?_;refine ST k8 ?_ _;go_wp2;rw[tR HN.o,HN.o];refine GE TU rfl ⟨⟨_,rfl,y4⟩,HX.trans r7⟩
 rw[hv]at HV;obtain⟨S,B,rfl,rfl,hM⟩:=mw hv;have KD:=hM.sb;have Oi:=dT (S+B) KD;have hN:=bp (S+B) KD;have RB:Gg ((S:Int)+(B:Int))=(cN (S+B):Int):=by rw[<-Oi];simp
 have HC:=I RB;have HM:=I hM;have eSB:=dc ((S:Int)+(B:Int));have eN:=dc ((cN (S+B):Int)-1)
 cases FA:A8 s 0 ((cN (S+B):Int)-1)
 ·have Jj:=I FA;have HN:=I (show fm (S:Int) (B:Int) G s=false by simp[fm,hv,RB,FA]);clear Oi;go_in
  go_wp2;rw[<-HW.o]
  go_region_held3 (λw'=>w'.cell? (IM w 0)=some (U S)/\w'.cell? (IM w 1)=some (U B)/\w'.cell? (IM w 2)=some (FB a n cap)/\w'.cell? (IM (w+1) 0)=some (U s)/\D4 W w')
   (exact⟨r7.o9 c0,r7.o9 c1,r7.o9 c2,r7.o9 cs,r7⟩)
   (first
     | (go_at_call 235;refine i6 HV λH C0=>?_;have r7:=r7.trans C0)
     | (go_at_call 83;refine cR (ev _ _) ?_;rw[HC.o])
     | (go_at_call 82;refine cR ns ?_;rw[Jj.o]))
  go_wp2;rw[tR HN.o,HN.o];refine GE TU rfl ⟨⟨_,rfl,y4⟩,HX.trans r7⟩
 have Jj:=I FA;have Ho:=I (show fm (S:Int) (B:Int) G s=true by simp[fm,hv,RB,FA]);obtain⟨t,rfl⟩:∃t:Nat,s=t:=⟨s.toNat,by unfold A8 at FA;simp at FA;omega⟩;have ht:t<32:=by unfold A8 at FA;simp at FA;omega
 have hmk:=jk S O;clear Oi;go_in
 go_wp2;rw[<-HW.o]
 go_region_held3 (λw'=>w'.cell? (IM w 0)=some (U S)/\w'.cell? (IM w 1)=some (U B)/\w'.cell? (IM w 2)=some (FB a n cap)/\w'.cell? (IM (w+1) 0)=some (U t)/\D4 W w')
  (exact⟨r7.o9 c0,r7.o9 c1,r7.o9 c2,r7.o9 cs,r7⟩)
  (first
    | (go_at_call 235;refine i6 HV λH C0=>?_;have r7:=r7.trans C0)
    | (go_at_call 83;refine cR (ev _ _) ?_;rw[HC.o])
    | (go_at_call 82;refine cR ns ?_;rw[Jj.o]))
 have d0:=r7.o9 c0;have ds:=r7.o9 cs;have hlt3:w.heap.size+1<H.heap.size:=vM _ _ ds;have hltm:w.heap.size<H.heap.size:=O;have X3:=I (HX.trans r7);have LG:=I ((r7.block _ (l8 HSZ.o)).trans HBM);have MZ:=I ((r7.block _ (l8 HSZ.o)).trans Kt);have hS:Ws w (((((H.alloc (SH #[d9] 29)).alloc (SH #[U (-1)] 3)).alloc (SH (bF (List.replicate S 0)) 3)).alloc (SH #[GT (H.heap.size+1+1) S S] 29)).alloc
  (SH #[.func (.func 298) #[] (UZ w (w+1) H (H+1) (H.heap.size+1+1+1) (H.heap.size+1+1+1+1))] 254))
  S B t a n cap w (w+1) H (H+1) (H.heap.size+1+1) (H.heap.size+1+1+1) (H.heap.size+1+1+1+1) (H.heap.size+1+1+1+1+1) none 0 0 ⟨List.replicate S 0,[],-1⟩:=by
  have hx:D4 H (((((H.alloc (SH #[d9] 29)).alloc (SH #[U (-1)] 3)).alloc (SH (bF (List.replicate S 0)) 3)).alloc (SH #[GT (H.heap.size+1+1) S S] 29)).alloc
   (SH #[.func (.func 298) #[] (UZ w (w+1) H (H+1) (H.heap.size+1+1+1) (H.heap.size+1+1+1+1))] 254)) :=
   ((((ZL.trans ZL).trans ZL).trans ZL).trans ZL)
  refine⟨by simp;omega,?_,?_,?_,?_,?_,?_,?_,y4,by simp,X3.trans hx⟩
  ·exact(hx.block _ O).trans LG.o
  ·exact(hx.block _ O).trans MZ.o
  ·exact X'
  ·exact X'
  ·unfold kg;exact X'
  ·exact X'
  exact X'
 have T1:=I (QB HM.o ht HG.o _ _ _ _ _ _ _ _ S 0 0 (t:Int) 0 t _ _ _ _ _ rfl rfl O ht O j9 hS);have VD:∀(args:Array atY) (w:J),(callFunc 298 args).run prog w=.ok (.enter 298 args) w:=mE;have csW:=C1 hS.hs;have I6:w.heap.size≠H.heap.size:=O;have JJ:w.heap.size≠H.heap.size+1:=O;have hq3:w.heap.size≠H.heap.size+1+1:=O;have hq4:w.heap.size≠H.heap.size+1+1+1:=O;have Lk:w.heap.size+1≠H.heap.size:=O;have hq6:w.heap.size<H.heap.size+1+1+1:=O;have hq7:w.heap.size<H.heap.size+1+1:=O;have hq8:w.heap.size<H.heap.size+1:=O;go_wp2_with rfl;refine T1.mono ?_;rintro e w7 ⟨rfl,a5,n5,c5,hS7⟩;have Qx:=I hS7;have cb:=C1 hS7.hb;have co:=C1 hS7.ho;have hF:=od S B G t KD S t [] 0 ⟨List.replicate S 0,[],-1⟩ (m9 _) j9 ht (λj _=>by simp[RE]);have Kw:=gN S B G t HM.bd S [];unfold lE at hF;obtain⟨f1,f2,f3⟩:=hF;simp only[R8,List.take_zero,Nl,Int.zero_add]at f3;have f4:(ej S B G t S t 0 ⟨List.replicate S 0,[],-1⟩).KP=(cg S B G t S []).1/\(ej S B G t S t 0 ⟨List.replicate S 0,[],-1⟩).most=(cg S B G t S []).2:=by
  rcases f3 with⟨_,g2,g3⟩|⟨g1,_⟩
  ·exact⟨g2,g3⟩
  omega
 have HF:=I f4;have⟨mo,HMO⟩:=Ok ((ej S B G t S t 0 ⟨List.replicate S 0,[],-1⟩).most);rw[<-HMO.o]at co;go_wp2
 go_quiet (fail)
 go_wp2;rw[Ho.o,wv Ho.o];refine GE TU rfl ⟨⟨_,by rw[<-HF.2,<-HMO.o],?_⟩,Qx.Ue.trans (F8.ext ⟨_,rfl⟩)⟩;rw[<-HF.1];exact(Qx.own.ext (F8.ext ⟨_,rfl⟩)).mono O
def ON(S B:Nat)(G:o4)(s:Nat):Int:=(cg S B G s S []).2
def P7(x y:Int)(G:o4):Nat:=if dC x y G=true then(x+y).toNat else 0
def OM(x y:Int)(G:o4):o7:=if dC x y G=true then FZ (ON x.toNat y.toNat G) (cN (x+y).toNat) else []
theorem se(S B:Nat)(G:o4):∀(r:Nat) (taken:o7),(cg S B G 0 r taken).2=0
 | 0,_=>rfl
 | r+1,taken=>by
   rw[gV];have H:∀k,dM S B G 0 r taken k=(-1::(cg S B G 0 r taken).1,(cg S B G 0 r taken).2):=by
    intro k
    induction k with
    | zero=>rfl
    | succ k ih=>rw[dI,f8 (by simp[fU,M2]),ih]
   rw[H];exact se S B G r taken
theorem N1(H:Vh S B G)(s:Nat):-500<=ON S B G s/\ON S B G s<=500:=by
 have:=gN S B G s H.bd S [];have:=H.sb;unfold ON;omega
theorem WW{s:Nat}(H:dC (S:Int) (B:Int) G=true)(Z:S+B<=5)(hs:s<cN (S+B)):fm (S:Int) (B:Int) G (s:Int)=true:=by
 have K:=dT (S+B) Z;have RB:Gg ((S:Int)+(B:Int))=(cN (S+B):Int):=by rw[<-K];simp
 unfold fm A8;rw[H,RB];simp;omega
theorem oQ:Rd prog 236:=cE func236 k8 k8
theorem qg{s bm:Nat}{cap:Nat}(h:dD w a n cap G)(hm:w.heap[bm]?=some (SH #[U S,U B,FB a n cap] 157 (0,0)))
 (H:dC (S:Int) (B:Int) G=true) (K:S+B<=5) (hs:s<cN (S+B)) :
 f9 236 #[U s,ats (some (IM bm 0))] w (U (ON S B G s)):=by
 have HB:=I (xC (x:=(S:Int)) (y:=(B:Int)) (s:=(s:Int)) h);have Z:=I (show(lA (S:Int) (B:Int) G (s:Int)).2=ON S B G s by rw[wv (WW H K hs)];rfl);have c0:w.cell? (IM bm 0)=some (U S):=by rw[UV _ _ _ _ _ _ hm];rfl
 have c1:w.cell? (IM bm 1)=some (U B):=by rw[UV _ _ _ _ _ _ hm];rfl
 have c2:w.cell? (IM bm 2)=some (FB a n cap):=by rw[UV _ _ _ _ _ _ hm];rfl
 unfold f9;go_in
 go_wp2_with rfl;refine PP HB λw1 v ho hx=>?_;rw[Z.o];go_wp2;go_ret;exact⟨rfl,hx⟩
def UI(h:σ:=by
 rw[hv]at HV;have Hb:=I hv;clear hv;go_in
 go_wp2_with rfl;refine HV.mono ?_;rintro e w1 ⟨rfl,hx⟩;have r0:w1.cell? (IM (w.heap.size+1) 0)=some (U 0):=hx.o9 j9;have r1:w1.cell? (IM (w.heap.size+1) 1)=some d9:=hx.o9 j9;have f0:w1.frozen? (IM (w.heap.size+1) 0)=false:=(hx.Fl _ _ j9).trans j9;have f1:w1.frozen? (IM (w.heap.size+1) 1)=false:=(hx.Fl _ _ j9).trans j9;have A6:=I (HX.trans hx);clear hx;go_wp2;refine GE Zv rfl ⟨⟨d9,?_,?_⟩,?_⟩
 ·unfold P7;rw[Hb.o];rfl
 ·unfold OM;rw[Hb.o];exact⟨rfl,.inl ⟨rfl,rfl⟩⟩
 ·exact(A6.setCell j9 _).setCell j9 _
 ):σ:=h
def PO(h:σ:=by
 unfold OM;rw[Hb.o,i7 rfl];have e:((S:Int)+(B:Int)).toNat=S+B:=by omega
 rw[e];rfl
 ):σ:=h
theorem qU{cap:Nat}(h:dD w a n cap G):
 Calls prog 157 #[lB x y a n cap] w λe w'=>jv w' w e (P7 x y G) (OM x y G) (dC x y G)/\D4 w w':=by
 have HX:=I ((D4.alloc w (SH #[U x,U y,FB a n cap] 157)).trans (D4.alloc _ (SH #[U 0,d9] 31)));have HV:=I (lP (x:=x) (y:=y) (h.ext HX));have HI:=I (h.ext HX);clear h;cases hv:dC x y G
 ·have qq0:=@results157;exact UI
 rw[hv]at HV;obtain⟨S,B,rfl,rfl,Z⟩:=mw hv;have KD:=Z.sb;have hN:=bp (S+B) KD;have h1:1<=S+B:=l8 Z.s1;have Hb:=I hv;have HM:=I Z;have H:(S:Int)+(B:Int)=((S+B:Nat):Int):=j9;have HSB:=I H;clear hv Z H;go_in
 go_wp2_with rfl;refine qc HV λw1 A6=>?_;have c0:w1.cell? (IM w 0)=some (U S):=A6.o9 j9;have c1:w1.cell? (IM w 1)=some (U B):=A6.o9 j9;have HB:e9 (w1.heap[w.heap.size]?=some (SH #[U S,U B,FB a n cap] 157 (0,0))):=(A6.block _ t8).trans Zx;have Oo:=I (HI.ext A6);have J2:w.heap.size<w1.heap.size:=vM _ _ c0;have HT:e9 (iK prog w1 236 #[ats (some (IM w 0))] (cN (S+B)) (ON S B G)):=I λs w2 hs k =>
  qg (Oo.ext k) ((k.block _ (IO HB)).trans HB) Hb.o KD hs
 have U':=I (oU h1 KD oQ HT.o (se S B G S []) (λs _=>N1 HM.o s));rw[<-HSB.o]at U';go_wp2_with rfl;refine hF U' λw2 v ho hx=>?_;obtain⟨a2,n2,c2,rfl,Jb⟩:=ho.var;have K:=I (A6.trans hx);have r0:w2.cell? (IM (w+1) 0)=some (U 0):=K.o9 j9;have r1:w2.cell? (IM (w+1) 1)=some d9:=K.o9 j9;have f0:w2.frozen? (IM (w+1) 0)=false:=(K.Fl _ _ j9).trans j9;have f1:w2.frozen? (IM (w+1) 1)=false:=(K.Fl _ _ j9).trans j9;have HO1:=I ho;have NH:=A6.size;simp at NH;clear ho;go_wp2;have hp:P7 (S:Int) (B:Int) G=S+B:=by unfold P7;rw[Hb.o,i7 rfl];omega
 have hl:OM (S:Int) (B:Int) G=FZ (ON S B G) (cN (S+B)):=by
  exact PO
 rw[hp,hl];refine GE (by simp[results,results157,go_sem,r0,r1]<;>rfl) rfl ⟨⟨FB a2 n2 c2,rfl,?_⟩,?_⟩
 ·exact Su
 exact((HX.trans K).setCell j9 _).setCell j9 _
theorem rF{cap:Nat}(h:dD w a n cap G):
 Calls prog 164 #[lB x y a n cap] w λe w'=>jv w' w e (P7 x y G) (OM x y G) (dC x y G)/\D4 w w':=by
 have HX:=I ((D4.alloc w (SH #[U x,U y,FB a n cap] 157)).trans (D4.alloc _ (SH #[U 0,d9] 31)));have HV:=I (tH (x:=x) (y:=y) (h.ext HX));have HI:=I (h.ext HX);cases hv:dC x y G
 ·have qq0:=@results164;exact UI
 rw[hv]at HV;obtain⟨S,B,rfl,rfl,hM⟩:=mw hv;have KD:=hM.sb;have hN:=bp (S+B) KD;have Hb:=I hv;have HM:=I hM;have Oi:=dT (S+B) KD;have HC:=I (show Gg ((S:Int)+(B:Int))=(cN (S+B):Int)by rw[<-Oi];simp);clear Oi;go_in
 go_wp2_with rfl;refine i6 HV λw1 hx=>?_;have c0:w1.cell? (IM w 0)=some (U S):=hx.o9 j9;have c1:w1.cell? (IM w 1)=some (U B):=hx.o9 j9;have J2:w.heap.size<w1.heap.size:=vM _ _ c0;have Pa:w.heap.size+1<w1.heap.size:=by have:=hx.size;simp at this;omega
 have A6:=I hx;have Oo:=I (HI.ext hx);go_wp2_with (go_at_call 91;refine cR (dp _ _) ?_;rw[HC.o])
 go_loopw [6] (λi wr=>∃(k:Nat) (a1:o6) (n1 c1:Nat),k<=cN (S+B)/\i=U k/\e9 (y9 wr (w1+1) (FB a1 n1 c1) (FZ (ON S B G) k))/\e9 (wr.heap[w1.heap.size]?=some (SH #[U ((S:Int)+(B:Int)),FB a1 n1 c1] 31 (0,0)))/\e9 (D4 w1 wr)) (λi _=>cN (S+B)-(intOf i).toNat)
 case atStart =>
  exact Zb
 obtain⟨k,a1,n1,p1,hk,rfl,HO1,H,C7⟩:=hrel;have K:=IO H.o;have c0:wr.cell? (IM w 0)=some (U S):=(A6.trans C7).o9 j9;have c1':wr.cell? (IM w 1)=some (U B):=(A6.trans C7).o9 j9;have c2':wr.cell? (IM w 2)=some (FB a n cap):=(A6.trans C7).o9 j9;have hwr:w.heap.size<wr.heap.size:=O;by_cases hlt:k<cN (S+B)
 ·have HIr:=I ((Oo.ext C7).ext (D4.alloc _ (SH #[] 3)));have HF:e9 ((cg S B G k S []).2=ON S B G k):=I (rfl)
  go_wp2_with (first
   | (go_at_call 246;refine PP (ES HM.o (show k<32 by omega) S 0 0 rfl O _ a n cap _ 0 0 [] HIr.o (y9.made' wr 0 _ rfl O).ints j9) λw4 v4 Jd E4=>?_;rw[HF.o];have Z:=I ((D4.alloc wr (SH #[] 3)).trans E4);have Gh:=I (HO1.ext Z);have Hc:=I ((Z.block _ K).trans H);have MU:=aL Hc.o;have Vq:=IO Hc.o)
   | (at_builtin;refine bK rfl _ _ rfl (w1+1) (FB a1 n1 p1) _ rfl (Gh.ext ZL) _ 1 _ [ON S B G k] rfl (d6.one' _ _ _ _ rfl) (by rw[jq];omega) t8 ?_;intro v3 w5 Gw NN Nw;obtain⟨a3,n3,c3,rfl,NB⟩:=Gw.var;have C8:=I Gw;have C5:=I (aj ((C7.trans Z).trans ZL) NN (λj hj=>by have:=(Gh.lt j hj).1;omega));have F1:=I ((NN.block _ t8 (λe=>by have:=(Gh.lt _ e.symm).1;omega)).trans (((D4.alloc w4 _).block _ Vq).trans Hc));have cg3:=aL F1.o;have fg3:=fy w5 w1 1 _ _ F1.o))
  go_roundw
  case rel =>
   exact P1
  exact k9
 have E':k=cN (S+B):=O;subst E';have Oh:=bI H.o;have MU:=aL H.o;have r0:wr.cell? (IM (w+1) 0)=some (U 0):=(A6.trans C7).o9 j9;have r1:wr.cell? (IM (w+1) 1)=some d9:=(A6.trans C7).o9 j9;have f0:wr.frozen? (IM (w+1) 0)=false:=((A6.trans C7).Fl _ _ j9).trans j9;have f1:wr.frozen? (IM (w+1) 1)=false:=((A6.trans C7).Fl _ _ j9).trans j9;go_wp2;have hp:P7 (S:Int) (B:Int) G=S+B:=by unfold P7;rw[Hb.o,i7 rfl];omega
 have hl:OM (S:Int) (B:Int) G=FZ (ON S B G) (cN (S+B)):=by
  exact PO
 rw[hp,hl];refine GE (by simp[results,results164,go_sem,r0,r1]<;>rfl) rfl ⟨⟨FB a1 n1 p1,by simp,?_⟩,?_⟩
 ·exact Su
 exact nC
def Ki(s:Nat)(k:Nat):Nat:=(List.range k).countP λj=>M2 (s:Int) j
theorem vR(s k:Nat):Ki s (k+1)=Ki s k+if M2 (s:Int) k then 1 else 0:=by
 unfold Ki;rw[mr,List.countP_append];simp[List.countP_cons]
theorem uy(s k:Nat):Ki s k<=k:=by unfold Ki;exact bR Pz j9
def Mb(h:σ:=by
 obtain⟨k,hk,rfl,rfl⟩:=hrel;have hple:=qq0 s k;by_cases hlt:k<5
 ·have HP:=I (qq1 (s:Int) (k:Int) w O);have HB:=I (dG (s:Int) k O O);have HS:=I (qq2 s k);cases hb:M2 (s:Int) k
  all_goals
   rw[HB.o,hb]at HP;rw[hb]at HS;clear hb;go_wp2_with rfl;refine HP.mono ?_;rintro e w' ⟨rfl,rfl⟩;go_wp2
   go_round
   case rel=>exact⟨k+1,by omega,by go_num,by rw[HS.o];go_num⟩
   simp[intOf];omega
 ·have OE:k=5:=by omega
  subst OE;go_wp2;go_ret;exact⟨rfl,rfl⟩
 ):σ:=h
def VB(h:σ:=by
 exact⟨0,by omega,rfl,rfl⟩
 ):σ:=h
theorem EN(s:Nat)(hs:s<4294967296)(w:J):Calls prog 174 #[.int .i64 (s:Int)] w λe w'=>e=atn (.int .i64 (Ki s 5:Int))/\w=w':=by
 go_in
 go_wp2
 go_loop [3,4] (λnn H=>∃k:Nat,k<=5/\H=.int .i64 (k:Int)/\nn=.int .i64 (Ki s k:Int)) (λ_ H=>5-(intOf H).toNat)
 ·exact⟨0,by omega,rfl,rfl⟩
 obtain⟨k,hk,rfl,rfl⟩:=hrel;have hple:=uy s k;by_cases hlt:k<5
 ·refine Fn (bE (s:Int) (k:Int) w O) (dG (s:Int) k O O) (vR s k) λZ HB K=>?_;cases hb:M2 (s:Int) k
  all_goals
   rw[HB.o,hb]at Z;rw[hb]at K;clear hb;go_wp2_with rfl;refine cR Z ?_;go_wp2
   go_round
   case rel=>exact⟨k+1,by omega,by go_num,by rw[K.o];go_num⟩
   simp[intOf];omega
 have OE:k=5:=O;subst OE;go_wp2;go_ret;exact⟨rfl,rfl⟩
theorem vk(s:Nat)(hs:s<4294967296)(w:J):Calls prog 156 #[.int .i64 (s:Int)] w λe w'=>e=atn (.int .i64 (Ki s 5:Int))/\w=w':=by
 go_in
 go_wp2
 go_loop [3,5] (λnn H=>∃k:Nat,k<=5/\H=.int .i64 (k:Int)/\nn=.int .i64 (Ki s k:Int)) (λ_ H=>5-(intOf H).toNat)
 ·exact⟨0,by omega,rfl,rfl⟩
 obtain⟨k,hk,rfl,rfl⟩:=hrel;have hple:=uy s k;by_cases hlt:k<5
 ·refine Fn (il (s:Int) (k:Int) w O) (dG (s:Int) k O O) (vR s k) λZ HB K=>?_;cases hb:M2 (s:Int) k
  all_goals
   rw[HB.o,hb]at Z;rw[hb]at K;clear hb;go_wp2_with rfl;refine cR Z ?_;go_wp2
   go_round
   case rel=>exact⟨k+1,by omega,by go_num,by rw[K.o];go_num⟩
   simp[intOf];omega
 have OE:k=5:=O;subst OE;go_wp2;go_ret;exact⟨rfl,rfl⟩
theorem d6.oneE(w:J)(x:Int)(t:TypeId)(n:Nat)(H:n=w.heap.size):d6 (w.alloc (SH #[U x] t)) (some (IM n 0)) 1 1 [x]:=by subst H;exact d6.one _ _ _
theorem Js{w':J}{g:Nat}{o:Obj}(hx:D4 w w')(h:w.heap[g]?=some o):w'.heap[g]?=some o:=(hx.block _ (IO h)).trans h
def kC(l:o7)(s:Nat):Int:=l[Ki s 5]?.getD 0
theorem tJ{m cap:Nat}{l:o7}(h:d6 w a m cap l)(hn:n<=5)(hm:∀s,s<cN n->Ki s 5<m):
 Calls prog 163 #[U n,FB a m cap] w λe w'=>(∃v,e=atn (.agg #[U n,v])/\y9 w' w v (FZ (kC l) (cN n)))/\D4 w w':=by
 have⟨W,hW⟩:=j7 ((w.alloc (SH #[U 0,d9] 31)).alloc (SH #[U n,d9] 31));have Oa:W.heap.size=w.heap.size+2:=by rw[hW];simp
 refine Op (show D4 w W by rw[hW];exact ZL.trans ZL) (show W.heap[w.heap.size+1]?=some (SH #[U n,d9] 31 (0,0))by rw[hW];exact LE j9) (show W.heap[w.heap.size]?=some (SH #[U 0,d9] 31 (0,0))by rw[hW,wZ j9];exact LE rfl) h λB4 Gj E6 HI=>?_;have⟨y7,y8⟩:=h.ath;have HM:=I hm;have Qh:=I (λw'=>dp (n:Int) w');rw[dT n hn]at Qh;have hcN:=bp n hn;have⟨N,hN⟩:=j7 (cN n);rw[<-hN]at Qh hcN HM;rw[<-hN];clear hN;go_in
 go_upto_region 2 with rfl;rw[<-hW];clear hW;go_wp2
 go_loopg [6] N (λgk ss wr=>∃(k:Nat) (a1:o6) (n1 c1:Nat),e9 (gk+k=N)/\ss=U k/\e9 (wr.heap[w.heap.size+1]?=some (SH #[U n,FB a1 n1 c1] 31 (0,0)))/\e9 (wr.heap[w.heap.size]?=some (SH #[U 0,d9] 31 (0,0)))/\e9 (y9 wr (w+2) (FB a1 n1 c1) (FZ (kC l) k))/\e9 (D4 w wr)/\e9 (w.heap.size+2<=wr.heap.size))
 ·exact⟨0,_,_,_,I O,rfl,Gj,E6,I y4,B4,I O⟩
 rename Nat=>g1;rename J=>wr;obtain⟨k,a1,n1,c1,HK,rfl,HG,HR,HO,HX,HZ⟩:=hrel;have hz:=HZ.o;have c0:=bI HG.o;have c1':=aL HG.o;go_wp2_with rfl;refine(Qh _).mono ?_;rintro e w1 ⟨rfl,rfl⟩;by_cases hlt:k<N
 ·have hpm:=HM.o k hlt;obtain⟨b,off,rfl,hc⟩:=(HI.ext HX).at hpm;have⟨pk,hpk⟩:=j7 (Ki k 5);have HS:=I (λw'=>EN k O w');have HF:=I (show FZ (kC l) (k+1)=FZ (kC l) k++[l[pk]?.getD 0]by rw[jS,hpk];rfl);simp only[<-hpk]at HS;rw[<-hpk]at hc hpm;have⟨y,hy⟩:=j7 (l[pk]?.getD 0);rw[<-hy]at hc HF;have Lw:=I (jq (kC l) k);have hpi:=SW pk m;have NJ:=aE pk;have HD:e9 (l[pk]?.getD 0=y):=hy.symm;have Vg:=I (λ(w':J) (hx:D4 w w')=>(show w'.cell? (IM b (off+pk))=some (U y)by
   have⟨b',off',he,hc'⟩:=(HI.ext hx).at hpm;obtain⟨rfl,rfl⟩:=er he;clear he;rw[hc',HD.o]))
  have r7:=D4.drew wr;refine Op (HO.ext r7) (Js r7 HG) (Js r7 HR) (HX.trans r7) λSR H HRd Wv=>?_;clear hpk hy;go_wp2_with rfl;refine cj (M:=[10]) (S:=λw'=>w'.cell? (IM (w+1) 1)=some (FB a1 n1 c1)/\w'.cell? (IM b (off+pk))=some (U y)) k8 ?_;have r9:=eN (aL H) (Vg _ Wv);have⟨wd,Z⟩:=j7 wr.drew;have hzd:w.heap.size+2<=wd.heap.size:=by rw[Z];exact hz
  rw[<-Z]at r9 SR H HRd Wv;rw[<-Z];clear Z;refine ly ⟨?_⟩;refine Im 4 λK hK=>?_;go_simp;go_at_call 174;refine(HS _).mono ?_;rintro e w8 ⟨rfl,rfl⟩;go_wp2_with rfl;refine KL (eN (aL H) (Vg _ Wv)) λr9=>?_
  refine lp 5 ?_;refine ll 6 ?_;refine Im 7 λK hK=>?_;go_simp;refine hK.out _ _ (λ_=>eN (aL (Js ZL H)) (Vg _ (Wv.trans ZL))) ?_
  try simp only[Act.put,sA,sB,sC]
  refine Im 8 λK hK=>?_;refine aO _ _ l7 (w+2) (FB a1 n1 c1) _ l7 (SR.ext ZL) _ 1 _ [y] l7 (d6.oneE _ _ _ _ j9) (by rw[Lw.o];omega) t8 ?_;intro v9 w9 ho It r';obtain⟨a9,n9,c9,rfl,Qe⟩:=ho.var;refine Op ho ((It.block (w+1) (IO (Js ZL H)) (λe=>by have:=(SR.lt _ e.symm).1;omega)).trans (Js ZL H)) ((It.block w (IO (Js ZL HRd)) (λe=>by have:=(SR.lt _ e.symm).1;omega)).trans (Js ZL HRd)) (aj (Wv.trans ZL) It (λj hj=>by have:=(SR.lt j hj).1;omega)) λIl Tv HR9 Kq=>?_;have hz9:=It.size;rw[Mc]at hz9;have UY:=fy w9 (w+1) 1 _ _ Tv.o;have c19:=aL Tv.o;refine KL (eN c19 (Vg _ Kq)) λr9=>?_;refine lp 9 ?_;refine Ql 10 ?_;refine cU k8 ?_ _;have⟨wz,TO⟩:=j7 (w9.setCell (IM (w+1) 1) (FB a9 n9 c9));have HG10:=I (show wz.heap[w.heap.size+1]?=some (SH #[U n,FB a9 n9 c9] 31 (0,0))by rw[TO];exact aM w9 _ 1 _ _ _ Tv);have adT:=I (show wz.heap[w.heap.size]?=some (SH #[U 0,d9] 31 (0,0))by rw[TO];exact(If _ _ _ _ Zk).trans HR9)
  have Jx:=I (show y9 wz (w+2) (FB a9 n9 c9) (FZ (kC l) (k+1))by
   rw[TO,HF.o];exact Il.keep λj hj=>If _ _ _ _ (by have:=(Il.lt j hj).1;show j≠w.heap.size+1;omega))
  have RM:=I (show D4 w wz by rw[TO];exact Kq.setCell (p:=(IM (w+1) 1)) (bq _) _);have hz10:w.heap.size+2<=wz.heap.size:=by rw[TO];simp;omega
  rw[<-TO];clear TO;go_wp2_with rfl;refine gy ?_;exact⟨k+1,_,_,_,I (l8 HK.o),by go_num,HG10,adT,Jx,RM,I hz10⟩
 have UP:N=k:=l8 HK.o;subst UP;have r0:=bI HR.o;have r1:=aL HR.o;have rf:=λj=>fy wr w j _ _ HR.o
 have⟨wz,TO⟩:=j7 ((wr.setCell (IM w 0) (U n)).setCell (IM w 1) (FB a1 n1 c1));have Jx:=I (show y9 wz (w+2) (FB a1 n1 c1) (FZ (kC l) N)by
  rw[TO];exact HO.keep λj hj=>(If _ _ _ _ RF).trans (If _ _ _ _ RF))
 have RM:=I (show D4 w wz by rw[TO];exact(HX.setCell (p:=(IM w 0)) (m9 _) _).setCell (p:=(IM w 1)) (m9 _) _);have adT:=I (show wz.heap[w.heap.size]?=some (SH #[U n,FB a1 n1 c1] 31 (0,0))by rw[TO];exact aM _ _ 1 _ _ _ (aM wr _ 0 _ _ _ HR));have z0:=bI adT.o;have z1:=aL adT.o;rw[TO]at z0 z1;go_wp2_with rfl;rw[TO]at Jx RM;refine GE (v:=.agg #[U n,FB a1 n1 c1]) (by simp[results,results163,go_sem,z0,z1]) rfl ⟨⟨_,rfl,Jx.mono O⟩,RM⟩
def OJ(s:Nat):Int:=if 2<=Ki s 5 then 6 else 0
def RG(s:Nat):Int:=10*(Ki s 5:Int)*(Ki s 5:Int)
theorem zM:Rd prog 155:=cE func155 k8 k8
theorem zN:Rd prog 160:=cE func160 k8 k8
def TB(h:σ:=by
 rintro e w' ⟨rfl,rfl⟩;go_wp2;go_ret;exact⟨au HF.symm,So⟩
 ):σ:=h
theorem BU(s:Nat)(hs:s<32)(w:J):f9 155 #[U s] w (U (OJ s)):=by
 have K:=I (vk s O w);have⟨p,H⟩:=j7 (Ki s 5);rw[<-H]at K;by_cases Z:2<=p
 ·have HF:=I (show OJ s=6 by unfold OJ;rw[<-H,i7 Z]);have hi:(2:Int)<=(p:Int):=by omega
  clear H;unfold f9;go_in
  go_wp2_with rfl;refine K.mono ?_;exact TB
 have HF:=I (show OJ s=0 by unfold OJ;rw[<-H,f8 Z]);have hi:¬(2:Int)<=(p:Int):=O;clear H;unfold f9;go_in
 go_wp2_with rfl;refine K.mono ?_;exact TB
theorem BV(s:Nat)(hs:s<32)(w:J):f9 160 #[U s] w (U (RG s)):=by
 have H:=I (λw=>vk s O w);have MG:=uy s 5;have HF:e9 (RG s=10*(Ki s 5:Int)*(Ki s 5:Int)):=I (rfl);generalize Ki s 5=p at H HF MG;have hb:10*(p:Int)*(p:Int)<=250:=by
  have:p*p<=5*5:=yy MG MG;have h2:((p*p:Nat):Int)<=25:=O;rw[Int.mul_assoc,<-VV];omega
 have I7:0<=10*(p:Int)*(p:Int):=by
  rw[Int.mul_assoc,<-VV];omega
 have Jl:=dc (10*(p:Int));have hw2:=dc (10*(p:Int)*(p:Int));unfold f9;go_in
 go_wp2_with rfl;refine cR (H _) ?_;go_wp2_with rfl;refine(H _).mono ?_;exact TB
def Iq(k:Int):Nat:=if k=1 then 3 else if k=2 then P7 2 2 [[5,8],[3,5]] else if k=3 then kd 200 [100,100,100] else if k=4 then kH 4 [3,2,1,1] else if k=5 then 4 else 0
def Ib(k:Int):o7:=if k=1 then FZ OJ (cN 3) else if k=2 then OM 2 2 [[5,8],[3,5]] else if k=3 then iM 200 [100,100,100] else if k=4 then je 4 [3,2,1,1] else if k=5 then FZ RG (cN 4) else []
theorem Z8:FZ (kC [0,0,6,6]) (cN 3)=FZ OJ (cN 3):=by decide
theorem Z7:FZ (kC [0,10,40,90,160]) (cN 4)=FZ RG (cN 4):=by decide
theorem Z6:∀k:Int,∀x∈Ib k,0<=x/\x<=1000000:=by
 have h1:∀x∈FZ OJ (cN 3),0<=x/\x<=1000000:=by decide
 have h2:∀x∈OM 2 2 [[5,8],[3,5]],0<=x/\x<=1000000:=by decide
 have Z:∀x∈iM 200 [100,100,100],0<=x/\x<=1000000:=λx hx=>by
  have h:(iM 200 [100,100,100]).all (λx=>decide (0<=x/\x<=1000000))=true:=by kernel_rfl
  simpa using fp.1 h x hx
 have K:∀x∈je 4 [3,2,1,1],0<=x/\x<=1000000:=λx hx=>by
  have h:(je 4 [3,2,1,1]).all (λx=>decide (0<=x/\x<=1000000))=true:=by kernel_rfl
  simpa using fp.1 h x hx
 have H:∀x∈FZ RG (cN 4),0<=x/\x<=1000000:=by decide
 intro k;unfold Ib;split
 ·exact h1
 split
 ·exact h2
 split
 ·exact Z
 split
 ·exact K
 split
 ·exact H
 intro x hx;cases hx
theorem JC(k:Int)(j:Nat):-1000000<=(Ib k)[j]?.getD 0/\(Ib k)[j]?.getD 0<=1000000:=by
 by_cases H:j<Lp (Ib k)
 ·rw[In H,NE];have:=Z6 k _ (cP H);omega
 rw[mq O];decide
open Go.Shelf
section
abbrev Mt:=@Lib.join_cons
abbrev RB:=@Lib.join_one
def BB(h:σ:=by first|with_reducible exact r7|with_reducible exact Fu|with_reducible exact r7.trans ZL):σ:=h
def CI(h:σ:=by rw[HL.o];exact hlt):σ:=h
def TF(h:σ:=by simp[results,qq1,go_sem,r0,r1]<;>rfl):σ:=h
def S4(h:σ:=by rw[HL.o];omega):σ:=h
def PE(h:σ:=by simp[results,results85,go_sem,f0,f1]<;>rfl):σ:=h
def xw(h:σ:=by simp[results,results93,go_sem,f0,f1]):σ:=h
def sn(h:σ:=by rw[wZ (by simp;omega),wZ j9];exact LE rfl):σ:=h
def Vb(h:σ:=by have:=A6.size;simp;omega):σ:=h
def Lg(h:σ:=by simp only[A5,H1.o,H2.o];by_cases h:gI x y=1<;>simp[h]):σ:=h
def Tr(h:σ:=by have:=WE.JG.hlen;rw[b7,HL.o]at this;omega):σ:=h
def QZ(h:σ:=by intro e;rw[e]at hl;cases hl):σ:=h
def ss(h:σ:=by have:=SX.o;rw[HJ2.o,ar]at this;exact this):σ:=h
def ZV(h:σ:=by rw[<-HS.o];omega):σ:=h
def K4(h:σ:=by rw[<-HL.o,<-M4.o,e]):σ:=h
variable{w:J}{l:List UInt8}
theorem d6.Sl(w:J)(l:o7)(t:TypeId)(hl:Lp l<=100)(c:Array atY)(hc:c=(l.map (Value.int .i64)).toArray):d6 (w.alloc (SH c t)) (some (IM w 0)) (Lp l) (Lp l) l:=by
 subst hc;refine⟨rfl,m9 _,by omega,λk G=>⟨_,0,rfl,λk G=>?_⟩⟩;rw[UV _ w _ _ _ _ (nE w _)];simp[G]
theorem Zm{t t':TypeId}:dD (((w.alloc (SH #[U 5,U 8] t)).alloc (SH #[U 3,U 5] t)).alloc (SH #[GT w 2 2,GT (w+1) 2 2] t')) (some (IM (w.heap.size+1+1) 0)) 2 2 [[5,8],[3,5]]:=by
 have Z:d6 (w.alloc (SH #[U 5,U 8] t)) (some (IM w 0)) 2 2 [5,8]:=d6.Sl w [5,8] t FS _ rfl;have H:d6 ((w.alloc (SH #[U 5,U 8] t)).alloc (SH #[U 3,U 5] t)) (some (IM (w+1) 0)) 2 2 [3,5]:=by
  have:=d6.Sl (w.alloc (SH #[U 5,U 8] t)) [3,5] t FS _ rfl;rw[Mc]at this;exact this
 refine⟨rfl,m9 _,by omega,λk G=>⟨_,0,rfl,λk G=>?_⟩⟩;have r7:k=0∨k=1:=O;rcases r7 with rfl|rfl
 ·exact⟨_,_,_,by rw[UV _ (w.heap.size+1+1) _ _ _ _ (LE j9)];rfl,(Z.ext ZL).ext ZL⟩
 exact⟨_,_,_,by rw[UV _ (w.heap.size+1+1) _ _ _ _ (LE j9)];rfl,H.ext ZL⟩
def J7(k:Int):Bool:=decide (1<=k/\k<=5)
def Vw(w:J)(base:Nat)(e:Ending)(k:Int):Prop:=∃v,e=atn (.tuple #[.agg #[U (Iq k:Int),v],ato (J7 k)])/\y9 w base v (Ib k)
theorem Vw.of{base:Nat}{k:Int}{a:o6}{n c p:Nat}{ok:Bool}{L:o7}(G:Iq k=p/\Ib k=L/\J7 k=ok)(ho:y9 w base (FB a n c) L):Vw w base (atn (.tuple #[.agg #[U p,FB a n c],ato ok])) k:=by
 obtain⟨rfl,rfl,rfl⟩:=G;exact⟨_,rfl,ho⟩
theorem fw{W:J}{b:Nat}{x:Int}{a:o6}{n c:Nat}{L:o7}{x0 Z:atY}{t:TypeId}(hb:W.heap[b]?=some (SH #[x0,Z] t (0,0)))(h:D4 w W)(G:w.heap.size<=b)(ho:y9 W (b+1) (FB a n c) L):
 ((W.setCell (IM b 0) (U x)).setCell (IM b 1) (FB a n c)).cell? (IM b 0)=some (U x)/\((W.setCell (IM b 0) (U x)).setCell (IM b 1) (FB a n c)).cell? (IM b 1)=some (FB a n c) /\
   D4 w ((W.setCell (IM b 0) (U x)).setCell (IM b 1) (FB a n c))/\y9 ((W.setCell (IM b 0) (U x)).setCell (IM b 1) (FB a n c)) (b+1) (FB a n c) L:=by
 have K:=aM _ _ 1 _ _ (FB a n c) (aM W b 0 _ _ (U x) hb);exact⟨bI K,aL K,(h.setCell (p:=(IM b 0)) G _).setCell (p:=(IM b 1)) G _,ho.keep λj H=>(If _ _ _ _ (by have:=(ho.lt j H).1;show j≠b;omega)).trans (If _ _ _ _ (by have:=(ho.lt j H).1;show j≠b;omega))⟩
def Y9(h:σ:=by
 go_in
 go_upto_region 1 with rfl;rw[<-hW];clear hW;go_wp2_with rfl;refine HM.mono ?_;rintro e w1 ⟨⟨v,rfl,ho⟩,hx⟩;obtain⟨a1,n1,c1,rfl,HN⟩:=ho.var;have JD:=HC.trans hx;have Gv:=Js JD E6.o;have Tf:=HC.size;have Oa:=Fp.o;have IP:=I (fw (x:=(pp:Int)) Gv (B4.trans JD) (m9 _) (ho.mono O));have r0:=bI Gv;have r1:=aL Gv;have rf:=λj=>fy w1 w.heap.size j _ _ Gv
 have⟨f0,f1,fx,fo⟩:=IP.o;have FX:=I fx;have FO:=I (fo.mono (bq _));clear IP fx fo hx JD Gv ho Oa;go_wp2;refine GE PE rfl ⟨Vw.of (p:=pp) HF.o FO.o,FX⟩
 ):σ:=h
theorem DG(k:Int):Calls prog 85 #[U k] w λe w'=>Vw w' w e k/\D4 w w':=by
 have⟨W,hW⟩:=j7 (w.alloc (SH #[U 0,d9] 31));refine Fn (show W.heap.size=w.heap.size+1 by rw[hW];simp) (show D4 w W by rw[hW];exact ZL) (show W.heap[w.heap.size]?=some (SH #[U 0,d9] 31 (0,0))by rw[hW];exact LE rfl) λFp B4 E6=>?_;by_cases h1:k=1
 ·subst h1;have HM:=I (show Calls prog 78 #[U 3,.func (.func 155) #[] #[]] W λe w'=>jv w' W e 3 (FZ OJ (cN 3)) true/\D4 W w' from
   oU (n:=3) O O zM (λs w1 hs hx=>by simpa using BU s (l8 ((bp 3 O).2)) w1) FS FS)
  have HF:e9 (Iq 1=3/\Ib 1=FZ OJ (cN 3)/\J7 1=true):=I ⟨rfl,rfl,rfl⟩;have HC:e9 (D4 W W):=D4.refl W;go_in
  go_upto_region 1 with rfl;rw[<-hW];clear hW;go_wp2_with rfl;refine PP HM λw1 v ho hx=>?_;obtain⟨a1,n1,c1,rfl,HN⟩:=ho.var;have JD:=HC.trans hx;have Gv:=Js JD E6.o;have Tf:=HC.size;have Oa:=Fp.o;have IP:=I (fw (x:=3) Gv (B4.trans JD) (m9 _) (ho.mono O));have r0:=bI Gv;have r1:=aL Gv;have rf:=λj=>fy w1 w j _ _ Gv
  have⟨f0,f1,fx,fo⟩:=IP.o;have FX:=I fx;have FO:=I (fo.mono (bq _));go_wp2;refine GE PE rfl ⟨Vw.of (p:=3) HF.o FO.o,FX⟩
 by_cases h2:k=2
 ·subst h2;have HM:=I (qU (x:=2) (y:=2) (Zm (w:=W) (t:=3) (t':=29)));have⟨pp,Pb⟩:=j7 (P7 2 2 [[5,8],[3,5]]);have⟨LL,PU⟩:=j7 (OM 2 2 [[5,8],[3,5]]);have⟨ok,G⟩:=j7 (dC 2 2 [[5,8],[3,5]]);rw[<-Pb,<-PU,<-G]at HM;have HF:e9 (Iq 2=pp/\Ib 2=LL/\J7 2=ok):=I ⟨Pb.symm,PU.symm,by rw[G];kernel_rfl⟩;clear Pb PU G;have HC:e9 (D4 W (((W.alloc (SH #[U 5,U 8] 3)).alloc (SH #[U 3,U 5] 3)).alloc (SH #[GT W 2 2,GT (W+1) 2 2] 29))):=((((((D4.refl W).trans ZL)).trans ZL)).trans ZL);exact Y9
 by_cases h3:k=3
 ·subst h3;have HM:=I (qV (q:=200) (show d6 (W.alloc (SH #[U 100,U 100,U 100] 3)) (some (IM W 0)) 3 3 [100,100,100]from d6.Sl W [100,100,100] 3 FS _ rfl));have⟨pp,Pb⟩:=j7 (kd 200 [100,100,100]);have⟨LL,PU⟩:=j7 (iM 200 [100,100,100]);have⟨ok,G⟩:=j7 (aW 0 200 [100,100,100]);rw[<-Pb,<-PU,<-G]at HM;have HF:e9 (Iq 3=pp/\Ib 3=LL/\J7 3=ok):=I ⟨Pb.symm,PU.symm,by rw[G];kernel_rfl⟩;clear Pb PU G;have HC:e9 (D4 W (W.alloc (SH #[U 100,U 100,U 100] 3))):=((D4.refl W).trans ZL);exact Y9
 by_cases Z:k=4
 ·subst Z;have HM:=I (xN (q:=4) (show d6 (W.alloc (SH #[U 3,U 2,U 1,U 1] 3)) (some (IM W 0)) 4 4 [3,2,1,1]from d6.Sl W [3,2,1,1] 3 FS _ rfl));have⟨pp,Pb⟩:=j7 (kH 4 [3,2,1,1]);have⟨LL,PU⟩:=j7 (je 4 [3,2,1,1]);have⟨ok,G⟩:=j7 (aW 1 4 [3,2,1,1]);rw[<-Pb,<-PU,<-G]at HM;have HF:e9 (Iq 4=pp/\Ib 4=LL/\J7 4=ok):=I ⟨Pb.symm,PU.symm,by rw[G];kernel_rfl⟩;clear Pb PU G;have HC:e9 (D4 W (W.alloc (SH #[U 3,U 2,U 1,U 1] 3))):=((D4.refl W).trans ZL);exact Y9
 by_cases H:k=5
 ·subst H;have HM:=I (show Calls prog 78 #[U 4,.func (.func 160) #[] #[]] W λe w'=>jv w' W e 4 (FZ RG (cN 4)) true/\D4 W w' from
   oU (n:=4) O O zN (λs w1 hs hx=>by simpa using BV s (l8 ((bp 4 O).2)) w1) FS FS)
  have HF:e9 (Iq 5=4/\Ib 5=FZ RG (cN 4)/\J7 5=true):=I ⟨rfl,rfl,rfl⟩;have HC:e9 (D4 W W):=D4.refl W;go_in
  go_upto_region 1 with rfl;rw[<-hW];clear hW;go_wp2_with rfl;refine PP HM λw1 v ho hx=>?_;obtain⟨a1,n1,c1,rfl,HN⟩:=ho.var;have JD:=HC.trans hx;have Gv:=Js JD E6.o;have Tf:=HC.size;have Oa:=Fp.o;have IP:=I (fw (x:=4) Gv (B4.trans JD) (m9 _) (ho.mono O));have r0:=bI Gv;have r1:=aL Gv;have rf:=λj=>fy w1 w j _ _ Gv
  have⟨f0,f1,fx,fo⟩:=IP.o;have FX:=I fx;have FO:=I (fo.mono (bq _));go_wp2;refine GE PE rfl ⟨Vw.of (p:=4) HF.o FO.o,FX⟩
 have e1:(k == 1)=false:=by simpa using h1
 have e2:(k == 2)=false:=by simpa using h2
 have e3:(k == 3)=false:=by simpa using h3
 have e4:(k == 4)=false:=by simpa using Z
 have e5:(k == 5)=false:=by simpa using H
 have HF:=I (show Iq k=0/\Ib k=[]/\J7 k=false by refine⟨?_,?_,RK O⟩<;>(first|unfold Iq|unfold Ib)<;>simp[h1,h2,h3,Z,H]);have r0:=bI E6.o;have r1:=aL E6.o;have rf:=λj=>fy W w j _ _ E6.o
 have⟨f0,f1,fx,fo⟩:=fw (x:=0) (a:=none) (n:=0) (c:=0) (L:=[]) E6.o B4.o (m9 _) y4;have FX:=I fx;have FO:=I (fo.mono (bq _));go_in
 go_upto_region 1 with rfl;rw[<-hW];clear hW;go_wp2;refine GE PE rfl ⟨Vw.of (p:=0) HF.o FO.o,FX⟩
def U6(h:σ:=by
 go_in
 go_upto_region 2 with rfl;rw[<-hW];clear hW;go_wp2_with rfl;refine HM.mono ?_;rintro e w1 ⟨⟨v,rfl,ho⟩,hx⟩;obtain⟨a1,n1,c1,rfl,HN⟩:=ho.var;have JD:=HC.trans hx;have Gv:=Js JD E6.o;have JC:=Js JD Gj.o;have Tf:=HC.size;have Oa:=Fp.o;have r0:=bI Gv;have r1:=aL Gv;have rf:=λj=>fy w1 w.heap.size j _ _ Gv
 have g0:=bI JC;have g1:=aL JC;have gf:=λj=>fy w1 (w.heap.size+1) j _ _ JC
 have Qg:=I (fw (x:=(pp:Int)) JC (B4.trans JD) (bq _) (ho.mono O));have IP:=I (fw (x:=(pp:Int)) (W:=(w1.setCell (IM (w.heap.size+1) 0) (U pp)).setCell (IM (w.heap.size+1) 1) (FB a1 n1 c1)) (b:=w.heap.size) ((If _ _ _ _ Zk).trans ((If _ _ _ _ Zk).trans Gv)) Qg.2.2.1 (m9 _) (Qg.2.2.2.mono (bq _)));have⟨f0,f1,fx,fo⟩:=IP.o;have FX:=I fx;have FO:=I (fo.mono (bq _));clear IP Qg fx fo hx JD Gv JC ho Oa;go_wp2;refine GE (v:=.agg #[U pp,FB a1 n1 c1]) xw rfl ⟨⟨_,by rw[HF.1],by rw[HF.2.1];exact FO⟩,FX⟩
 ):σ:=h
theorem vX(k:Int):Calls prog 93 #[U k] w λe w'=>(∃v,e=atn (.agg #[U (Iq k:Int),v])/\y9 w' w v (Ib k))/\D4 w w':=by
 have⟨W,hW⟩:=j7 ((w.alloc (SH #[U 0,d9] 31)).alloc (SH #[U 0,d9] 31));refine Op (show W.heap.size=w.heap.size+2 by rw[hW];simp) (show D4 w W by rw[hW];exact ZL.trans ZL) (show W.heap[w.heap.size]?=some (SH #[U 0,d9] 31 (0,0))by rw[hW,wZ j9];exact LE rfl) (show W.heap[w.heap.size+1]?=some (SH #[U 0,d9] 31 (0,0))by rw[hW];exact LE j9) λFp B4 E6 Gj=>?_;by_cases h1:k=1
 ·subst h1;have HM:=I (show Calls prog 163 #[U 3,GT W 4 4] (W.alloc (SH #[U 0,U 0,U 6,U 6] 3)) λe w'=>(∃v,e=atn (.agg #[U 3,v])/\y9 w' (W.alloc (SH #[U 0,U 0,U 6,U 6] 3)).heap.size v (FZ OJ (cN 3)))/\D4 (W.alloc (SH #[U 0,U 0,U 6,U 6] 3)) w' from by
   have h:=tJ (n:=3) (show d6 (W.alloc (SH #[U 0,U 0,U 6,U 6] 3)) (some (IM W 0)) 4 4 [0,0,6,6]from d6.Sl W [0,0,6,6] 3 FS _ rfl) O FS;rw[Z8]at h;exact h)
  have HF:e9 (Iq 1=3/\Ib 1=FZ OJ (cN 3)/\J7 1=true):=I ⟨rfl,rfl,rfl⟩;have HC:e9 (D4 W (W.alloc (SH #[U 0,U 0,U 6,U 6] 3))):=((D4.refl W).trans ZL);go_in
  go_upto_region 2 with rfl;rw[<-hW];clear hW;go_wp2_with rfl;refine PP HM λw1 v ho hx=>?_;obtain⟨a1,n1,c1,rfl,HN⟩:=ho.var;have JD:=HC.trans hx;have Gv:=Js JD E6.o;have JC:=Js JD Gj.o;have Tf:=HC.size;have Oa:=Fp.o;have r0:=bI Gv;have r1:=aL Gv;have rf:=λj=>fy w1 w j _ _ Gv
  have g0:=bI JC;have g1:=aL JC;have gf:=λj=>fy w1 (w+1) j _ _ JC
  have Qg:=I (fw (x:=3) JC (B4.trans JD) (bq _) (ho.mono O));have IP:=I (fw (x:=3) (W:=(w1.setCell (IM (w+1) 0) (U 3)).setCell (IM (w+1) 1) (FB a1 n1 c1)) (b:=w.heap.size) ((If _ _ _ _ Zk).trans ((If _ _ _ _ Zk).trans Gv)) Qg.2.2.1 (m9 _) (Qg.2.2.2.mono (bq _)));have⟨f0,f1,fx,fo⟩:=IP.o;have FX:=I fx;have FO:=I (fo.mono (bq _));go_wp2;refine GE (v:=.agg #[U 3,FB a1 n1 c1]) xw rfl ⟨⟨_,by rw[HF.1];rfl,by rw[HF.2.1];exact FO⟩,FX⟩
 by_cases h2:k=2
 ·subst h2;have HM:=I (rF (x:=2) (y:=2) (Zm (w:=W) (t:=3) (t':=29)));have⟨pp,Pb⟩:=j7 (P7 2 2 [[5,8],[3,5]]);have⟨LL,PU⟩:=j7 (OM 2 2 [[5,8],[3,5]]);have⟨ok,G⟩:=j7 (dC 2 2 [[5,8],[3,5]]);rw[<-Pb,<-PU,<-G]at HM;have HF:e9 (Iq 2=pp/\Ib 2=LL/\J7 2=ok):=I ⟨Pb.symm,PU.symm,by rw[G];kernel_rfl⟩;clear Pb PU G;have HC:e9 (D4 W (((W.alloc (SH #[U 5,U 8] 3)).alloc (SH #[U 3,U 5] 3)).alloc (SH #[GT W 2 2,GT (W+1) 2 2] 29))):=((((((D4.refl W).trans ZL)).trans ZL)).trans ZL);exact U6
 by_cases h3:k=3
 ·subst h3;have HM:=I (rG (q:=200) (show d6 (W.alloc (SH #[U 100,U 100,U 100] 3)) (some (IM W 0)) 3 3 [100,100,100]from d6.Sl W [100,100,100] 3 FS _ rfl));have⟨pp,Pb⟩:=j7 (kd 200 [100,100,100]);have⟨LL,PU⟩:=j7 (iM 200 [100,100,100]);have⟨ok,G⟩:=j7 (aW 0 200 [100,100,100]);rw[<-Pb,<-PU,<-G]at HM;have HF:e9 (Iq 3=pp/\Ib 3=LL/\J7 3=ok):=I ⟨Pb.symm,PU.symm,by rw[G];kernel_rfl⟩;clear Pb PU G;have HC:e9 (D4 W (W.alloc (SH #[U 100,U 100,U 100] 3))):=((D4.refl W).trans ZL);exact U6
 by_cases Z:k=4
 ·subst Z;have HM:=I (yU (q:=4) (show d6 (W.alloc (SH #[U 3,U 2,U 1,U 1] 3)) (some (IM W 0)) 4 4 [3,2,1,1]from d6.Sl W [3,2,1,1] 3 FS _ rfl));have⟨pp,Pb⟩:=j7 (kH 4 [3,2,1,1]);have⟨LL,PU⟩:=j7 (je 4 [3,2,1,1]);have⟨ok,G⟩:=j7 (aW 1 4 [3,2,1,1]);rw[<-Pb,<-PU,<-G]at HM;have HF:e9 (Iq 4=pp/\Ib 4=LL/\J7 4=ok):=I ⟨Pb.symm,PU.symm,by rw[G];kernel_rfl⟩;clear Pb PU G;have HC:e9 (D4 W (W.alloc (SH #[U 3,U 2,U 1,U 1] 3))):=((D4.refl W).trans ZL);exact U6
 by_cases H:k=5
 ·subst H;have HM:=I (show Calls prog 163 #[U 4,GT W 5 5] (W.alloc (SH #[U 0,U 10,U 40,U 90,U 160] 3)) λe w'=>(∃v,e=atn (.agg #[U 4,v])/\y9 w' (W.alloc (SH #[U 0,U 10,U 40,U 90,U 160] 3)).heap.size v (FZ RG (cN 4)))/\D4 (W.alloc (SH #[U 0,U 10,U 40,U 90,U 160] 3)) w' from by
   have h:=tJ (n:=4) (show d6 (W.alloc (SH #[U 0,U 10,U 40,U 90,U 160] 3)) (some (IM W 0)) 5 5 [0,10,40,90,160]from d6.Sl W [0,10,40,90,160] 3 FS _ rfl) O FS;rw[Z7]at h;exact h)
  have HF:e9 (Iq 5=4/\Ib 5=FZ RG (cN 4)/\J7 5=true):=I ⟨rfl,rfl,rfl⟩;have HC:e9 (D4 W (W.alloc (SH #[U 0,U 10,U 40,U 90,U 160] 3))):=((D4.refl W).trans ZL);go_in
  go_upto_region 2 with rfl;rw[<-hW];clear hW;go_wp2_with rfl;refine PP HM λw1 v ho hx=>?_;obtain⟨a1,n1,c1,rfl,HN⟩:=ho.var;have JD:=HC.trans hx;have Gv:=Js JD E6.o;have JC:=Js JD Gj.o;have Tf:=HC.size;have Oa:=Fp.o;have r0:=bI Gv;have r1:=aL Gv;have rf:=λj=>fy w1 w j _ _ Gv
  have g0:=bI JC;have g1:=aL JC;have gf:=λj=>fy w1 (w+1) j _ _ JC
  have Qg:=I (fw (x:=4) JC (B4.trans JD) (bq _) (ho.mono O));have IP:=I (fw (x:=4) (W:=(w1.setCell (IM (w+1) 0) (U 4)).setCell (IM (w+1) 1) (FB a1 n1 c1)) (b:=w.heap.size) ((If _ _ _ _ Zk).trans ((If _ _ _ _ Zk).trans Gv)) Qg.2.2.1 (m9 _) (Qg.2.2.2.mono (bq _)));have⟨f0,f1,fx,fo⟩:=IP.o;have FX:=I fx;have FO:=I (fo.mono (bq _));go_wp2;refine GE (v:=.agg #[U 4,FB a1 n1 c1]) xw rfl ⟨⟨_,by rw[HF.1];rfl,by rw[HF.2.1];exact FO⟩,FX⟩
 have e1:(k == 1)=false:=by simpa using h1
 have e2:(k == 2)=false:=by simpa using h2
 have e3:(k == 3)=false:=by simpa using h3
 have e4:(k == 4)=false:=by simpa using Z
 have e5:(k == 5)=false:=by simpa using H
 have HF:=I (show Iq k=0/\Ib k=[]/\J7 k=false by refine⟨?_,?_,RK O⟩<;>(first|unfold Iq|unfold Ib)<;>simp[h1,h2,h3,Z,H]);have r0:=bI E6.o;have r1:=aL E6.o;have rf:=λj=>fy W w j _ _ E6.o
 have g0:=bI Gj.o;have g1:=aL Gj.o;have⟨f0,f1,fx,fo⟩:=fw (x:=0) (a:=none) (n:=0) (c:=0) (L:=[]) E6.o B4.o (m9 _) y4;have FX:=I fx;have FO:=I (fo.mono (bq _));go_in
 go_upto_region 2 with rfl;rw[<-hW];clear hW;go_wp2;refine GE (v:=.agg #[U 0,d9]) xw rfl ⟨⟨_,by rw[HF.1];rfl,by rw[HF.2.1];exact FO⟩,FX⟩
def S0(k:Int):List UInt8:=eh (Iq k) (Ib k)
theorem Ao:∀k:Fin 6,1<=k.val->ak (Iq (k.val:Int):Int) (Ib (k.val:Int))=true:=by
 intro k
 match k with
 | 0=>intro h;exact absurd h FS
 | 1=>intro _;kernel_rfl
 | 2=>intro _;kernel_rfl
 | 3=>intro _;kernel_rfl
 | 4=>intro _;kernel_rfl
 | 5=>intro _;kernel_rfl
theorem xm(k:Int):(S0 k=[])↔J7 k=false:=by
 unfold S0 eh;by_cases h:1<=k/\k<=5
 ·obtain⟨q,rfl⟩:∃q:Nat,k=q:=⟨k.toNat,by omega⟩;rw[i7 (Ao ⟨q,by omega⟩ t8),show J7 (q:Int)=true from bl h];unfold fz;simp
 have G:Iq k=0:=by unfold Iq;rw[f8 O,f8 O,f8 O,f8 O,f8 O]
 rw[G,show J7 k=false from RK h,f8]
 ·simp
 intro hg;obtain⟨q,hq,h1,_⟩:=ap hg;omega
def Ni(h:σ:=by
 have X3:=I (X2.trans hx);clear hx;go_wp2;go_ret;exact⟨rfl,X3⟩
 ):σ:=h
theorem wN(k:Int):f9 92 #[U k] w (atr (bs (S0 k))):=by
 refine Fn (vX (w:=w) k) (show S0 k=eh (Iq k) (Ib k)from rfl) (JC k) λHA K Z=>?_;have⟨T,G⟩:=j7 (S0 k);rw[<-G]at K;rw[<-G];clear G;unfold f9;go_in
 go_wp2_with rfl;refine PP HA λw1 v ho hx=>?_;obtain⟨a1,n1,p1,rfl,HN1⟩:=ho.var;have H:=I (ph (p:=Iq k) ho.ints Z);rw[<-K.o]at H;have X2:=I hx;go_wp2_with rfl;refine i6 H λw3 hx=>?_;exact Ni
theorem sT{α:Type}{l:List α}(h:l≠[]):0<Lp l:=List.length_pos_iff.2 h
def dj(c:UInt8):Bool:=decide (48<=c.toNat/\c.toNat<=57)
def FY(l:List UInt8):Nat:=l.foldl (λn c=>10*n+(c.toNat-48)) 0
theorem jX(l:List UInt8)(c:UInt8):FY (l++[c])=10*FY l+(c.toNat-48):=by unfold FY;rw[VP];rfl
theorem uN:∀l:List UInt8,l.all dj=true->FY l<10^Lp l:=by
 intro l
 induction hl:Lp l generalizing l with
 | zero=>intro _;obtain rfl:=Md hl;decide
 | succ n ih =>
   intro h;obtain⟨m,c,rfl⟩:∃m c,l=m++[c]:=⟨l.dropLast,l.getLast QZ,(SY _).symm⟩;rw[ar]at hl;rw[p7,cM]at h;have h1:=ih m o' h.1;have G:dj c=true:=by simpa using h.2
   unfold dj at G;have G:=nR G;rw[jX,Nat.pow_succ];omega
theorem Rw{c:UInt8}(h:dj c=true):UInt8.ofNat (48+(c.toNat-48))=c:=by
 unfold dj at h;have h:=nR h;rw[show 48+(c.toNat-48)=c.toNat by omega];exact UInt8.ofNat_toNat
def sh(l:List UInt8):Prop:=Lp l=1∨l[0]?≠some 48
theorem WQ:∀{l:List UInt8},l.all dj=true->l≠[]->l[0]?≠some 48->1<=FY l:=by
 intro l
 induction hl:Lp l generalizing l with
 | zero=>intro _ h _;exact absurd (Md hl) h
 | succ n ih =>
   intro h _ H;obtain⟨m,c,rfl⟩:∃m c,l=m++[c]:=⟨l.dropLast,l.getLast QZ,(SY _).symm⟩;rw[ar]at hl;rw[p7,cM]at h;rw[jX];by_cases hm:m=[]
   ·subst hm;have G:dj c=true:=by simpa using h.2
    unfold dj at G;have G:=nR G;have:c.toNat≠48:=λe=>H (by
     have:c=48:=Zi.1 (by rw[e];rfl)
     rw[this];rfl)
    omega
   have:=ih (l:=m) o' h.1 hm (by
    rw[nP (sT hm)]at H;exact H)
   omega
theorem tZ:∀{l:List UInt8},l.all dj=true->l≠[]->sh l->Lib.decDigits (FY l)=l:=by
 intro l
 induction hl:Lp l generalizing l with
 | zero=>intro _ h _;exact absurd (Md hl) h
 | succ n ih =>
   intro h _ hc;obtain⟨m,c,rfl⟩:∃m c,l=m++[c]:=⟨l.dropLast,l.getLast QZ,(SY _).symm⟩;rw[ar]at hl;rw[p7,cM]at h;have H:dj c=true:=by simpa using h.2
   have hb:=Rw H;unfold dj at H;have H:=nR H;rw[jX];by_cases hm:m=[]
   ·subst hm;rw[show FY []=0 from rfl,Lib.decDigits,dif_pos O];rw[show 48+(10*0+(c.toNat-48))=48+(c.toNat-48)by omega,hb];rfl
   have K:m[0]?≠some 48:=by
    rcases hc with G|G
    ·rw[ar,bA]at G;have:=sT hm;omega
    rw[nP (sT hm)]at G;exact G
   have hp:=WQ h.1 hm K;rw[Lib.decDigits,dif_neg O,show(10*FY m+(c.toNat-48))/10=FY m by omega,show 48+(10*FY m+(c.toNat-48)) % 10=48+(c.toNat-48)by omega,hb,ih (l:=m) o' h.1 hm (Rf K)]
theorem jL:∀n:Nat,sh (Lib.decDigits n)/\Lib.decDigits n≠[]
 | n=>by
   by_cases h:n<10
   ·rw[Lib.decDigits,dif_pos h];exact⟨uf rfl,by simp⟩
   rw[Lib.decDigits,dif_neg h];have G:=jL (n/10);have J4:=sT G.2;refine⟨Rf ?_,by simp⟩;rw[nP J4]
   rcases G.1 with h1|h1
   ·-- one digit: not a zero
    by_cases h2:n/10<10
    ·rw[Lib.decDigits,dif_pos h2];intro e;simp only[Up,Pi]at e;have H:=IR UInt8.toNat e;rw[Sh]at H;have:(48:UInt8).toNat=48:=rfl;omega
    rw[Lib.decDigits,dif_neg h2,ar,bA]at h1;have:=sT (jL (n/10/10)).2;omega
   exact h1
def aH(l:List UInt8)(most:Nat):Int:=if(1<=Lp l/\Lp l<=most)/\(Lp l<=1∨l[0]?≠some 48)/\l.all dj=true then(FY l:Int) else -1
def dm(l:List UInt8):Option Int :=
 if l[0]?=some 45 then(if 1<=aH (l.drop 1) 12 then some (-(aH (l.drop 1) 12)) else none) else if 0<=aH l 12 then some (aH l 12) else none
def ib(l:List UInt8)(most:Nat):Option Int :=
 if(1<=Lp (if l[0]?=some 45 then l.drop 1 else l)/\Lp (if l[0]?=some 45 then l.drop 1 else l)<=most)/\(if l[0]?=some 45 then l.drop 1 else l).all dj=true/\Lib.itoa (if l[0]?=some 45 then -(FY (l.drop 1):Int) else(FY l:Int))=l
 then some (if l[0]?=some 45 then -(FY (l.drop 1):Int) else(FY l:Int)) else none
theorem ZF(h:l[0]?=some 45):l=45::l.drop 1:=by
 cases l with
 | nil=>cases h
 | cons c l=>simp only[Up,Pi]at h;rw[h];rfl
theorem oL(n:Nat):(Lib.decDigits n)[0]?≠some 45:=by
 intro h;have G:∀m:Nat,∀c∈Lib.decDigits m,48<=c.toNat:=by
  intro m
  induction m using Nat.strongRecOn with
  | _ m ih =>
    intro c hc;by_cases h:m<10
    ·rw[Lib.decDigits,dif_pos h,Nu]at hc;rw[hc,Sh];omega
    rw[Lib.decDigits,dif_neg h,Pm,Nu]at hc;rcases hc with hc|hc
    ·exact ih (m/10) O c hc
    rw[hc,Sh];omega
 have:=G n 45 (MV h);exact absurd this FS
def o1(h:σ:=by
 rcases this with h6|h6
 ·exact hc (uf O)
 ·exact hc (Rf h6)
 ):σ:=h
def p6(h:σ:=by
 rw[hl]at h5;have:=oL (-(FY t:Int)).toNat;rw[h5]at this;exact this rfl
 ):σ:=h
theorem EC(l:List UInt8):ib l 12=dm l:=by
 unfold ib dm;by_cases hm:l[0]?=some 45
 ·simp only[i7 hm];have hl:=ZF hm;have⟨t,ht⟩:=j7 (l.drop 1);rw[<-ht]at hl⊢;by_cases K:(1<=Lp t/\Lp t<=12)/\t.all dj=true
  ·obtain⟨⟨G,h2⟩,Z⟩:=K;have H:t≠[]:=λe=>by rw[e]at G;simp at G
   by_cases hc:Lp t<=1∨t[0]?≠some 48
   ·have hr:aH t 12=(FY t:Int):=by unfold aH;rw[i7 ⟨⟨G,h2⟩,hc,Z⟩]
    rw[hr];have ZJ:sh t:=by
     rcases hc with hc|hc
     ·exact uf O
     exact Rf hc
    by_cases h0:1<=FY t
    ·have h6:Lib.itoa (-(FY t:Int))=l:=by
      unfold Lib.itoa;rw[i7 O,Int.natAbs_neg,Int.natAbs_natCast,tZ Z H ZJ,<-hl]
     rw[i7 (show(1:Int)<=(FY t:Int)by omega),i7 ⟨⟨G,h2⟩,Z,h6⟩]
    rw[f8 (show¬(1:Int)<=(FY t:Int)by omega),f8];rintro⟨_,_,h5⟩;unfold Lib.itoa at h5;rw[f8 O]at h5;exact p6
   have hr:aH t 12=-1:=by unfold aH;rw[f8 (λh=>hc h.2.1)]
   rw[hr,f8 (show¬(1:Int)<=-1 by omega),f8];rintro⟨_,_,h5⟩;unfold Lib.itoa at h5;split at h5
   ·rw[Int.natAbs_neg,Int.natAbs_natCast,hl,List.cons.injEq]at h5;have:=(jL (FY t)).1;rw[h5.2]at this;exact o1
   exact p6
  have hr:aH t 12=-1:=by unfold aH;rw[f8 (λh=>K ⟨h.1,h.2.2⟩)]
  rw[hr,f8 (show¬(1:Int)<=-1 by omega),f8 (λh=>K ⟨h.1,h.2.1⟩)]
 simp only[f8 hm];by_cases K:(1<=Lp l/\Lp l<=12)/\l.all dj=true
 ·obtain⟨⟨G,h2⟩,Z⟩:=K;have H:l≠[]:=λe=>by rw[e]at G;simp at G
  have hit:Lib.itoa (FY l:Int)=Lib.decDigits (FY l):=by unfold Lib.itoa;rw[f8 O,eI]
  rw[hit];by_cases hc:Lp l<=1∨l[0]?≠some 48
  ·have hr:aH l 12=(FY l:Int):=by unfold aH;rw[i7 ⟨⟨G,h2⟩,hc,Z⟩]
   have ZJ:sh l:=by
    rcases hc with hc|hc
    ·exact uf O
    exact Rf hc
   rw[hr,i7 (show(0:Int)<=(FY l:Int)by omega),i7 ⟨⟨G,h2⟩,Z,tZ Z H ZJ⟩]
  have hr:aH l 12=-1:=by unfold aH;rw[f8 (λh=>hc h.2.1)]
  rw[hr,f8 (show¬(0:Int)<=-1 by omega),f8];rintro⟨_,_,h5⟩;have:=(jL (FY l)).1;rw[h5]at this;exact o1
 have hr:aH l 12=-1:=by unfold aH;rw[f8 (λh=>K ⟨h.1,h.2.2⟩)]
 rw[hr,f8 (show¬(0:Int)<=-1 by omega),f8 (λh=>K ⟨h.1,h.2.1⟩)]
theorem XL(l:List UInt8):(ib l 6).bind (λn=>if n<0 then none else some n)=if 0<=aH l 6 then some (aH l 6) else none:=by
 unfold ib;by_cases hm:l[0]?=some 45
 ·simp only[i7 hm];have hr:aH l 6=-1:=by
   unfold aH;rw[f8];rintro⟨_,_,G⟩;rw[ZF hm,Zc,cM]at G;exact absurd G.1 FS
  rw[hr,f8 (show¬(0:Int)<=-1 by omega)];split
  ·next h =>
   rw[kx];by_cases h0:-(FY (l.drop 1):Int)<0
   ·rw[i7 h0]
   exfalso;have H:=h.2.2;unfold Lib.itoa at H;rw[f8 h0]at H;have:=oL (-(FY (l.drop 1):Int)).toNat;rw[H]at this;exact this hm
  rfl
 simp only[f8 hm];by_cases hd:(1<=Lp l/\Lp l<=6)/\l.all dj=true
 ·obtain⟨⟨K,h2⟩,G⟩:=hd;have Z:l≠[]:=λe=>by rw[e]at K;simp at K
  have hit:Lib.itoa (FY l:Int)=Lib.decDigits (FY l):=by unfold Lib.itoa;rw[f8 O,eI]
  rw[hit];by_cases hc:Lp l<=1∨l[0]?≠some 48
  ·have hr:aH l 6=(FY l:Int):=by unfold aH;rw[i7 ⟨⟨K,h2⟩,hc,G⟩]
   have ZJ:sh l:=by
    rcases hc with hc|hc
    ·exact uf O
    exact Rf hc
   rw[hr,i7 (show(0:Int)<=(FY l:Int)by omega),i7 ⟨⟨K,h2⟩,G,tZ G Z ZJ⟩,kx,f8 O]
  have hr:aH l 6=-1:=by unfold aH;rw[f8 (λh=>hc h.2.1)]
  rw[hr,f8 (show¬(0:Int)<=-1 by omega),f8]
  ·rfl
  rintro⟨_,_,H⟩;have:=(jL (FY l)).1;rw[H]at this;exact o1
 have hr:aH l 6=-1:=by unfold aH;rw[f8 (λh=>hd ⟨h.1,h.2.2⟩)]
 rw[hr,f8 (show¬(0:Int)<=-1 by omega),f8 (λh=>hd ⟨h.1,h.2.1⟩)];rfl
def GO(c:UInt8)(l:List UInt8):Nat->List (List UInt8)×Nat
 | 0=>([],0)
 | i+1=>if l[i]?.getD 0=c then((GO c l i).1++[(l.take i).drop (GO c l i).2],i+1) else GO c l i
def E0(c:UInt8)(l:List UInt8):List (List UInt8):=(GO c l (Lp l)).1++[l.drop (GO c l (Lp l)).2]
theorem pR(c:UInt8)(l:List UInt8):∀i,(GO c l i).2<=i/\(GO c l i).1.length<=i
 | 0=>⟨m9 _,m9 _⟩
 | i+1=>by
   have ih:=pR c l i;unfold GO
   split
   ·refine⟨m9 _,?_⟩;rw[ar,bA];omega
   omega
theorem iD(c:UInt8)(l:List UInt8):1<=Lp (E0 c l):=by unfold E0;rw[ar,bA];omega
theorem pu{c:UInt8}{l:List UInt8}:∀i,i<=Lp l->(∀k,k<i->l[k]?.getD 0≠c)->GO c l i=([],0)
 | 0,_,_=>rfl
 | i+1,hi,h=>by
   unfold GO;rw[f8 (h i O)];exact pu i O λk hk=>h k O
theorem rQ{c:UInt8}(h:c∉l):E0 c l=[l]:=by
 unfold E0;rw[pu l.length (m9 _) λk G e=>h (by rw[<-e,In G,NE];exact cP G)]
 rfl
theorem zk{c:UInt8}{a b:List UInt8}(h:c∉a):∀j,j<=Lp b->GO c (a++c::b) (Lp a+1+j)=(a::(GO c b j).1,Lp a+1+(GO c b j).2)
 | 0,_=>by
   have K:GO c (a++c::b) (Lp a)=([],0):=pu (Lp a) (by rw[ar];omega) λk G e=>h (by
    rw[nP G,In G,NE]at e
    rw[<-e];exact cP G)
   show GO c (a++c::b) (Lp a+1)=_;unfold GO;rw[i7 (by rw[J1 (m9 _)];simp),K];simp
 | j+1,hj=>by
   have H:=zk (a:=a) (b:=b) h j O;rw[show a.length+1+(j+1)=(a.length+1+j)+1 by omega];unfold GO;have e:(a++c::b)[Lp a+1+j]?.getD 0=b[j]?.getD 0:=by
    rw[J1 O,show a.length+1+j-a.length=j+1 by omega,OX]
   rw[e,H];by_cases hc:b[j]?.getD 0=c
   ·rw[i7 hc,i7 hc];have Z:((a++c::b).take (Lp a+1+j)).drop (Lp a+1+(GO c b j).2)=(b.take j).drop (GO c b j).2:=by
     rw[show a.length+1+j=a.length+(1+j)by omega,List.take_length_add_append,show Lp a+1+(GO c b j).2=Lp a+(1+(GO c b j).2)by omega,NQ,show 1+j=j+1 by omega,List.take_succ_cons,show 1+(GO c b j).2=(GO c b j).2+1 by omega,List.drop_succ_cons]
    simp only;rw[Z,show a.length+1+(j+1)=a.length+1+j+1 by omega];rfl
   rw[f8 hc,f8 hc]
theorem nY{c:UInt8}{a b:List UInt8}(h:c∉a):E0 c (a++c::b)=a::E0 c b:=by
 unfold E0;have G:Lp (a++c::b)=Lp a+1+Lp b:=by rw[ar,mg];omega
 rw[G,zk h b.length (m9 _)];simp only[Px,List.cons.injEq,W2];rw[show a.length+1+(GO c b b.length).2=a.length+((GO c b b.length).2+1)by omega,NQ,List.drop_succ_cons]
theorem iE{c:UInt8}:∀{l:List UInt8},c∈l->∃a b,l=a++c::b/\c∉a
 | [],h=>by cases h
 | x::l,h=>by
   by_cases e:x=c
   ·exact⟨[],l,by rw[e];rfl,by simp⟩
   have H:c∈l:=by
    rcases OI.1 h with h|h
    ·exact absurd h.symm e
    exact h
   have⟨a,b,Z,K⟩:=iE H;refine⟨x::a,b,by rw[Z];rfl,λG=>?_⟩
   rcases OI.1 G with G|G
   ·exact e G.symm
   exact K G
def K5:List UInt8:=[112,108,97,121,101,114,115]
theorem zK{m:Nat}(h:0<=aH l m):(32:UInt8)∉l:=λhm=>by
 unfold aH at h
 split at h
 ·next g=>exact absurd (fp.1 g.2.2 32 hm) FS
 omega
end
section
variable{s n k base' base bytes:Nat}{α:Type}{w w':J}{a:o6}{v:atY}{d:Int}
def KB(t:List UInt8):Option Nat:=(List.range 32).find? λs=>decide (bJ (s:Int)=t)
theorem AK{t:List UInt8}(h:KB t=some s):s<32:=nM.1 (List.mem_of_find?_eq_some h)
structure kf(α:Type) where
 enc:α->List atY
 c:Nat
 hc:∀x,(enc x).length=c
 pos:0<c
 one:∀x,∀u∈enc x,u.oneCell'=true
def kf.all{α:Type}(E:kf α)(l:List α):List atY:=l.flatMap E.enc
theorem kf.all_append(E:kf α)(l G:List α):E.all (l++G)=E.all l++E.all G:=by simp[kf.all]
theorem kf.all_cons(E:kf α)(x:α)(l:List α):E.all (x::l)=E.enc x++E.all l:=by simp[kf.all]
theorem kf.LC(E:kf α):∀l:List α,Lp (E.all l)=Lp l*E.c
 | []=>by simp[kf.all]
 | x::l=>by rw[E.all_cons,ar,E.hc,E.LC l,mg,LL,RY]
theorem kf.Uf(E:kf α):∀{l:List α} {k j:Nat} {x:α} {v:atY},l[k]?=some x->(E.enc x)[j]?=some v->(E.all l)[k*E.c+j]?=some v
 | [],k,j,x,v,h,_=>by simp at h
 | y::l,0,j,x,v,h,hj=>by
   simp only[Up,Pi]at h;subst h;have G:=(Ls.1 hj).1;rw[E.all_cons,Nat.zero_mul,fs,nP G,hj]
 | y::l,k+1,j,x,v,h,hj=>by
   simp only[OX]at h;rw[E.all_cons,J1 (by rw[E.hc,LL];omega),E.hc];rw[show(k+1)*E.c+j-E.c=k*E.c+j by rw[LL];omega];exact E.Uf h hj
theorem kf.adI(E:kf α)(l:List α):∀u∈E.all l,u.oneCell'=true:=by
 intro u G;obtain⟨x,_,hx⟩:=Wa.1 G;exact E.one x u hx
theorem kf.split(E:kf α){l:List α}{i:Nat}{u:atY}(h:(E.all l)[i]?=some u):∃k j x,i=k*E.c+j/\l[k]?=some x/\(E.enc x)[j]?=some u:=by
 have hi:i<Lp l*E.c:=by have:=(Ls.1 h).1;rwa [E.LC]at this
 have G:=E.pos;have H:i/E.c<Lp l:=(Nat.div_lt_iff_lt_mul G).2 hi;have hm:i % E.c<E.c:=Nat.mod_lt _ G;have Z:i=i/E.c*E.c+i % E.c:=by rw[ga];exact(Nat.div_add_mod i E.c).symm
 refine⟨i/E.c,i % E.c,l[i/E.c],Z,In H,?_⟩;have K:i % E.c<Lp (E.enc l[i/E.c]):=by rw[E.hc];exact hm
 have:=E.Uf (In H) (In K);rw[<-Z,h]at this;rw[In K,this]
structure ID{α:Type}(E:kf α)(w:J)(a:o6)(n cap:Nat)(l:List α):Prop where
 hlen:l.length=n
 y7:n<=cap
 y8:cap<=9223372036854775807
 cell:∀k,k<n->∃b off,a=some (IM b off)/\∀k x j v,l[k]?=some x->(E.enc x)[j]?=some v->w.cell? (IM b (off+k*E.c+j))=some v
theorem ID.ath{α:Type}{E:kf α}{w:J}{a:o6}{n cap:Nat}{l:List α}(h:ID E w a n cap l):n<=cap/\cap<=9223372036854775807:=⟨h.y7,h.y8⟩
theorem ID.ext{E:kf α}{cap:Nat}{l:List α}(h:ID E w a n cap l)(hx:D4 w w'):ID E w' a n cap l :=
 ⟨h.hlen,h.y7,h.y8,λk G=>let⟨b,off,e,hc⟩:=h.cell k G;⟨b,off,e,λk x j v K H=>hx.o9 (hc k x j v K H)⟩⟩
theorem ID.at{E:kf α}{cap:Nat}{l:List α}(h:ID E w a n cap l)(H:k<n):
 ∃b off x,a=some (IM b off)/\l[k]?=some x/\∀j v,(E.enc x)[j]?=some v->w.cell? (IM b (off+k*E.c+j))=some v :=
 let⟨b,off,e,hc⟩:=h.cell k H
 have G:k<Lp l:=by rw[h.hlen];exact H
 ⟨b,off,l[k],e,In G,λj v K=>hc k _ j v (In G) K⟩
theorem fX{l:List α}{x:α}(h:l[k]?=some x):l.take (k+1)=l.take k++[x]:=by
 obtain⟨G,rfl⟩:=Ls.1 h;rw[tn G]
def A9{α:Type}(E:kf α)(t:TypeId)(w:J)(base:Nat)(v:atY)(l:List α):Prop:=w.ownsRow base t E.c v (Lp l) (E.all l)
section
variable{α:Type}{E:kf α}{t:TypeId}{w:J}{base:Nat}{l:List α}
theorem A9.form{v:atY}(h:A9 E t w base v l):∃a cap,v=FB a (Lp l) cap/\Lp l<=cap/\cap<=9223372036854775807:=by
 exact Xk
theorem A9.var{v:atY}(h:A9 E t w base v l):∃a n cap,v=FB a n cap/\e9 (Lp l=n):=by
 obtain⟨a,cap,e,_⟩:=h.form;exact⟨a,_,cap,e,rfl⟩
theorem A9.JG{a:o6}{n cap:Nat}(h:A9 E t w base (FB a n cap) l):ID E w a n cap l:=by
 rcases h.2 with⟨he,h0⟩|⟨g,cap',cur,he,_,hg,Z,K,hs,H⟩
 ·exact dy
 simp only[mn]at he;obtain⟨rfl,rfl,rfl⟩:=he;refine⟨rfl,Z,by simpa[maxLen]using K,λk hk=>⟨g,0,rfl,λk x j v hx G=>?_⟩⟩;rw[fs,UV w g _ cur _ (0,0) hg];have q:=E.Uf hx G;rw[<-H,Ro]at q;split at q
 ·simpa using q
 cases q
theorem A9.lt{v:atY}(h:A9 E t w base v l):∀k,v.ownBlock=some k->base<=k/\k<w.heap.size:=VW h
theorem A9.keep{w':J}{v:atY}(h:A9 E t w base v l)(hk:∀k,v.ownBlock=some k->w'.heap[k]?=w.heap[k]?):A9 E t w' base v l:=by
 exact Td
theorem A9.ext{w':J}{v:atY}(h:A9 E t w base v l)(hx:D4 w w'):A9 E t w' base v l:=h.keep λk G=>hx.block k (h.lt k G).2
theorem A9.mono{base':Nat}{v:atY}(h:A9 E t w base v l)(hb:base'<=base):A9 E t w base' v l:=by
 exact Sm
theorem A9.nil(E:kf α)(t:TypeId)(w:J)(base:Nat):A9 E t w base d9 []:=T9 w base t _
theorem A9.block{a:o6}{n cap:Nat}(h:A9 E t w base (FB a n cap) l){k:Nat}(hk:k<n):∃g,a=some (IM g 0)/\base<=g/\(∀j,w.frozen? (IM g j)=false)/\g<w.heap.size:=by
 exact TQ
theorem A9.Ft(E:kf α)(t:TypeId)(W:J)(base:Nat)(n:Nat)(G:n=W.heap.size)(hb:base<=W.heap.size):A9 E t (W.alloc (SH #[] t)) base (GT n 0 0) []:=by
 subst G;exact nr W #[] 0 hb O j9
theorem A9.lit(E:kf α)(t:TypeId)(W:J)(base:Nat)(l:List α)(H:Array atY)(G:H=(E.all l).toArray)(n:Nat)(K:n=W.heap.size)(hb:base<=W.heap.size)(hm:Lp l<=1099511627776):A9 E t (W.alloc (SH H t)) base (GT n (Lp l) (Lp l)) l:=by
 subst K G;refine⟨E.LC l,.inr ⟨_,Lp l,(E.all l).toArray,rfl,hb,nE W _,m9 _,by simp[maxLen];omega,by simp[E.LC],?_⟩⟩
 show List.take _ (E.all l)=_;exact aP (by rw[E.LC];exact m9 _)
theorem aD{w:J}{base base':Nat}{e e':TypeId}{s s':Nat}{v v':atY}{n n':Nat}{xs G:List atY}(H:e≠e')(h:w.ownsRow base e s v n xs)(h':w.ownsRow base' e' s' v' n' G):∀k,v.ownBlock=some k->v'.ownBlock≠some k:=by
 intro k K Z;rcases h.2 with⟨rfl,_⟩|⟨g,cap,cur,rfl,_,hg,_⟩
 ·simp[Value.ownBlock]at K
 rcases h'.2 with⟨rfl,_⟩|⟨g',cap',cur',rfl,_,Tj,_⟩
 ·simp[Value.ownBlock]at Z
 simp only[Value.ownBlock,Pi]at K Z;subst K Z;rw[hg]at Tj;simp only[Pi,Tc]at Tj;exact H Tj.2.1
theorem aq{w:J}{base g:Nat}{e e':TypeId}{s:Nat}{v:atY}{n:Nat}{K:List atY}{c:Array atY}{z:Nat×Nat}(h:w.ownsRow base e s v n K)(hb:w.heap[g]?=some (SH c e' z))(G:e≠e'):some g≠v.ownBlock:=by
 intro H;rcases h.2 with⟨rfl,_⟩|⟨g',cap,cur,rfl,_,hg,_⟩
 ·simp[Value.ownBlock]at H
 simp only[Value.ownBlock,Pi]at H;subst H;rw[hg]at hb;simp only[Pi,Tc]at hb;exact G hb.2.1
theorem ID.lit(E:kf α)(t:TypeId)(W:J)(l:List α)(m:Nat)(hm:Lp l=m)(H:Array atY)(G:H=(E.all l).toArray)(n:Nat)(K:n=W.heap.size)(hb:m<=1099511627776):ID E (W.alloc (SH H t)) (some (IM n 0)) m m l:=by
 subst hm;exact(A9.lit E t W 0 l H G n K (ef _) hb).JG
end
section
variable{α:Type}{E:kf α}{t:TypeId}{P:Program}{w:J}{ops:Array Oper}{rest:List Oper}{o:Oper}{a:Act}{Q:Exit->Act->J->Prop}
theorem iq{K:Act->J->Prop}{ts:TypeId}{z:atY}{bytes:Nat}(E:kf α)(Ln:(P.info? t).map (λi=>(i.zero,i.size,i.bytes))=some (some z,E.c,bytes))(hz:z.cells.size=E.c)(ht:P.underlying ts=some (.slice t))(SF:bytes<=64)
 (s x:Operand) (ho:o.op=.call { callee:=.builtin .append,args:=#[s,x],argTypes:=#[ts,ts] })
 (base:Nat) (v:atY) (l:List α) (hs:a.eval s=v) (FW:A9 E t w base v l) (ao:o6) (m c:Nat) (Z:List α) (hx:a.eval x=FB ao m c) (Jm:ID E w ao m c Z) (hb:Lp l+m<=1099511627776) (G:base<=w.heap.size)
 (h:∀H w',A9 E t w' base H (l++Z)->w.grownBy w' v.ownBlock->Jv w v H->K (a.put o.dst H) w'):o.wp P a w K Q:=by
 obtain⟨i,hi,Hl,Mh,KZ⟩:∃i,P.info? t=some i/\i.zero=some z/\i.size=E.c/\i.bytes=bytes:=by
  cases hq:P.info? t with
  | none=>rw[hq]at Ln;simp at Ln
  | some i=>rw[hq]at Ln;simp at Ln;exact⟨i,rfl,Ln.1,Ln.2.1,Ln.2.2⟩
 cases ao with
 | none =>
   have hm:m=0:=by
    exact V7
   subst hm;have hl:Z=[]:=Md Jm.hlen;subst hl;refine ij w s x ts ho base t i E.c ht hi v (Lp l) _ hs FW c hx ?_;exact h v w (by simpa using FW) (UH _ _) (Jv.refl _ _)
 | some ad =>
   refine fO w s x ts ho base t i z E.c bytes ht hi Hl Mh KZ hz E.pos v (Lp l) (E.all l) hs FW ad m c (E.all Z) hx (by rw[E.LC,Jm.hlen]) ?_ (E.adI Z) p8 (l8 (yy hb SF)) G ?_
   ·intro i u hu;have⟨k,j,y,he,hk,hj⟩:=E.split hu;have GF:k<m:=by rw[<-Jm.hlen];exact(Ls.1 hk).1
    have⟨b,off,e,hc⟩:=Jm.cell k GF;simp only[Pi]at e;subst e;have ha:∀k,((IM b off):Addr).add k=(IM b (off+k)):=λk=>by unfold Addr.add;split<;>simp_all
    rw[ha,he,<-Nat.add_assoc];exact hc k y j u hk hj
   intro H w' h1 h2 h3;refine h H w' ?_ h2 h3;unfold A9;rw[ar,Jm.hlen,E.all_append];exact h1
theorem dt{ts:TypeId}{z:atY}{bytes:Nat}(E:kf α)(Ln:(P.info? t).map (λi=>(i.zero,i.size,i.bytes))=some (some z,E.c,bytes))(hz:z.cells.size=E.c)(Z:P.underlying ts=some (.slice t))(SF:bytes<=64)(PK:o.guard=none)
 (s x:Operand) (ho:o.op=.call { callee:=.builtin .append,args:=#[s,x],argTypes:=#[ts,ts] })
 (base:Nat) (v:atY) (l:List α) (hs:a.eval s=v) (FW:A9 E t w base v l) (ao:o6) (m c:Nat) (K:List α) (hx:a.eval x=FB ao m c) (Jm:ID E w ao m c K) (hb:Lp l+m<=1099511627776) (G:base<=w.heap.size)
 (h:∀H w',A9 E t w' base H (l++K)->w.grownBy w' v.ownBlock->Jv w v H->wpList P ops Q rest (a.put o.dst H) w'):wpList P ops Q (o::rest) a w :=
 Vi PK λ_ hK=>iq E Ln hz Z SF s x ho base v l hs FW ao m c K hx Jm hb G λH w' h1 h2 h3=>hK _ _ (h H w' h1 h2 h3)
end
def gI(a b:Int):Int:=(Int.gcd a b:Int)
theorem As(a b:Int):gI b (a.tmod b)=gI a b:=by
 unfold gI Int.gcd;rw[Rq,Nat.gcd_comm b.natAbs,<-Nat.gcd_rec,Nat.gcd_comm]
theorem uc(a:Int):gI a 0=(a.natAbs:Int):=by simp[gI]
theorem kI(a b:Int):gI (-a) b=gI a b:=by simp[gI,Int.gcd]
theorem pL(a b:Int):gI a (-b)=gI a b:=by simp[gI,Int.gcd]
theorem oO(a:Int){b:Int}(h:b≠0):1<=gI a b:=by
 unfold gI;have:0<Int.gcd a b:=Int.gcd_pos_of_ne_zero_right a h;omega
theorem ve(a b:Int):0<=gI a b:=by unfold gI;omega
theorem UX(a:Int){b:Int}(h:b≠0):gI a b<=b.natAbs:=by
 unfold gI Int.gcd
 exact_mod_cast Nat.gcd_le_right _ O
theorem ua(a b:Int):gI a b∣a:=Int.gcd_dvd_left ..
theorem pK(a b:Int):gI a b∣b:=Int.gcd_dvd_right ..
def A5(p:o8):Bool:=A8 p.2 1 1000000000&&(A8 p.1 (-1000000000) 1000000000&&decide (gI p.1 p.2=1))
theorem aV{p:o8}(h:A5 p=true):1<=p.2/\p.2<=1000000000/\-1000000000<=p.1/\p.1<=1000000000:=by
 simp only[A5,A8,cM,cq]at h;omega
theorem lD(x y:Int):A5 (-x,y)=A5 (x,y):=by
 have G:A8 (-x) (-1000000000) 1000000000=A8 x (-1000000000) 1000000000:=by
  unfold A8;have K:decide (-1000000000<=-x)=decide (x<=1000000000):=by by_cases h:x<=1000000000<;>simp[h]<;>omega
  have H:decide (-x<=1000000000)=decide (-1000000000<=x):=by by_cases h:-1000000000<=x<;>simp[h]<;>omega
  rw[K,H,Qa]
 simp only[A5,kI,G]
def Ik(p:o8):(Int×Int)×Bool:=if A5 p=true then(p,true) else((0,0),false)
def aN(n d:Int):(Int×Int)×Bool :=
 if d=0∨A8 n (-1000000000000000000) 1000000000000000000=false∨A8 d (-1000000000000000000) 1000000000000000000=false then((0,0),false)
 else if d<0 then Ik (n.tdiv (-gI n d),d.tdiv (-gI n d)) else Ik (n.tdiv (gI n d),d.tdiv (gI n d))
theorem xg{p:o8}(h:(Ik p).2=true):A5 (Ik p).1=true:=by
 unfold Ik at h⊢;split at h
 ·next h1=>rw[i7 h1];exact h1
 simp at h
theorem jR{n:Int}(h:(aN n d).2=true):A5 (aN n d).1=true:=by
 unfold aN at h⊢;split at h
 ·simp at h
 next h1 =>
 rw[f8 h1];split at h
 ·next h2=>rw[i7 h2];exact xg h
 next h2=>rw[f8 h2];exact xg h
theorem XU{n:Int}(h:(aN n d).2=false):(aN n d).1=(0,0):=by
 unfold aN Ik at h⊢;split at h
 ·next h1=>rw[i7 h1]
 next h1 =>
 rw[f8 h1];split at h
 ·next h2 =>
  rw[i7 h2];split at h
  ·simp at h
  next h3=>rw[f8 h3]
 next h2 =>
 rw[f8 h2];split at h
 ·simp at h
 next h3=>rw[f8 h3]
theorem oN(n d:Int)(hd:0<d):gI (n.tdiv (gI n d)) (d.tdiv (gI n d))=1:=by
 have hg:=oO n (show d≠0 by omega);have⟨k,G⟩:=ua n d;have⟨m,hm⟩:=pK n d;have h1:n.tdiv (gI n d)=k:=by
    conv=>lhs;arg 1;rw[G]
    exact jc _ O
 have h2:d.tdiv (gI n d)=m:=by
    conv=>lhs;arg 1;rw[hm]
    exact jc _ O
 rw[h1,h2];have Z:gI (gI n d*k) (gI n d*m)=gI n d:=by rw[<-G,<-hm]
 have K:gI (gI n d*k) (gI n d*m)=gI n d*gI k m:=by
  show((Int.gcd _ _:Nat):Int)=_;rw[Int.gcd_mul_left];have:((gI n d).natAbs:Int)=gI n d:=O;rw[VV,this];rfl
 rw[Z]at K;have H:gI n d*1=gI n d*gI k m:=O;have:=Int.eq_of_mul_eq_mul_left O H;omega
theorem rT(n g:Int)(hg:1<=g):(n.tdiv g).natAbs<=n.natAbs:=by
 rw[B'];exact Zs _ _
def Og(h:σ:=by
 have:gI n d*m<=0:=Int.mul_nonpos_of_nonneg_of_nonpos O h;omega
 ):σ:=h
theorem XQ{n:Int}(hd:1<=d)(hd':d<=1000000000)(h:-1000000000<=n)(h':n<=1000000000):(aN n d).2=true:=by
 have hg:=oO n (show d≠0 by omega);have LW:=UX n (show d≠0 by omega);unfold aN;rw[f8 (by simp[A8];omega),f8 O];unfold Ik;have h1:=rT n (gI n d) hg;have G:=rT d (gI n d) hg;have h3:1<=d.tdiv (gI n d):=by
  have⟨m,hm⟩:=pK n d;have G:d.tdiv (gI n d)=m:=by
     conv=>lhs;arg 1;rw[hm]
     exact jc _ O
  rw[G];rcases L3 0 m with h|h
  ·omega
  exact Og
 rw[i7];simp only[A5,A8,oN n d O,cM,cq,gi];omega
def F6(a b:o8):(Int×Int)×Bool:=if(A5 a&&A5 b)=true then aN (a.1*b.2+b.1*a.2) (a.2*b.2) else((0,0),false)
def FD(a b:o8):(Int×Int)×Bool:=if(A5 a&&A5 b)=true then aN (a.1*b.2-b.1*a.2) (a.2*b.2) else((0,0),false)
def cn(a b:o8):(Int×Int)×Bool:=if(A5 a&&A5 b)=true then aN (a.1*b.1) (a.2*b.2) else((0,0),false)
def Hu(a b:o8):(Int×Int)×Bool:=if(A5 a&&A5 b)=true then aN (a.1*b.2) (a.2*b.1) else((0,0),false)
def D'(a b:o8):Int:=if(A5 a&&A5 b)=true then(if a.1*b.2<b.1*a.2 then -1 else if b.1*a.2<a.1*b.2 then 1 else 0) else 0
theorem zp(a b:o8):F6 a (-b.1,b.2)=FD a b:=by
 unfold F6 FD;rw[lD,Int.neg_mul,<-Int.sub_eq_add_neg]
theorem Yq{x y:Int}(h1:-1000000000<=x)(h2:x<=1000000000)(h3:-1000000000<=y)(h4:y<=1000000000):-1000000000000000000<=x*y/\x*y<=1000000000000000000:=by
 have hx:x.natAbs<=1000000000:=O;have G:y.natAbs<=1000000000:=O;have h:(x*y).natAbs<=1000000000*1000000000:=by
  rw[S3];exact yy hx G
 omega
def B6:kf (List UInt8):=⟨λl=>[atr (bs l)],1,λ_=>rfl,by decide,λx u hu=>by rw[Nu.1 hu];rfl⟩
def RH:kf UInt8:=⟨λc=>[.int .u8 (c.toNat:Int)],1,λ_=>rfl,by decide,λx u hu=>by rw[Nu.1 hu];rfl⟩
theorem wU(l:List UInt8)(a b:Nat):(bs l).extract a b=bs ((l.take b).drop a):=by
 unfold bs;apply ByteArray.ext;simp[ByteArray.data_extract,List.drop_take]
theorem LV(l:List UInt8)(a:Nat):(bs l).extract a (bs l).size=bs (l.drop a):=by
 rw[wU,aX,Wt]
theorem sf{l:List UInt8}{i:Nat}(h:i<(bs l).size):(bs l)[i]=l[i]?.getD 0:=by
 rw[aX]at h;rw[In h];rfl
theorem ww{l:List UInt8}{m:Nat}(G:(l.take k).all dj=true)(hk:k<=m)(hm:m<=12):FY (l.take k)<1000000000000:=by
 have h:=uN _ G;have H:Lp (l.take k)<=12:=by rw[jt];omega
 have h3:10^Lp (l.take k)<=10^12:=cC FS H;omega
def FE(r:o8):List UInt8:=if A5 r=true then(if r.2=1 then Lib.itoa r.1 else Lib.itoa r.1++([47]++Lib.itoa r.2)) else []
theorem rC(r:o8):Lp (FE r)<=50:=by
 unfold FE;split
 ·next h =>
  unfold A5 A8 at h;simp only[cM,cq]at h;have h1:=WZ r.1 O O;have h2:=WZ r.2 O O;split
  ·omega
  simp only[ar,mg,D1];omega
 simp
def Sg(l:o3):List UInt8:=Lib.join (l.map FE) [32]
theorem DL{L:List (List UInt8)}{x s:List UInt8}(h:L≠[]):Lib.join (L++[x]) s=Lib.join L s++s++x:=by
 cases L with
 | nil=>exact absurd rfl h
 | cons y r =>
   rw[Px,Mt,Mt];unfold Lib.joinTail;simp
theorem lj{L:List (List UInt8)}{m:Nat}(h:∀x∈L,Lp x<=m):Lp (Lib.join L [32])<=Lp L*(m+1):=by
 cases L with
 | nil=>simp[Lib.join_nil]
 | cons y r =>
   rw[Mt,ar];have hr:∀q:List (List UInt8),(∀x∈q,Lp x<=m)->Lp (Lib.joinTail [32] q)<=Lp q*(m+1):=by
    intro q
    induction q with
    | nil=>intro _;simp[Lib.joinTail]
    | cons z q ih =>
      intro H;have G:=ih λx hx=>H x (dr _ hx)
      have K:=H z Zd;unfold Lib.joinTail at G⊢;simp only[Zp,aB,ar,mg,D1]at G⊢;rw[LL];omega
   have G:=hr r λx hx=>h x (dr _ hx)
   have K:=h y Zd;rw[mg,LL];omega
theorem zA{l:o3}:Lp (Sg l)<=Lp l*51:=by
 have:=lj (L:=l.map FE) (m:=50) (λx hx=>by obtain⟨r,_,rfl⟩:=xl.1 hx;exact rC r);rw[b7]at this;exact this
def iu(c:Int):List UInt8:=if c=0 then [98,97,100] else if c=1 then [112,111,105,110,116] else if c=2 then [101,109,112,116,121] else if c=3 then [108,105,109,105,116] else [63]
end
section
variable{l:List UInt8}{k:Nat}{w:J}
theorem yD(H:k<32)(h:bJ (k:Int)=l)(G:∀s:Nat,s<k->bJ (s:Int)≠l):KB l=some k:=by
 unfold KB;rw[List.find?_range_eq_some];refine⟨by simpa using h,nM.2 H,λj K=>by simpa using G j K⟩
theorem vI(G:∀s:Nat,s<32->bJ (s:Int)≠l):KB l=none:=by
 unfold KB;rw[n0];intro x hx
 simpa using G x (nM.1 hx)
def ff(h:σ:=by
 have⟨t,ht⟩:=j7 (bs l);have HT:=I ht;have⟨R,hR⟩:=j7 (KB l);have GV:=I hR;rw[<-ht,<-hR];clear ht hR;(try unfold f9);go_in
 go_wp2
 go_loopg [4] 32 (λgk ss wr=>∃(k:Nat),e9 (gk+k=32)/\ss=U k/\e9 (∀s:Nat,s<k->bJ (s:Int)≠l)/\e9 (D4 w wr))
 ·exact⟨0,I rfl,rfl,I (λs hs=>absurd hs O),I So⟩
 case round =>
  have⟨g1,z8⟩:=j7 gk;subst z8;have⟨wr,F5⟩:=j7 wr;subst F5;obtain⟨k,HK,rfl,HN,HX⟩:=hrel;by_cases hk:k<32
  ·have HF:=I (qq0 (w:=wr) k hk);by_cases hc:bJ (k:Int)=l
   ·obtain rfl:=(show R=some k from GV.trans (yD hk hc HN));have hne:((bs (bJ (k:Int))).toList == t.toList)=true:=by rw[HT.o,dd,dd,hc];simp
    have⟨tz,Sw⟩:=j7 (bs (bJ (k:Int)));rw[<-Sw]at hne HF;clear Sw hc;go_wp2_with rfl;refine HF.mono ?_;rintro e w1 ⟨rfl,hx⟩;have A6:=I (HX.trans hx);clear hx;go_wp2;go_ret2;exact⟨rfl,A6⟩
   have hne:((bs (bJ (k:Int))).toList == t.toList)=false:=by rw[HT.o,dd,dd];simpa using hc
   have HN1:=I (show∀s:Nat,s<k+1->bJ (s:Int)≠l by
    intro s hs;rcases Nat.lt_succ_iff_lt_or_eq.1 hs with h|h
    ·exact HN.o s h
    subst h;exact hc)
   have⟨tz,Sw⟩:=j7 (bs (bJ (k:Int)));rw[<-Sw]at hne HF;clear Sw hc;go_wp2_with rfl;refine HF.mono ?_;rintro e w1 ⟨rfl,hx⟩;have A6:=I (HX.trans hx);clear hx;go_wp2_with rfl;refine gy ?_;exact⟨k+1,I (l8 HK.o),by go_num,HN1,A6⟩
  have e32:k=32:=by have:=HK.o;omega
  obtain rfl:=(show R=none from GV.trans (vI (by rw[<-e32];exact HN)));clear e32;go_wp2;go_ret2;exact⟨rfl,HX⟩
 ):σ:=h
theorem rl(l:List UInt8):f9 80 #[atr (bs l)] w (.tuple #[U (((KB l).getD 0:Nat):Int),ato (KB l).isSome]):=by
 have qq0:=@ie;exact ff
theorem rK(l:List UInt8):f9 94 #[atr (bs l)] w (.tuple #[U (((KB l).getD 0:Nat):Int),ato (KB l).isSome]):=by
 have qq0:=@ig;exact ff
theorem Tryz.Gb:(prog.info? 9).map (λi=>(i.zero,i.size,i.bytes))=some (some (atr ⟨#[]⟩),B6.c,16):=by kernel_rfl
theorem AY{c:UInt8}(h:l[k]?.getD 0=c):GO c l (k+1)=((GO c l k).1++[(l.take k).drop (GO c l k).2],k+1):=by rw[GO,i7 h]
theorem zl{c:UInt8}(h:l[k]?.getD 0≠c):GO c l (k+1)=GO c l k:=by rw[GO,f8 h]
theorem jz(l:List UInt8)(c:UInt8)(hl:Lp l<=1099511627700):
 Calls prog 23 #[atr (bs l),.int .u8 (c.toNat:Int)] w λe w'=>∃v,e=atn v/\A9 B6 9 w' w v (E0 c l)/\D4 w w':=by
 have⟨t,ht⟩:=j7 (bs l);have hs:t.size=Lp l:=by rw[ht,aX]
 refine kv hs (show t.size<=1099511627700 by omega) (show∀(k:Nat) (h:k<t.size),t[k]=l[k]?.getD 0 by subst ht;intro k h;exact sf h) (show∀a b,t.extract a b=bs ((l.take b).drop a)by subst ht;exact λa b=>wU l a b) (A9.Ft B6 9 w w _ rfl (m9 _)) λHS HB HAT HX HO=>?_;rw[<-ht];clear ht hs;go_in
 go_wp2
 go_loopg [5,6,7] t.size (λgk oo ff ii wr=>∃(k q n cp:Nat) (a:o6) (L:List (List UInt8)),e9 (gk+k=t.size)/\oo=FB a n cp/\ff=U q/\ii=U k/\e9 (GO c l k=(L,q))/\e9 (A9 B6 9 wr w (FB a n cp) L)/\e9 (D4 w wr))
 ·exact⟨0,0,0,0,_,[],I rfl,rfl,rfl,rfl,I rfl,HO,I ZL⟩
 rename Nat=>g1;rename J=>wr;obtain⟨k,q,n,cp,a,L,HK,rfl,rfl,rfl,H,G,A6⟩:=hrel;have HQ:=I (show q<=k/\Lp L<=k by have:=pR c l k;rw[H.o]at this;exact this);have hq:q<=k:=HQ.1;have Gm:=HB.o;have Gq:=I (show Lp L<=1099511627700 by have:=HQ.2;have:=HK.o;omega);by_cases hk:k<t.size
 ·have⟨x,hx⟩:=j7 (l[k]?.getD 0);have hkx:∀h:k<t.size,t[k]=x:=λh=>by rw[HAT.o k h,hx]
  have Sa:=I hx;clear hx;by_cases hc:x=c
  ·subst hc;have Hi:=I (ID.lit B6 9 wr [(l.take k).drop q] 1 rfl #[atr (t.extract q k)] (by rw[HX.o];rfl) wr rfl O)
   go_wp2_with (first
    | (at_builtin;refine dt B6 Tryz.Gb rfl Jw FS rfl _ _ rfl w (FB a n cp) L rfl (G.ext ZL) _ 1 1 [(l.take k).drop q] rfl Hi.o (l8 Gq.o) Vb ?_;intro v6 w6 ho hg K;obtain⟨a6,n6,c6,rfl,Jy⟩:=ho.var;have Gp:=I ho;have Hg:=I (aj (A6.trans ZL) hg (λj Z=>(G.lt j Z).1));clear ho hg K))
   refine gy ?_;exact⟨k+1,k+1,n6,c6,a6,_,I (l8 HK.o),rfl,by go_num,by go_num,I (by rw[AY Sa.symm,H.o]),Gp,Hg⟩
  have hne:((x.toNat:Int) == (c.toNat:Int))=false:=by
   rw[VK];intro e;exact hc (Zi.1 O)
  go_wp2_with rfl;refine gy ?_;exact⟨k+1,q,n,cp,a,L,I (l8 HK.o),rfl,rfl,by go_num,I (by rw[zl (by rw[<-Sa.o];exact hc)];exact H),G,A6⟩
 have Rb:k=t.size:=l8 HK.o;have HE:=I (show E0 c l=L++[l.drop q]by unfold E0;rw[<-HS.o,<-Rb,H.o]);have HD:=I (show(l.take t.size).drop q=l.drop q by rw[HS.o,Wt]);have Hi:=I (ID.lit B6 9 wr [l.drop q] 1 rfl #[atr (t.extract q t.size)] (by rw[HX.o,HD.o];rfl) wr rfl O)
 go_wp2_with (first
  | (at_builtin;refine dt B6 Tryz.Gb rfl Jw FS rfl _ _ rfl w (FB a n cp) L rfl (G.ext ZL) _ 1 1 [l.drop q] rfl Hi.o (l8 Gq.o) Vb ?_;intro v6 w6 ho hg K;have Hg:=I (aj (A6.trans ZL) hg (λj Z=>(G.lt j Z).1));clear hg K))
 go_ret;exact⟨_,rfl,by rw[HE.o];exact ho,Hg⟩
theorem im(l:List UInt8)(c:UInt8)(hl:Lp l<=1099511627700):
 Calls prog 10 #[atr (bs l),.int .u8 (c.toNat:Int)] w λe w'=>∃v,e=atn v/\A9 B6 9 w' w v (E0 c l)/\D4 w w':=by
 have⟨t,ht⟩:=j7 (bs l);have hs:t.size=Lp l:=by rw[ht,aX]
 refine kv hs (show t.size<=1099511627700 by omega) (show∀(k:Nat) (h:k<t.size),t[k]=l[k]?.getD 0 by subst ht;intro k h;exact sf h) (show∀a b,t.extract a b=bs ((l.take b).drop a)by subst ht;exact λa b=>wU l a b) (A9.Ft B6 9 w w _ rfl (m9 _)) λHS HB HAT HX HO=>?_;rw[<-ht];clear ht hs;go_in
 go_wp2
 go_loopg [5,6,7] (t.size+1) (λgk oo ff ii wr=>∃(k q n cp:Nat) (a:o6) (L:List (List UInt8)),e9 (gk+k=t.size+1)/\oo=FB a n cp/\ff=U q/\ii=U k/\e9 (if k<=t.size then GO c l k=(L,q) else L=E0 c l)/\e9 (A9 B6 9 wr w (FB a n cp) L)/\e9 (D4 w wr))
 ·exact⟨0,0,0,0,_,[],I O,rfl,rfl,rfl,I (by rw[i7 O];rfl),HO,I ZL⟩
 rename Nat=>g1;rename J=>wr;obtain⟨k,q,n,cp,a,L,HK,rfl,rfl,rfl,K,G,A6⟩:=hrel;have Gm:=HB.o;by_cases Ij:k<=t.size
 ·have H:=I (show GO c l k=(L,q)by have:=K.o;rwa [i7 Ij]at this);clear K;have HQ:=I (show q<=k/\Lp L<=k by have:=pR c l k;rw[H.o]at this;exact this);have hq:q<=k:=HQ.1;have Gq:=I (show Lp L<=1099511627700 by have:=HQ.2;omega);by_cases hk:k<t.size
  ·have⟨x,hx⟩:=j7 (l[k]?.getD 0);have hkx:∀h:k<t.size,t[k]=x:=λh=>by rw[HAT.o k h,hx]
   have Sa:=I hx;have hke:((k:Int) == (t.size:Int))=false:=t8;clear hx;by_cases hc:x=c
   ·subst hc;have Hi:=I (ID.lit B6 9 wr [(l.take k).drop q] 1 rfl #[atr (t.extract q k)] (by rw[HX.o];rfl) wr rfl O)
    go_wp2_with (first
    | (at_builtin;refine dt B6 Tryz.Gb rfl Jw FS rfl _ _ rfl w (FB a n cp) L rfl (G.ext ZL) _ 1 1 [(l.take k).drop q] rfl Hi.o (l8 Gq.o) Vb ?_;intro v6 w6 ho hg Z;obtain⟨a6,n6,c6,rfl,Jy⟩:=ho.var;have Gp:=I ho;have Hg:=I (aj (A6.trans ZL) hg (λj hj=>(G.lt j hj).1));clear ho hg Z))
    refine gy ?_;exact⟨k+1,k+1,n6,c6,a6,_,I (l8 HK.o),rfl,by go_num,by go_num,I (by rw[i7 O,AY Sa.symm,H.o]),Gp,Hg⟩
   have hne:((x.toNat:Int) == (c.toNat:Int))=false:=by
    rw[VK];intro e;exact hc (Zi.1 O)
   go_wp2_with rfl;refine gy ?_;exact⟨k+1,q,n,cp,a,L,I (l8 HK.o),rfl,rfl,by go_num,I (by rw[i7 O,zl (by rw[<-Sa.o];exact hc)];exact H),G,A6⟩
  have Rb:k=t.size:=O;have HE:=I (show E0 c l=L++[(l.take k).drop q]by unfold E0;rw[<-HS.o,<-Rb,H.o];rw[show l.take k=l from aP ZV]);have hke:((k:Int) == (t.size:Int))=true:=t8;have Hi:=I (ID.lit B6 9 wr [(l.take k).drop q] 1 rfl #[atr (t.extract q k)] (by rw[HX.o];rfl) wr rfl O);clear Rb
  go_wp2_with (first
  | (at_builtin;refine dt B6 Tryz.Gb rfl Jw FS rfl _ _ rfl w (FB a n cp) L rfl (G.ext ZL) _ 1 1 [(l.take k).drop q] rfl Hi.o (l8 Gq.o) Vb ?_;intro v6 w6 ho hg Z;obtain⟨a6,n6,c6,rfl,Jy⟩:=ho.var;have Gp:=I ho;have Hg:=I (aj (A6.trans ZL) hg (λj hj=>(G.lt j hj).1));clear ho hg Z))
  refine gy ?_;exact⟨k+1,k+1,n6,c6,a6,_,I (l8 HK.o),rfl,by go_num,by go_num,I (by rw[f8 O];exact HE.symm),Gp,Hg⟩
 have H:=I (show L=E0 c l by have:=K.o;rwa [f8 Ij]at this);clear K;go_wp2;go_ret;exact⟨_,rfl,by rw[<-H.o];exact G.o,A6⟩
def ye:Go.Shelf.Ren:=⟨fun|101=>152|208=>233|206=>294|n=>n,fun|9=>9|4=>4|3=>3|n=>n,fun|n=>n⟩
theorem Yy:Go.Proofs.Lays.n101 prog ye:={
 mixed:=by kernel_rfl
 f101:=func152.trans (IR some k8)
 f206:=func294.trans (IR some k8)
 f208:=func233.trans (IR some k8)
 t3:=O1
 a3:=B2
 z3:=nS
 v3:=SP
 t4:=VO
 a4:=O3
 z4:=Oj
 v4:=Qp
 t9:=Me
 a9:=SK
 z9:=q8
 v9:=Qd }
def oW:Go.Shelf.Ren:=⟨fun|156=>146|165=>223|166=>224|169=>225|240=>289|241=>290|276=>338|277=>339|n=>n,fun|31=>25|9=>9|3=>3|4=>4|0=>0|20=>20|72=>193|76=>197|70=>191|37=>22|75=>196|127=>250|164=>277|5=>5|80=>199|n=>n,fun|n=>n⟩
theorem yd:Go.Proofs.Lays.n156 prog oW:={
 mixed:=by kernel_rfl
 f156:=func146.trans (IR some k8)
 f165:=func223.trans (IR some k8)
 f166:=func224.trans (IR some k8)
 f169:=func225.trans (IR some k8)
 f240:=func289.trans (IR some k8)
 f241:=func290.trans (IR some k8)
 f276:=func338.trans (IR some k8)
 f277:=func339.trans (IR some k8)
 t0:=Ii
 a0:=aA
 z0:=Ut
 v0:=Tl
 t3:=O1
 a3:=B2
 z3:=nS
 v3:=SP
 t4:=VO
 a4:=O3
 z4:=Oj
 v4:=Qp
 t9:=Me
 a9:=SK
 z9:=q8
 v9:=Qd
 t20:=Z9
 a20:=Tryz.isAgg20
 z20:=Tx
 v20:=SC
 t31:=Jw
 a31:=Tryz.isAgg25
 z31:=Tryz.sizeOf25
 v31:=Tryz.zeroValue25
 t37:=OZ
 a37:=Tryz.isAgg22
 z37:=k4
 v37:=SL
 t70:=Tryz.underlying191
 a70:=Tryz.isAgg191
 z70:=Tryz.sizeOf191
 v70:=Tryz.zeroValue191
 t72:=Tryz.underlying193
 a72:=Tryz.isAgg193
 z72:=Tryz.sizeOf193
 v72:=Tryz.zeroValue193
 t75:=Tryz.underlying196
 a75:=Tryz.isAgg196
 z75:=Tryz.sizeOf196
 v75:=Tryz.zeroValue196
 t76:=Tryz.underlying197
 a76:=Tryz.isAgg197
 z76:=Tryz.sizeOf197
 v76:=Tryz.zeroValue197
 t127:=Tryz.underlying250
 a127:=Tryz.isAgg250
 z127:=Tryz.sizeOf250
 v127:=Tryz.zeroValue250
 t164:=Tryz.underlying277
 a164:=Tryz.isAgg277
 z164:=Tryz.sizeOf277
 v164:=Tryz.zeroValue277 }
def xX:Go.Shelf.Ren:=⟨fun|145=>25|220=>56|219=>118|217=>195|225=>196|224=>197|267=>198|266=>268|314=>269|n=>n,fun|9=>9|4=>4|59=>54|3=>3|5=>5|46=>118|146=>229|51=>228|n=>n,fun|1=>0|n=>n⟩
theorem Yz:Go.Proofs.Lays.n145 prog xX:={
 mixed:=by kernel_rfl
 f145:=func25.trans (IR some k8)
 f217:=func195.trans (IR some k8)
 f219:=func118.trans (IR some k8)
 f220:=func56.trans (IR some k8)
 f224:=func197.trans (IR some k8)
 f225:=func196.trans (IR some k8)
 f266:=func268.trans (IR some k8)
 f267:=func198.trans (IR some k8)
 f314:=func269.trans (IR some k8)
 t3:=O1
 a3:=B2
 z3:=nS
 v3:=SP
 t4:=VO
 a4:=O3
 z4:=Oj
 v4:=Qp
 t5:=Po
 a5:=R'
 z5:=QY
 v5:=M1
 t9:=Me
 a9:=SK
 z9:=q8
 v9:=Qd
 t46:=K1
 a46:=db
 z46:=Us
 v46:=RP
 t51:=E3
 a51:=cB
 z51:=y3
 v51:=S9
 t59:=Tryz.underlying54
 a59:=Tryz.isAgg54
 z59:=Tryz.sizeOf54
 v59:=Tryz.zeroValue54
 t146:=Tryz.underlying229
 a146:=Tryz.isAgg229
 z146:=Tryz.sizeOf229
 v146:=Tryz.zeroValue229
 g1:=by kernel_rfl }
def qu:Go.Shelf.Ren:=⟨fun|155=>75|154=>150|138=>230|165=>223|143=>231|166=>224|197=>232|169=>225|195=>291|218=>292|240=>289|241=>290|219=>118|260=>293|276=>338|277=>339|217=>195|225=>196|224=>197|267=>198|266=>268|314=>269|n=>n,fun|9=>9|3=>3|4=>4|72=>193|0=>0|76=>197|105=>201|21=>21|5=>5|70=>191|20=>20|37=>22|75=>196|127=>250|164=>277|46=>118|119=>280|139=>283|138=>282|146=>229|51=>228|80=>199|n=>n,fun|1=>0|3=>1|4=>2|n=>n⟩
theorem OB:Go.Proofs.Lays.n155 prog qu:={
 mixed:=by kernel_rfl
 f138:=func230.trans (IR some k8)
 f143:=func231.trans (IR some k8)
 f154:=func150.trans (IR some k8)
 f155:=func75.trans (IR some k8)
 f165:=func223.trans (IR some k8)
 f166:=func224.trans (IR some k8)
 f169:=func225.trans (IR some k8)
 f195:=func291.trans (IR some k8)
 f197:=func232.trans (IR some k8)
 f217:=func195.trans (IR some k8)
 f218:=func292.trans (IR some k8)
 f219:=func118.trans (IR some k8)
 f224:=func197.trans (IR some k8)
 f225:=func196.trans (IR some k8)
 f240:=func289.trans (IR some k8)
 f241:=func290.trans (IR some k8)
 f260:=func293.trans (IR some k8)
 f266:=func268.trans (IR some k8)
 f267:=func198.trans (IR some k8)
 f276:=func338.trans (IR some k8)
 f277:=func339.trans (IR some k8)
 f314:=func269.trans (IR some k8)
 t0:=Ii
 a0:=aA
 z0:=Ut
 v0:=Tl
 t3:=O1
 a3:=B2
 z3:=nS
 v3:=SP
 t4:=VO
 a4:=O3
 z4:=Oj
 v4:=Qp
 t5:=Po
 a5:=R'
 z5:=QY
 v5:=M1
 t9:=Me
 a9:=SK
 z9:=q8
 v9:=Qd
 t20:=Z9
 a20:=Tryz.isAgg20
 z20:=Tx
 v20:=SC
 t21:=Tryz.underlying21
 a21:=Tryz.isAgg21
 z21:=Tryz.sizeOf21
 v21:=Tryz.zeroValue21
 t37:=OZ
 a37:=Tryz.isAgg22
 z37:=k4
 v37:=SL
 t46:=K1
 a46:=db
 z46:=Us
 v46:=RP
 t51:=E3
 a51:=cB
 z51:=y3
 v51:=S9
 t70:=Tryz.underlying191
 a70:=Tryz.isAgg191
 z70:=Tryz.sizeOf191
 v70:=Tryz.zeroValue191
 t72:=Tryz.underlying193
 a72:=Tryz.isAgg193
 z72:=Tryz.sizeOf193
 v72:=Tryz.zeroValue193
 t75:=Tryz.underlying196
 a75:=Tryz.isAgg196
 z75:=Tryz.sizeOf196
 v75:=Tryz.zeroValue196
 t76:=Tryz.underlying197
 a76:=Tryz.isAgg197
 z76:=Tryz.sizeOf197
 v76:=Tryz.zeroValue197
 t105:=Tryz.underlying201
 a105:=Tryz.isAgg201
 z105:=Tryz.sizeOf201
 v105:=Tryz.zeroValue201
 t119:=Tryz.underlying280
 a119:=Tryz.isAgg280
 z119:=Tryz.sizeOf280
 t127:=Tryz.underlying250
 a127:=Tryz.isAgg250
 z127:=Tryz.sizeOf250
 v127:=Tryz.zeroValue250
 t138:=Tryz.underlying282
 a138:=Tryz.isAgg282
 z138:=Tryz.sizeOf282
 v138:=Tryz.zeroValue282
 t139:=Tryz.underlying283
 a139:=Tryz.isAgg283
 z139:=Tryz.sizeOf283
 v139:=Tryz.zeroValue283
 t146:=Tryz.underlying229
 a146:=Tryz.isAgg229
 z146:=Tryz.sizeOf229
 v146:=Tryz.zeroValue229
 t164:=Tryz.underlying277
 a164:=Tryz.isAgg277
 z164:=Tryz.sizeOf277
 v164:=Tryz.zeroValue277
 g1:=by kernel_rfl
 g3:=by kernel_rfl
 g4:=by kernel_rfl }
theorem uY:Builder.Extra prog oW where
 sizeBuilder:=by kernel_rfl
 liesBuilder:=by kernel_rfl
 t5:=Po
 a5:=R'
 z5:=QY
 v5:=M1
 infoByte:=by kernel_rfl
 cellsByte:=by kernel_rfl
 sizeByte:=by kernel_rfl
 neB5:=by decide
theorem Z4:Builder.Extra prog qu where
 sizeBuilder:=by kernel_rfl
 liesBuilder:=by kernel_rfl
 t5:=Po
 a5:=R'
 z5:=QY
 v5:=M1
 infoByte:=by kernel_rfl
 cellsByte:=by kernel_rfl
 sizeByte:=by kernel_rfl
 neB5:=by decide
def Fy(a:Int):Prop:=-1000000000000000000<=a/\a<=1000000000000000000
theorem Bb(p:Int){q:Int}(h:q≠0):(p.tmod q).natAbs<q.natAbs:=by
 rw[Rq];exact Nat.mod_lt _ O
theorem Ba(p:Int){q:Int}(h:q≠0)(hq:Fy q):Fy (p.tmod q):=by
 have:=Bb p h;unfold Fy at *
 revert this
 generalize p.tmod q=r;intro this;omega
theorem kZ(a b:Int)(w:J)(ha:Fy a)(hb:Fy b):
 Calls prog 211 #[U a,U b] w λe w'=>e=atn (U (gI a b))/\F8 w w':=by
 go_in
 go_wp2
 go_loopw [0,1] (λx y wr=>∃p q:Int,x=U p/\y=U q/\e9 (gI p q=gI a b)/\e9 (Fy p)/\e9 (Fy q)/\F8 w wr) (λ_ y _=>(intOf y).natAbs)
 ·exact⟨a,b,rfl,rfl,I rfl,I ha,I hb,F8.refl _⟩
 obtain⟨p,q,rfl,rfl,Z,HP,K,hx⟩:=hrel;have⟨OD,Qo⟩:=HP.o;have⟨I6,JJ⟩:=K.o;by_cases G:q=0
 ·subst G;go_wp2
  all_goals
   go_ret;refine⟨au ?_,hx⟩;have:=Z.o;rw[uc]at this;omega
 have hqb:(q != 0)=true:=by simpa using G
 have hqb':(q == 0)=false:=by simpa using G
 have ht:=Bb p G;have HT:=I ht;have H:=I G;go_wp2
 go_quiet (fail)
 go_wp2
 go_roundw
 case rel=>exact⟨q,p.tmod q,rfl,by go_num,I (by rw[As];exact Z),K,I (Ba p H.o K),hx.trans ⟨_,rfl⟩⟩
 have h:=HT.o;rw[Rq]at h;simp[intOf,Rq];omega
theorem uK(a b:Int)(w:J)(K:Fy a)(hb:Fy b):
 Calls prog 255 #[U a,U b] w λe w'=>e=atn (U (gI a b))/\F8 w w':=by
 have H:=K;have R4:=hb;obtain⟨Wn,QQ⟩:=H;obtain⟨Gm,F0⟩:=R4;by_cases h1:a<0
 all_goals
  by_cases h2:b<0
  all_goals
   go_in
   go_wp2
   go_loop [0,1,5] (λx y z=>∃p q:Int,x=U p/\y=U q/\0<=p/\0<=q/\e9 (gI p q=gI a b)/\e9 (Fy p)/\e9 (Fy q)) (λ_ y _=>(intOf y).natAbs)
   case atStart =>
    first
     | exact⟨_,_,rfl,rfl,by omega,by omega,I rfl,I K,I hb⟩
     | exact⟨-a,_,by go_num,rfl,by omega,by omega,I (kI _ _),I ⟨by omega,by omega⟩,I hb⟩
     | exact⟨_,-b,rfl,by go_num,by omega,by omega,I (pL _ _),I K,I ⟨by omega,by omega⟩⟩
     | exact⟨-a,-b,by go_num,by go_num,by omega,by omega,I ((kI _ _).trans (pL _ _)),I ⟨by omega,by omega⟩,I ⟨by omega,by omega⟩⟩
   obtain⟨p,q,rfl,rfl,NJ,hq0,HG,HP,HQ⟩:=hrel;by_cases G:q=0
   ·subst G;go_wp2;go_ret;refine⟨au ?_,F8.refl _⟩;have:=HG.o;rw[uc]at this;omega
   have hqb':(q == 0)=false:=by simpa using G
   have NL:0<q:=O;refine Op (kn p NL) (ZG p G) G (u' (b:=q) NJ) λHT Tq HQ' HM=>?_;go_wp2
   go_round
   case rel=>exact⟨q,p % q,rfl,by go_num,by omega,Tq,I (by rw[<-HM.o,As];exact HG),HQ,I (by rw[<-HM.o];exact Ba p HQ'.o HQ)⟩
   have:=HT.o;have:=Tq.o;exact k9
abbrev Ge(x y:Int):atY:=.agg #[.int .i64 x,.int .i64 y]
abbrev Kg(r:(Int×Int)×Bool):atY:=.tuple #[.agg #[.int .i64 r.1.1,.int .i64 r.1.2],ato r.2]
theorem jg{a:Int}(h:Fy a):Fy (-a):=by unfold Fy at *;omega
theorem tm(n:Int){g:Int}(hg:1<=g)(hn:Fy n):Fy (n.tdiv g):=by
 have:=rT n g hg;unfold Fy at *
 revert this
 generalize n.tdiv g=r;intro this;omega
theorem bM{a:Int}(h:Fy a):IntKind.i64.wrap a=a/\wrap64 a=a:=by
 unfold Fy at h;have:wrap64 a=a:=by unfold wrap64;omega
 exact⟨by rw[j0];omega,this⟩
def WA(h:σ:=by
 have HX:=I (D4.alloc w (SH #[U x,U y] 80));cases h1:A8 y 1 1000000000
 ·have H1:=I h1;clear h1;(try unfold f9);go_in
  go_wp2_with rfl;refine(qq0 _ _ _ _).mono ?_;rw[H1.o];rintro e w1 ⟨rfl,rfl⟩;go_wp2;go_ret;exact⟨ag (by simp[A5,H1.o]),HX⟩
 ·have H1:=I h1;have hy:Fy y:=by simp only[A8,cM,cq]at h1;exact⟨by omega,by omega⟩
  clear h1;cases h2:A8 x (-1000000000) 1000000000
  ·have H2:=I h2;clear h2;(try unfold f9);go_in
   go_wp2_with rfl;refine(qq0 _ _ _ _).mono ?_;rw[H1.o];rintro e w1 ⟨rfl,rfl⟩;go_wp2_with rfl;refine(qq0 _ _ _ _).mono ?_;rw[H2.o];rintro e w1 ⟨rfl,rfl⟩;go_wp2;go_ret;exact⟨ag (by simp[A5,H2.o]),HX⟩
  have H2:=I h2;have hx:Fy x:=by simp only[A8,cM,cq]at h2;exact⟨by omega,by omega⟩
  clear h2;have HC:=I (qq1 x y (w.alloc (SH #[U x,U y] 80)) hx hy);(try unfold f9);go_in
  go_wp2_with rfl;refine(qq0 _ _ _ _).mono ?_;rw[H1.o];rintro e w1 ⟨rfl,rfl⟩;go_wp2_with rfl;refine(qq0 _ _ _ _).mono ?_;rw[H2.o];rintro e w1 ⟨rfl,rfl⟩;go_wp2_with rfl;refine HC.mono ?_;rintro e w1 ⟨rfl,hd⟩;go_wp2;go_ret;exact⟨ag Lg,HX.trans hd.ext⟩
 ):σ:=h
theorem cK(x y:Int)(w:J):
 f9 143 #[Ge x y] w (ato (A5 (x,y))):=by
 have qq0:=@av;have qq1:=@kZ;exact WA
theorem cL(x y:Int)(w:J):
 f9 253 #[Ge x y] w (ato (A5 (x,y))):=by
 have qq0:=@bj;have qq1:=@uK;exact WA
def Mm(h:σ:=by
 have⟨g,hg⟩:=j7 (gI n d);rw[<-hg]at MU Rz HC hq hq';have HG:=I hg;have NN:g<=1000000000000000000:=by obtain⟨_,_⟩:=hd;omega
 have Rc:¬g=0:=by omega
 have hgn:(-g == 0)=false:=by simp;omega
 obtain⟨Ht,Pc⟩:=hn;obtain⟨RA,VC⟩:=hd;have⟨q1,I6⟩:=j7 (-(n.tdiv g));have⟨q2,JJ⟩:=j7 (-(d.tdiv g));have HR:=I (show aN n d=Ik (q1,q2)by unfold aN;rw[f8 (by simp[h0,H1.o,H2.o]),i7 h3,<-HG.o,B1,B1,I6,JJ]);have⟨e1,e2⟩:=bM (jg hq);have⟨e3,e4⟩:=bM (jg hq');rw[<-I6]at e1 e2;rw[<-JJ]at e3 e4;have m1:(-n).tdiv g=q1:=by rw[XK,I6]
 have m2:(-d).tdiv g=q2:=by rw[XK,JJ]
 have m3:n.tdiv (-g)=q1:=by rw[B1,I6]
 have m4:d.tdiv (-g)=q2:=by rw[B1,JJ]
 have acS:=I6.symm;have Zm:=JJ.symm;clear hq hq' hg Rz I6 JJ;cases hv:A5 (q1,q2)
 all_goals
  (try unfold f9);go_in
  go_wp2_with rfl;refine(qq0 _ _ _ _).mono ?_;rw[H1.o];rintro e w1 ⟨rfl,rfl⟩;go_wp2_with rfl;refine(qq0 _ _ _ _).mono ?_;rw[H2.o];rintro e w1 ⟨rfl,rfl⟩;go_wp2_with rfl;refine HC.mono ?_;rintro e w1 ⟨rfl,hd⟩;have hB:w1.heap[w.heap.size]?=some (SH #[U 0,U 0] 80 (0,0)):=(hd.ext.block _ j9).trans (nE _ _);have HB:=I hB;have LT:=I (IO hB);have X1:=I (HX.trans hd.ext);clear hd hB;go_wp2
  go_region_law (fail)
  have X2:=I ((X1.trans (D4.alloc w1 (SH #[U q1,U q2] 80))).trans fl);have HV:=I (qq1 q1 q2 ((w1.alloc (SH #[U q1,U q2] 80)).drew));go_wp2_with rfl;refine HV.mono ?_;rw[hv];rintro e w2 ⟨rfl,hx⟩;have lt:=LT.o;have hB:w2.heap[w.heap.size]?=some (SH #[U 0,U 0] 80 (0,0)):=(hx.block _ t8).trans ((aU w1 (SH #[U q1,U q2] 80) _ lt).trans HB);have hC:w2.heap[w1.heap.size]?=some (SH #[U q1,U q2] 80 (0,0)):=(hx.block _ j9).trans (nE w1 (SH #[U q1,U q2] 80));have b0:w2.cell? (IM w.heap.size 0)=some (U 0):=by rw[UV _ _ _ _ _ _ hB];rfl
  have b1:w2.cell? (IM w.heap.size 1)=some (U 0):=by rw[UV _ _ _ _ _ _ hB];rfl
  have c0:w2.cell? (IM w1.heap.size 0)=some (U q1):=by rw[UV _ _ _ _ _ _ hC];rfl
  have c1:w2.cell? (IM w1.heap.size 1)=some (U q2):=by rw[UV _ _ _ _ _ _ hC];rfl
  have fb:∀o,w2.frozen? (IM w.heap.size o)=false:=λo=>fy _ _ _ _ _ hB
  have X3:=I (X2.trans hx);clear hx hB hC lt;go_wp2;rw[HR.o]
 ·refine GE (by simp[results,qq2,go_sem,b0,b1]<;>rfl) rfl ⟨by simp[Ik,hv],?_⟩;exact(X3.setCell j9 _).setCell j9 _
 ·refine GE (by simp[results,qq2,go_sem,b0,b1]<;>rfl) rfl ⟨by simp[Ik,hv],?_⟩;exact(X3.setCell j9 _).setCell j9 _
 ):σ:=h
def J6(h:σ:=by
 have HC:=I (qq0 n d (w.alloc (SH #[U 0,U 0] 80)) hn hd);have⟨g,hg⟩:=j7 (gI n d);rw[<-hg]at MU Rz HC hq hq';have HG:=I hg;have NN:g<=1000000000000000000:=by obtain⟨_,_⟩:=hd;omega
 have Rc:¬g=0:=by omega
 obtain⟨Ht,Pc⟩:=hn;obtain⟨RA,VC⟩:=hd;have⟨q1,I6⟩:=j7 (n.tdiv g);have⟨q2,JJ⟩:=j7 (d.tdiv g);have HR:=I (show aN n d=Ik (q1,q2)by unfold aN;rw[f8 (by simp[h0,H1.o,H2.o]),f8 h3,<-HG.o,I6,JJ]);have hm:d.tdiv g=d/g:=TA O;have⟨e1,e2⟩:=bM hq;have⟨e3,e4⟩:=bM hq';rw[<-I6]at e1 e2;rw[<-JJ]at e3 e4;have acS:=I6.symm;have Zm:=JJ.symm;have hq3':d/g=q2:=by rw[<-hm,JJ]
 clear hq hq' hg Rz I6 JJ hm;cases hv:A5 (q1,q2)
 all_goals
  (try unfold f9);go_in
  go_wp2_with rfl;refine(qq1 _ _ _ _).mono ?_;rw[H1.o];rintro e w1 ⟨rfl,rfl⟩;go_wp2_with rfl;refine(qq1 _ _ _ _).mono ?_;rw[H2.o];rintro e w1 ⟨rfl,rfl⟩;go_wp2_with rfl;refine HC.mono ?_;rintro e w1 ⟨rfl,hd⟩;have hB:w1.heap[w.heap.size]?=some (SH #[U 0,U 0] 80 (0,0)):=(hd.ext.block _ j9).trans (nE _ _);have HB:=I hB;have LT:=I (IO hB);have X1:=I (HX.trans hd.ext);clear hd hB;go_wp2
  go_region_law (fail)
  have X2:=I ((X1.trans (D4.alloc w1 (SH #[U q1,U q2] 80))).trans fl);have HV:=I (qq2 q1 q2 ((w1.alloc (SH #[U q1,U q2] 80)).drew));go_wp2_with rfl;refine HV.mono ?_;rw[hv];rintro e w2 ⟨rfl,hx⟩;have lt:=LT.o;have hB:w2.heap[w.heap.size]?=some (SH #[U 0,U 0] 80 (0,0)):=(hx.block _ t8).trans ((aU w1 (SH #[U q1,U q2] 80) _ lt).trans HB);have hC:w2.heap[w1.heap.size]?=some (SH #[U q1,U q2] 80 (0,0)):=(hx.block _ j9).trans (nE w1 (SH #[U q1,U q2] 80));have b0:w2.cell? (IM w.heap.size 0)=some (U 0):=by rw[UV _ _ _ _ _ _ hB];rfl
  have b1:w2.cell? (IM w.heap.size 1)=some (U 0):=by rw[UV _ _ _ _ _ _ hB];rfl
  have c0:w2.cell? (IM w1.heap.size 0)=some (U q1):=by rw[UV _ _ _ _ _ _ hC];rfl
  have c1:w2.cell? (IM w1.heap.size 1)=some (U q2):=by rw[UV _ _ _ _ _ _ hC];rfl
  have fb:∀o,w2.frozen? (IM w.heap.size o)=false:=λo=>fy _ _ _ _ _ hB
  have X3:=I (X2.trans hx);clear hx hB hC lt;go_wp2;rw[HR.o]
 ·refine GE (by simp[results,qq3,go_sem,b0,b1]<;>rfl) rfl ⟨by simp[Ik,hv],?_⟩;exact(X3.setCell j9 _).setCell j9 _
 ·refine GE (by simp[results,qq3,go_sem,b0,b1]<;>rfl) rfl ⟨by simp[Ik,hv],?_⟩;exact(X3.setCell j9 _).setCell j9 _
 ):σ:=h
def VY(h:σ:=by
 refine GE (by simp[results,qq0,go_sem]<;>rfl) rfl ⟨rfl,HX⟩
 ):σ:=h
theorem mF(n d:Int)(w:J):
 f9 200 #[U n,U d] w (Kg (aN n d)):=by
 have HX:=I (D4.alloc w (SH #[U 0,U 0] 80));by_cases h0:d=0
 ·have HR:=I (show aN n d=((0,0),false)by unfold aN;rw[i7 (.inl h0)]);subst h0;unfold f9;go_in
  go_wp2;rw[HR.o];have qq0:=@cy;exact VY
 have h0b:(d == 0)=false:=by simpa using h0
 cases H:A8 n (-1000000000000000000) 1000000000000000000
 ·have H1:=I H;have HR:=I (show aN n d=((0,0),false)by unfold aN;rw[i7 (.inr (.inl H1))]);unfold f9;go_in
  go_wp2_with rfl;refine ns.mono ?_;rw[H1.o];rintro e w1 ⟨rfl,rfl⟩;go_wp2;rw[HR.o];have qq0:=@cy;exact VY
 have H1:=I H;have hn:Fy n:=by simp only[A8,cM,cq]at H;exact⟨by omega,by omega⟩
 cases G:A8 d (-1000000000000000000) 1000000000000000000
 ·have H2:=I G;have HR:=I (show aN n d=((0,0),false)by unfold aN;rw[i7 (.inr (.inr H2))]);unfold f9;go_in
  go_wp2_with rfl;refine ns.mono ?_;rw[H1.o];rintro e w1 ⟨rfl,rfl⟩;go_wp2_with rfl;refine ns.mono ?_;rw[H2.o];rintro e w1 ⟨rfl,rfl⟩;go_wp2;rw[HR.o];have qq0:=@cy;exact VY
 have H2:=I G;have hd:Fy d:=by simp only[A8,cM,cq]at G;exact⟨by omega,by omega⟩
 have MU:=oO n h0;have Rz:=UX n h0;have hq:=tm n MU hn;have hq':=tm d MU hd;by_cases h3:d<0
 ·have HC:=I (kZ n d (w.alloc (SH #[U 0,U 0] 80)) hn hd);have qq0:=@av;have qq1:=@cK;have qq2:=@cy;exact Mm
 have qq0:=@kZ;have qq1:=@av;have qq2:=@cK;have qq3:=@cy;exact J6
theorem mK(n d:Int)(w:J):
 f9 177 #[U n,U d] w (Kg (aN n d)):=by
 have HX:=I (D4.alloc w (SH #[U 0,U 0] 80));by_cases h0:d=0
 ·have HR:=I (show aN n d=((0,0),false)by unfold aN;rw[i7 (.inl h0)]);subst h0;unfold f9;go_in
  go_wp2;rw[HR.o];have qq0:=@Vr;exact VY
 have h0b:(d == 0)=false:=by simpa using h0
 cases H:A8 n (-1000000000000000000) 1000000000000000000
 ·have H1:=I H;have HR:=I (show aN n d=((0,0),false)by unfold aN;rw[i7 (.inr (.inl H1))]);unfold f9;go_in
  go_wp2_with rfl;refine p9.mono ?_;rw[H1.o];rintro e w1 ⟨rfl,rfl⟩;go_wp2;rw[HR.o];have qq0:=@Vr;exact VY
 have H1:=I H;have hn:Fy n:=by simp only[A8,cM,cq]at H;exact⟨by omega,by omega⟩
 cases G:A8 d (-1000000000000000000) 1000000000000000000
 ·have H2:=I G;have HR:=I (show aN n d=((0,0),false)by unfold aN;rw[i7 (.inr (.inr H2))]);unfold f9;go_in
  go_wp2_with rfl;refine p9.mono ?_;rw[H1.o];rintro e w1 ⟨rfl,rfl⟩;go_wp2_with rfl;refine p9.mono ?_;rw[H2.o];rintro e w1 ⟨rfl,rfl⟩;go_wp2;rw[HR.o];have qq0:=@Vr;exact VY
 have H2:=I G;have hd:Fy d:=by simp only[A8,cM,cq]at G;exact⟨by omega,by omega⟩
 have MU:=oO n h0;have Rz:=UX n h0;have hq:=tm n MU hn;have hq':=tm d MU hd;by_cases h3:d<0
 ·have HC:=I (uK (-n) (-d) (w.alloc (SH #[U 0,U 0] 80)) (jg hn) (jg hd));rw[kI,pL]at HC;have qq0:=@bj;have qq1:=@cL;have qq2:=@Vr;exact Mm
 have qq0:=@uK;have qq1:=@bj;have qq2:=@cL;have qq3:=@Vr;exact J6
end
section
variable{w w':J}{a:o6}{n k cap' base:Nat}{l:o3}{v:atY}{L:List (List UInt8)}
structure i8(w:J)(a:o6)(n cap:Nat)(l:o3):Prop where
 hlen:l.length=n
 y7:n<=cap
 y8:cap<=9223372036854775807
 cell:∀k,k<n->∃b off,a=some (IM b off)/\∀k,k<n->w.cell? (IM b (off+k*2))=some (U (l[k]?.getD (0,0)).1)/\w.cell? (IM b (off+k*2+1))=some (U (l[k]?.getD (0,0)).2)
theorem i8.ath{w:J}{a:o6}{n cap:Nat}{l:o3}(h:i8 w a n cap l):n<=cap/\cap<=9223372036854775807:=⟨h.y7,h.y8⟩
theorem i8.ext{cap:Nat}(h:i8 w a n cap l)(hx:D4 w w'):i8 w' a n cap l :=
 ⟨h.hlen,h.y7,h.y8,λk G=>let⟨b,off,e,hc⟩:=h.cell k G;⟨b,off,e,λk G=>⟨hx.o9 (hc k G).1,hx.o9 (hc k G).2⟩⟩⟩
theorem i8.at{cap:Nat}(h:i8 w a n cap l)(G:k<n):
 ∃b off x y,a=some (IM b off)/\l[k]?.getD (0,0)=(x,y)/\w.cell? (IM b (off+k*2))=some (U x)/\w.cell? (IM b (off+k*2+1))=some (U y) :=
 let⟨b,off,e,hc⟩:=h.cell k G;⟨b,off,_,_,e,rfl,(hc k G).1,(hc k G).2⟩
theorem dO(h:k<Lp l):l.take (k+1)=l.take k++[l[k]?.getD (0,0)]:=by
 rw[tn h];simp[h]
def Np(h:σ:=by
 obtain⟨k,hk,rfl,Za,hx⟩:=hrel;have HT:=I Za;clear Za;by_cases hlt:k<n
 ·have h1:=h.ext hx.ext;have ZT:=h'.ext hx.ext;obtain⟨b,off,x,y,rfl,FI,FQ,IH⟩:=h1.at hlt;obtain⟨b',off',x',y',rfl,LO,ags,agr⟩:=ZT.at hlt;have LD:=I FI;have MO:=I LO;clear FI LO;by_cases hq:x=x'/\y=y'
  ·obtain⟨rfl,rfl⟩:=hq;go_wp2
   go_quiet (fail)
   go_wp2
   go_roundw
   case rel=>exact⟨k+1,by omega,by go_num,by rw[dO (l8 HL.o),dO (l8 M4.o),HT.o,LD.o,MO.o],hx.trans ⟨_,rfl⟩⟩
   simp[intOf];omega
  have HQ:=I hq;cases B0:(x == x')
  all_goals
   cases F7:(y == y')
  case neg.true.true=>exact absurd ⟨by simpa using B0,by simpa using F7⟩ hq
  all_goals
   clear hq;go_wp2
   go_quiet (fail)
   go_wp2;go_ret;refine⟨ag ?_,hx.trans ⟨_,rfl⟩⟩;symm;rw[P3];intro e;have:=LD.symm.trans ((IR (λl=>l[k]?.getD (0,0)) e).trans MO);simp only[sj]at this;exact HQ.o this
 ·go_wp2;go_ret;refine⟨ag ?_,hx⟩;symm;rw[cq];have:=HT.o
  rwa [aP (l8 HL.o),aP (l8 M4.o)]at this
 ):σ:=h
def V3(h:σ:=by
 have Ru:((n:Int) != (n':Int))=true:=by simp;omega
 have HN:=I hne;clear hne;go_in
 go_wp2;go_ret;refine⟨ag ?_,F8.refl _⟩;symm;rw[P3];intro e;exact HN.o K4
 ):σ:=h
def FU(h:σ:=by
 exact⟨0,ef _,rfl,rfl,F8.refl _⟩
 ):σ:=h
theorem wM{a':o6}{n' cap:Nat}{G:o3}(h:i8 w a n cap l)(h':i8 w a' n' cap' G):
 Calls prog 189 #[FB a n cap,FB a' n' cap'] w λe w'=>e=atn (ato (decide (l=G)))/\F8 w w':=by
 have⟨hn,hm⟩:=h.ath;have⟨hn',hm'⟩:=h'.ath;have HL:=I h.hlen;have M4:=I h'.hlen;by_cases hne:n=n'
 ·subst hne;go_in
  go_wp2
  go_loopw [5] (λi wr=>∃k:Nat,k<=n/\i=U k/\l.take k=G.take k/\F8 w wr) (λi _=>n-(intOf i).toNat)
  ·exact FU
  exact Np
 exact V3
theorem Bw{a':o6}{n' cap:Nat}{G:o3}(h:i8 w a n cap l)(h':i8 w a' n' cap' G):
 Calls prog 140 #[FB a n cap,FB a' n' cap'] w λe w'=>e=atn (ato (decide (l=G)))/\F8 w w':=by
 have⟨hn,hm⟩:=h.ath;have⟨hn',hm'⟩:=h'.ath;have HL:=I h.hlen;have M4:=I h'.hlen;by_cases hne:n=n'
 ·subst hne;go_in
  go_wp2
  go_loopw [13] (λi wr=>∃k:Nat,k<=n/\i=U k/\l.take k=G.take k/\F8 w wr) (λi _=>n-(intOf i).toNat)
  ·exact FU
  exact Np
 exact V3
theorem pJ:∀(l:o3) (k:Nat),k<Lp l->(l.flatMap λp=>[Value.int .i64 p.1,Value.int .i64 p.2])[k*2]?=some (U (l[k]?.getD (0,0)).1)/\(l.flatMap λp=>[Value.int .i64 p.1,Value.int .i64 p.2])[k*2+1]?=some (U (l[k]?.getD (0,0)).2)
 | [],k,h=>absurd h j9
 | p::l,0,_=>by simp
 | p::l,k+1,h=>by
   have:=pJ l k ZN;rw[show(k+1)*2=k*2+1+1 by omega]
   simpa using this
theorem qN:∀(l:o3) (k:Nat) (x y:Int),k<Lp l->((l.flatMap λp=>[Value.int .i64 p.1,Value.int .i64 p.2]).set (k*2) (U x)).set (k*2+1) (U y)=(l.set k (x,y)).flatMap λp=>[Value.int .i64 p.1,Value.int .i64 p.2]
 | [],k,_,_,h=>absurd h j9
 | p::l,0,_,_,_=>by simp
 | p::l,k+1,x,y,h=>by
   have:=qN l k x y ZN;rw[show(k+1)*2=k*2+1+1 by omega]
   simpa using this
theorem iz:∀l:o3,Lp (l.flatMap λp=>[Value.int .i64 p.1,Value.int .i64 p.2])=Lp l*2
 | []=>rfl
 | p::l=>by have:=iz l;simp at this⊢;omega
theorem Tryz.UF:(prog.info? 80).map (λi=>(i.zero,i.size,i.bytes))=some (some (.agg #[U 0,U 0]),2,16):=by kernel_rfl
def GW(l:o3):List atY:=l.flatMap λp=>[Value.int .i64 p.1,Value.int .i64 p.2]
theorem Aa(l G:o3):GW (l++G)=GW l++GW G:=by simp[GW]
theorem yG:∀(l:o3),∀u∈GW l,u.oneCell'=true
 | [],u,h=>by simp[GW]at h
 | p::l,u,h=>by
   simp only[GW,Rv,Pm,OI,R5,QJ]at h
   rcases h with(rfl|rfl)|h
   ·rfl
   ·rfl
   exact yG l u h
def ZM(w:J)(base:Nat)(v:atY)(l:o3):Prop:=w.ownsRow base 80 2 v (Lp l) (GW l)
theorem ZM.form(h:ZM w base v l):∃a cap,v=FB a (Lp l) cap/\Lp l<=cap/\cap<=9223372036854775807:=by
 exact Xk
theorem ZM.var(h:ZM w base v l):∃a n cap,v=FB a n cap/\e9 (Lp l=n):=by
 obtain⟨a,cap,e,_⟩:=h.form;exact⟨a,_,cap,e,rfl⟩
theorem ZM.rats{cap:Nat}(h:ZM w base (FB a n cap) l):i8 w a n cap l:=by
 rcases h.2 with⟨he,h0⟩|⟨g,cap',cur,he,_,hg,h1,Z,hs,K⟩
 ·exact dy
 simp only[mn]at he;obtain⟨rfl,rfl,rfl⟩:=he;refine⟨rfl,h1,by simpa[maxLen]using Z,λk hk=>⟨g,0,rfl,λk hk=>?_⟩⟩;rw[fs,UV w g _ cur _ (0,0) hg,UV w g _ cur _ (0,0) hg];have⟨H,G⟩:=pJ l k hk;change(GW l)[k*2]?=_ at H;change(GW l)[k*2+1]?=_ at G;rw[<-K,Ro,i7 O]at H G;exact⟨by simpa using H,by simpa using G⟩
theorem ZM.lt(h:ZM w base v l):∀k,v.ownBlock=some k->base<=k/\k<w.heap.size:=VW h
theorem ZM.keep(h:ZM w base v l)(hk:∀k,v.ownBlock=some k->w'.heap[k]?=w.heap[k]?):ZM w' base v l:=by
 exact Td
theorem ZM.ext(h:ZM w base v l)(hx:D4 w w'):ZM w' base v l:=h.keep λk G=>hx.block k (h.lt k G).2
theorem ZM.on(h:ZM w base v l):On base w (λW=>ZM W base v l):=λw2 H=>h.keep λk G=>H k (h.lt k G).1 (h.lt k G).2
theorem ZM.mono{base':Nat}(h:ZM w base v l)(hb:base'<=base):ZM w base' v l:=by
 exact Sm
theorem ZM.nil(w:J)(base:Nat):ZM w base d9 []:=T9 w base _ 2
theorem og{w:J}{base:Nat}:ZM w base d9 []:=ZM.nil w base
section
variable{P:Program}{w:J}{ops:Array Oper}{rest:List Oper}{o:Oper}{a:Act}{Q:Exit->Act->J->Prop}
theorem dw{K:Act->J->Prop}(s x:Operand)(ho:o.op=.call { callee:=.builtin .append,args:=#[s,x],argTypes:=#[32,32] })
 (base:Nat) (v:atY) (l:o3) (hs:a.eval s=v) (FW:ZM w base v l) (ao:o6) (m c:Nat) (G:o3) (hx:a.eval x=FB ao m c) (Jm:i8 w ao m c G) (hb:Lp l+m<=1099511627776) (Z:base<=w.heap.size)
 (h:∀v' w',ZM w' base v' (l++G)->w.grownBy w' v.ownBlock->Jv w v v'->K (a.put o.dst v') w'):o.wp prog a w K Q:=by
 have⟨i,hi,Hl,Mh,KZ⟩:=Q0 Tryz.UF;cases ao with
 | none =>
   have hm:m=0:=by
    exact V7
   subst hm;have hl:G=[]:=Md Jm.hlen;subst hl;refine ij w s x 32 ho base 80 i 2 K7 hi v (Lp l) _ hs FW c hx ?_;exact h v w (by simpa using FW) (UH _ _) (Jv.refl _ _)
 | some ad =>
   refine fO w s x 32 ho base 80 i (.agg #[U 0,U 0]) 2 16 K7 hi Hl Mh KZ rfl FS v (Lp l) (GW l) hs FW ad m c (GW G) hx (by have:=iz G;have:=Jm.hlen;unfold GW;omega) ?_ (yG G) p8 O Z ?_
   ·intro j u H;have Hn:j<Lp G*2:=by
     have:=(Ls.1 H).1;have h2:=iz G;unfold GW at this;omega
    have hml:=Jm.hlen;have⟨b,off,e,hc⟩:=Jm.cell (j/2) O;simp only[Pi]at e;subst e;have⟨c1,c2⟩:=hc (j/2) O;have⟨q1,q2⟩:=pJ G (j/2) O;change(GW G)[j/2*2]?=_ at q1;change(GW G)[j/2*2+1]?=_ at q2;have hj:j=j/2*2∨j=j/2*2+1:=O
    have ha:∀k,((IM b off):Addr).add k=(IM b (off+k)):=λk=>by unfold Addr.add;split<;>simp_all
    rw[ha];rcases hj with hj|hj
    ·rw[hj]at H⊢;rw[q1]at H;rw[c1,<-H]
    rw[hj]at H⊢;rw[q2]at H;rw[<-Nat.add_assoc,c2,<-H]
   intro v' w' h1 h2 h3;refine h v' w' ?_ h2 h3;unfold ZM;rw[ar,Jm.hlen,Aa];exact h1
theorem cH(PK:o.guard=none)(s x:Operand)(ho:o.op=.call { callee:=.builtin .append,args:=#[s,x],argTypes:=#[32,32] })
 (base:Nat) (v:atY) (l:o3) (hs:a.eval s=v) (FW:ZM w base v l) (ao:o6) (m c:Nat) (K:o3) (hx:a.eval x=FB ao m c) (Jm:i8 w ao m c K) (hb:Lp l+m<=1099511627776) (G:base<=w.heap.size)
 (h:∀H w',ZM w' base H (l++K)->w.grownBy w' v.ownBlock->Jv w v H->wpList prog ops Q rest (a.put o.dst H) w'):wpList prog ops Q (o::rest) a w :=
 Vi PK λ_ Z=>dw s x ho base v l hs FW ao m c K hx Jm hb G λH w' h1 h2 h3=>Z _ _ (h H w' h1 h2 h3)
end
theorem ZM.made(w:J)(base:Nat)(hb:base<=w.heap.size):ZM (w.alloc (SH #[] 80)) base (GT w 0 0) [] :=
 nr w #[] 0 hb O rfl
theorem i8.one(w:J)(x y:Int)(t:TypeId):i8 (w.alloc (SH #[U x,U y] t)) (some (IM w 0)) 1 1 [(x,y)] :=
 ⟨rfl,m9 _,by omega,λk G=>⟨_,0,rfl,λk G=>by
  obtain rfl:k=0:=O
  simp⟩⟩
theorem i8.one'(w:J)(x y:Int)(t:TypeId)(n:Nat)(G:n=w.heap.size):i8 (w.alloc (SH #[U x,U y] t)) (some (IM n 0)) 1 1 [(x,y)]:=by
 subst G;exact i8.one w x y t
theorem z6{w:J}{x y:Int}{t:TypeId}{n:Nat}(G:n=w.heap.size):i8 (w.alloc (SH #[U x,U y] t)) (some (IM n 0)) 1 1 [(x,y)]:=i8.one' w x y t n G
section
variable{ops:Array Oper}{rest:List Oper}{o:Oper}{a:Act}{Q:Exit->Act->J->Prop}
theorem Qt{W wr:J}{b:o6}{n q base g:Nat}{l:o3}{s xo:Operand}{t:TypeId}(x y:Int)(HO:e9 (ZM wr base (FB b n q) l))(HX:e9 (D4 W wr))(hb:Lp l+1<=1099511627776)
 (h:∀(a':o6) (n' c':Nat) (w':J),e9 (Lp (l++[(x,y)])=n')->e9 (D4 W w')->e9 (ZM w' base (FB a' n' c') (l++[(x,y)]))->wpList prog ops Q rest (a.put o.dst (FB a' n' c')) w')
 (G:o.guard=none:=by exact rfl) (ho:o.op=.call { callee:=.builtin .append,args:=#[s,xo],argTypes:=#[32,32] }:=by exact rfl)
 (hs:a.eval s=FB b n q:=by exact rfl) (hx:a.eval xo=GT g 1 1:=by exact rfl) (hg:g=wr.heap.size:=by simp) (hW:W.heap.size<=base:=by first|exact m9 _|omega|(simp<;>omega)) (hB:base<=wr.heap.size+1:=by first|omega|(simp<;>omega)) :
 wpList prog ops Q (o::rest) a (wr.alloc (SH #[U x,U y] t)):=by
 subst hg;refine cH G s xo ho base _ l hs (HO.ext ZL) _ 1 _ [(x,y)] hx (i8.one _ _ _ _) hb t8 λv' w' ho hg _=>?_;exact Vp
end
theorem ZM.set{g cap:Nat}(h:ZM w base (GT g n cap) l)(H:k<Lp l)(x y:Int):
 ZM ((w.setCell (IM g (k*2)) (U x)).setCell (IM g (k*2+1)) (U y)) base (GT g n cap) (l.set k (x,y)):=by
 obtain⟨a',c',G,_⟩:=ZM.form h;simp only[mn]at G;obtain⟨_,rfl,_⟩:=G;have Z:=(W6 h (k*2) (U x)).1;have K:=(W6 Z (k*2+1) (U y)).1;unfold ZM;rw[km];have e:=qN l k x y H;change _=GW (l.set k (x,y))at e;rw[<-e];exact K
theorem ZM.block{cap:Nat}(h:ZM w base (FB a n cap) l)(hk:k<n):∃g,a=some (IM g 0)/\base<=g/\(∀j,w.frozen? (IM g j)=false)/\g<w.heap.size:=by
 exact TQ
def Mw(h:σ:=by
 have hsx:(bs (Lib.itoa x)).size<=21:=by rw[aX];exact WZ x O O
 have hsy:(bs (Lib.itoa y)).size<=21:=by rw[aX];exact WZ y O O
 clear hb;by_cases h1:y=1
 ·subst h1;have HR:=I (show FE (x,1)=Lib.itoa x by unfold FE;rw[hv];rfl);clear hv;have G0:=I (show(w.alloc (SH #[U x,U 1] 80)).cell? (IM w.heap.size 0)=some (U x)by simp);have G1:=I (show(w.alloc (SH #[U x,U 1] 80)).cell? (IM w.heap.size 1)=some (U 1)by simp);(try unfold f9);go_in
  go_wp2_with rfl;refine(HC _).mono ?_;rintro e w1 ⟨rfl,hx⟩;have X1:=I (HX.trans hx);have g0:=hx.o9 G0.o;have g1:=hx.o9 G1.o;clear hx;go_wp2_with rfl;refine(HIx _ X1).mono ?_;rintro e w2 ⟨rfl,hx⟩;have X2:=I (X1.trans hx);clear hx g0 g1;go_wp2;go_ret;exact⟨cu (by rw[HR.o]),X2⟩
 ·have HR:=I (show FE (x,y)=Lib.itoa x++([47]++Lib.itoa y)by unfold FE;rw[hv,i7 rfl,f8 h1]);have hne:(y == 1)=false:=by simp[h1]
  clear hv;have G0:=I (show(w.alloc (SH #[U x,U y] 80)).cell? (IM w.heap.size 0)=some (U x)by simp);have G1:=I (show(w.alloc (SH #[U x,U y] 80)).cell? (IM w.heap.size 1)=some (U y)by simp);have⟨tx,Nc⟩:=j7 (bs (Lib.itoa x));have⟨ty,hty⟩:=j7 (bs (Lib.itoa y));have HJ:=I (show tx++{ data:=#[47] }++ty=bs (FE (x,y))by
   rw[HR.o,Nc,hty];show bs _++bs [47]++bs _=_;rw[cI,cI,vl])
  rw[<-Nc]at HIx hsx;rw[<-hty]at HIy hsy;clear Nc hty h1;(try unfold f9);go_in
  go_wp2_with rfl;refine(HC _).mono ?_;rintro e w1 ⟨rfl,hx⟩;have X1:=I (HX.trans hx);have g0:=hx.o9 G0.o;have g1:=hx.o9 G1.o;clear hx;go_wp2_with rfl;have Gm:¬9223372036854775807<tx.size+1:=by omega
  have F0:¬9223372036854775807<tx.size+1+ty.size:=by omega
  have r7:D4 w1 w1.drew:=D4.drew w1;have Fu:=r7;have r8:=I (λ(w':J) (h:D4 w1 w')=>(an (h.o9 g0) (an (h.o9 g1) h)));go_wp2_with rfl
  go_region_held3 (λw'=>w'.cell? (IM w.heap.size 0)=some (U x)/\w'.cell? (IM w.heap.size 1)=some (U y)/\D4 w1 w')
   (with_reducible exact r8.o _ r7)
   (first
     | ((with_reducible refine(HIx.o _ (X1.o.trans BB)).mono ?_)
        rintro e w3 ⟨rfl,D3⟩;have r7:D4 w1 w3:=r7.trans D3;have Ra:=r7.size)
     | ((with_reducible refine(HIy.o _ (X1.o.trans BB)).mono ?_)
        rintro e w4 ⟨rfl,E7⟩;have r7:D4 w1 w4:=r7.trans E7;have UL:=r7.size))
  clear r8 Fu;go_wp2;go_ret;exact⟨cu HJ.o,X1.trans r7⟩
 ):σ:=h
def Ur(h:σ:=by
 go_wp2;go_ret;exact⟨qq0 (by rw[HR.o];rfl),X1⟩
 ):σ:=h
theorem jy {w: J}(x y : Int)(ht : tIw w) :
 f9 69 #[Ge x y] w (atr (bs (FE (x,y)))):=by
 have HX:=I (D4.alloc w (SH #[.int .i64 x,.int .i64 y] 80));have HT:=I ht;clear ht;have HC:=I (λw=>cK x y w);cases hv:A5 (x,y)
 ·rw[hv]at HC;have HR:=I (show FE (x,y)=[]by unfold FE;rw[hv];rfl);clear hv;(try unfold f9);go_in
  go_wp2_with rfl;refine i6 (HC _) λw1 hx=>?_;have X1:=I (HX.trans hx);clear hx;have qq0:=@cu;exact Ur
 rw[hv]at HC;have hb:(1<=y/\y<=1000000000)/\(-1000000000<=x/\x<=1000000000):=by
  have:=hv;simp only[A5,A8,cM,cq]at this;omega
 refine Fn hb (λ(w':J) (hx:D4 w w')=>kX (w:=w') x O O (dP HT.o hx)) (λ(w':J) (hx:D4 w w')=>kX (w:=w') y O O (dP HT.o hx)) λHB HIx HIy=>?_;exact Mw
theorem mv(x y:Int):
 f9 168 #[Ge x y] w (atr (bs (FE (x,y)))):=by
 have HX:=I (D4.alloc w (SH #[.int .i64 x,.int .i64 y] 80));have HC:=I (λw=>cL x y w);cases hv:A5 (x,y)
 ·rw[hv]at HC;have HR:=I (show FE (x,y)=[]by unfold FE;rw[hv];rfl);clear hv;(try unfold f9);go_in
  go_wp2_with rfl;refine i6 (HC _) λw1 hx=>?_;have X1:=I (HX.trans hx);clear hx;have qq0:=@cu;exact Ur
 rw[hv]at HC;have hb:(1<=y/\y<=1000000000)/\(-1000000000<=x/\x<=1000000000):=by
  have:=hv;simp only[A5,A8,cM,cq]at this;omega
 refine Fn hb (λ(w':J) (hx:D4 w w')=>iX (w:=w') x O O) (λ(w':J) (hx:D4 w w')=>iX (w:=w') y O O) λHB HIx HIy=>?_;exact Mw
theorem Z'(l:List UInt8):Lib.strCells (bs l)=RH.all l:=by
 unfold Lib.strCells kf.all;show(bs l).data.toList.map _=l.flatMap λc=>[Value.int .u8 (c.toNat:Int)];rw[<-List.map_eq_flatMap];rfl
theorem mP{P:Program}{w:J}{ops:Array Oper}{rest:List Oper}{o:Oper}{a:Act}{Q:Exit->Act->J->Prop}{t ts tu:TypeId}(Ln:(P.info? t).map (λi=>(i.zero,i.size,i.bytes))=some (some (.int .u8 0),1,1))(ht:P.underlying ts=some (.slice t))(hu:P.underlying tu=some .string)(PK:o.guard=none)
 (s x:Operand) (ho:o.op=.call { callee:=.builtin .append,args:=#[s,x],argTypes:=#[ts,tu] })
 (base:Nat) (v:atY) (l:List UInt8) (hs:a.eval s=v) (FW:A9 RH t w base v l) (H:List UInt8) (hx:a.eval x=atr (bs H)) (hb:Lp l+Lp H<=1099511627776) (G:base<=w.heap.size)
 (h:∀K w',A9 RH t w' base K (l++H)->w.grownBy w' v.ownBlock->wpList P ops Q rest (a.put o.dst K) w'):wpList P ops Q (o::rest) a w:=by
 obtain⟨i,hi,Hl,Mh,KZ⟩:∃i,P.info? t=some i/\i.zero=some (.int .u8 0)/\i.size=1/\i.bytes=1:=by
  cases Z:P.info? t with
  | none=>rw[Z]at Ln;simp at Ln
  | some i=>rw[Z]at Ln;simp at Ln;exact⟨i,rfl,Ln.1,Ln.2.1,Ln.2.2⟩
 refine Lib.wpList_append_own_string w PK s x ts tu ho base t i ht hu hi Hl Mh KZ v (Lp l) (RH.all l) hs FW (bs H) hx (by rw[aX];simp[maxLen];omega) (by rw[aX];omega) G λK w' h1 h2 _=>h K w' ?_ h2
 unfold A9;rw[ar,RH.all_append,<-Z' H,<-aX H];exact h1
theorem Bp{cap:Nat}{l:List UInt8}(h:A9 RH 5 w base (FB a n cap) l):(convert 22 9 (FB a n cap)).run prog w=.ok (atr (bs l)) w:=by
 have H:=h.JG.hlen;by_cases Z:n=0
 ·subst Z;obtain rfl:=Md H;cases a with
  | none =>
    rw[run_convert_bytes_string w 22 9 5 none 0 cap OZ Po Me];rfl
  | some ad=>exact UW (P:=prog) w 22 9 5 ad cap [] OZ Po Me (λj G=>absurd G (Nat.not_lt_zero _))
 obtain⟨b,off,x,rfl,_⟩:=h.JG.at (k:=0) O;have⟨b',off',e,hc⟩:=h.JG.cell 0 O;obtain⟨rfl,rfl⟩:=er e;rw[<-H];exact UW (P:=prog) w 22 9 5 (IM b off) cap l OZ Po Me (λj G=>by
  have K:=hc j _ 0 _ (In G) rfl;simp only[Addr.add_lit]
  simpa[RH]using K)
theorem mh{b o cap:Nat}{l:List (List UInt8)}(h:ID B6 w (some (IM b o)) n cap l){x:List UInt8}(H:l[k]?=some x):w.cell? (IM b (o+k))=some (atr (bs x)):=by
 have G:k<n:=by rw[<-h.hlen];exact(Ls.1 H).1
 have⟨b',o',e,hc⟩:=h.cell k G;obtain⟨rfl,rfl⟩:=er e
 simpa[B6]using hc k x 0 _ H rfl
theorem Tryz.infoByte:(prog.info? 5).map (λi=>(i.zero,i.size,i.bytes))=some (some (.int .u8 0),1,1):=by kernel_rfl
theorem Rc{cap:Nat}(h:A9 B6 9 w base (FB a n cap) L)(sep:List UInt8)(hn:n<=2000000)(hlen:Lp (Lib.join L sep)<=140737488355328):
 f9 146 #[FB a n cap,atr (bs sep)] w (atr (bs (Lib.join L sep))):=by
 have G:Lp L=n:=h.JG.hlen;by_cases h0:n=0
 ·subst h0;obtain rfl:=Md G;exact(Any.strings_Join_none yd uY a cap (bs sep) w).mono λe w' ⟨he,hw⟩=>⟨he,hw▸So⟩
 obtain⟨g,rfl,_,_,hg⟩:=h.block (k:=0) O;have hm:(L.map bs).map (·.data.toList)=L:=by
  rw[PX];exact List.map_id L
 have⟨b,off,e,hc⟩:=h.JG.cell 0 O;obtain⟨rfl,rfl⟩:=er e;have H:=Any.strings_Join yd uY g 0 cap (L.map bs) (bs sep) w (λj x K=>by
  rw[sr,O0]at K;obtain⟨y,Z,rfl⟩:=K
  simpa[B6]using hc j y 0 _ Z rfl) hg (by rw[b7];omega) (by rw[b7,G];exact h.JG.y7) (by rw[hm];exact hlen)
 rw[b7,G,hm]at H;exact H
theorem xI{cap:Nat}(h:A9 B6 9 w base (FB a n cap) L)(sep:List UInt8)(G:n<=2000000)(hlen:Lp (Lib.join L sep)<=140737488355328):
 f9 71 #[FB a n cap,atr (bs sep)] w (atr (bs (Lib.join L sep))):=by
 have H:=I (Rc h sep G hlen);unfold f9;go_in
 go_wp2_with rfl;refine i6 H λw1 hx=>?_;have K:=I hx;go_wp2;go_ret;exact⟨rfl,K⟩
theorem vq{sep:List UInt8}{x:List UInt8}(hx:L[k]?=some x):Lib.join (L.take (k+1)) sep=(Lib.join (L.take k) sep++if k=0 then [] else sep)++x:=by
 rw[fX hx];by_cases G:k=0
 ·subst G;rw[i7 rfl];simp[RB,Lib.join_nil]
 rw[f8 G,DL];intro e;have:=IR List.length e;have hk:=(Ls.1 hx).1;rw[jt,D1]at this;omega
theorem wJ(L:List (List UInt8))(sep:List UInt8):∀k,k<=Lp L->Lp (Lib.join (L.take k) sep)<=Lp (Lib.join L sep):=by
 intro k hk;obtain⟨d,hd⟩:∃d,k+d=Lp L:=⟨Lp L-k,by omega⟩
 induction d generalizing k with
 | zero =>
   rw[aP O];exact m9 _
 | succ d ih =>
   have G:=ih (k+1) O O;have H:k<Lp L:=O;rw[vq (In H),ar,ar]at G;omega
def Nv(h:σ:=by
 refine dk ?_;exact⟨k+1,n6,c6,a6,I (l8 HK.o),rfl,by go_num,Gp,Hg⟩
 ):σ:=h
def Wf(h:σ:=by
 exact⟨0,0,0,_,I O,rfl,rfl,HO,I ZL⟩
 ):σ:=h
theorem uG{cap:Nat}(h:ID B6 w a n cap L)(sep:List UInt8)(hn:n<=2000000)(hlen:Lp (Lib.join L sep)+Lp sep<=1099511627776):
 f9 22 #[FB a n cap,atr (bs sep)] w (atr (bs (Lib.join L sep))):=by
 have HL:=I h.hlen;have⟨hnc,Nx⟩:=h.ath;refine Fn (λ(w':J) (hx:D4 w w')=>h.ext hx) (A9.Ft RH 5 w w _ rfl (m9 _)) (λ(k:Nat) (hk:k<=n)=>(show(Lib.join (L.take k) sep).length+Lp sep<=1099511627776 by have:=wJ L sep k (by rw[HL.o];exact hk);omega)) λHS HO ad3=>?_;clear h hlen;unfold f9;go_in
 go_wp2
 go_loopg [5,6] n (λgk oo ii wr=>∃(k m cp:Nat) (b:o6),e9 (gk+k=n)/\oo=FB b m cp/\ii=U k/\e9 (A9 RH 5 wr w (FB b m cp) (Lib.join (L.take k) sep))/\e9 (D4 w wr))
 ·exact Wf
 obtain⟨k,m,cp,b,HK,rfl,rfl,HB,H⟩:=hrel;have Ry:=aE k;by_cases hlt:k<n
 ·have IG:=SW k n;obtain⟨lb,lo,x,rfl,K,OF⟩:=(HS _ H).at hlt;refine Op (λ(w':J) (hx:D4 w w')=>mh (HS _ hx) K) (vq (sep:=sep) K) (show(Lib.join (L.take (k+1)) sep).length<=1099511627776 by have:=ad3.o (k+1) O;omega) (ad3 k O) λQ5 HJ SX HJM=>?_;clear OF K;by_cases h0:k=0
  ·have MI:¬(0:Int)<(k:Int):=by omega
   have HJ2:=I (show Lib.join (L.take (k+1)) sep=Lib.join (L.take k) sep++x by rw[HJ.o,i7 h0,D0]);have G:=Q5.o _ H.o;clear h0;go_wp2_with (at_builtin;refine mP Tryz.infoByte OZ Me rfl _ _ rfl w (FB b m cp) (Lib.join (L.take k) sep) rfl HB.o x rfl ss H.size ?_;intro v6 w6 ho hg;obtain⟨a6,n6,c6,rfl,Jy⟩:=ho.var;rw[<-HJ2.o]at ho;have Gp:=I ho;have Hg:=I (aj H.o hg (λj Z=>(HB.lt j Z).1));clear ho hg)
   exact Nv
  have MI:=SW 0 k;have HJ2:=I (show Lib.join (L.take (k+1)) sep=Lib.join (L.take k) sep++sep++x by rw[HJ.o,f8 h0]);clear h0;have G:=Q5.o _ H.o
  go_wp2_with (first
   | (at_builtin;refine mP Tryz.infoByte OZ Me rfl _ _ rfl w (FB b m cp) (Lib.join (L.take k) sep) rfl HB.o sep rfl HJM.o H.size ?_;intro v5 w5 ho hg;obtain⟨a5,n5,c5,rfl,JU⟩:=ho.var;have Fj:=I ho;have Hh:=I (aj H.o hg (λj Z=>(HB.lt j Z).1));have hcell5:=Q5.o _ Hh.o;clear G;clear ho hg)
   | (at_builtin;refine mP Tryz.infoByte OZ Me rfl _ _ rfl w (FB a5 n5 c5) (Lib.join (L.take k) sep++sep) rfl Fj.o x rfl ss Hh.size ?_;intro v6 w6 ho hg;obtain⟨a6,n6,c6,rfl,Jy⟩:=ho.var;rw[<-HJ2.o]at ho;have Gp:=I ho;have Hg:=I (aj Hh.o hg (λj Z=>(Fj.lt j Z).1));clear ho hg))
  exact Nv
 have E':k=n:=l8 HK.o;have HCV:=I (Bp HB);have HE:e9 (L.take k=L):=aP S4;have IG:¬(k:Int)<(n:Int):=O;have hcv:=HCV.o;clear E';go_wp2;go_ret;exact⟨cu (by rw[HE.o]),H⟩
theorem yP{cap:Nat}(h:A9 B6 9 w base (FB a n cap) L)(sep:List UInt8)(G:n<=2000000)(hlen:Lp (Lib.join L sep)+Lp sep<=1099511627776):
 f9 22 #[FB a n cap,atr (bs sep)] w (atr (bs (Lib.join L sep))):=uG h.JG sep G hlen
end
section
variable{w W:J}{x y:Int}
theorem vV{l:o3}{k:Nat}(h:k<Lp l):(l.take k).map FE++[FE (l[k]?.getD (0,0))]=(l.take (k+1)).map FE:=by
 rw[In h,NE,tn h,rN];rfl
def f'(h:σ:=by
 have Hi:=I (ID.lit B6 9 w2 [tr] 1 rfl #[atr (bs tr)] rfl w2.heap.size rfl O);go_wp2_with (at_builtin;refine dt B6 Tryz.Gb rfl Jw FS rfl _ _ rfl w.heap.size (FB b m cp) ((l.take k).map FE) rfl (GL.ext ZL) _ 1 1 [tr] rfl Hi.o (l8 Hk.o) (by have:=X3.size;simp;omega) ?_;intro v6 w6 ho hg r';obtain⟨a6,n6,c6,rfl,Jy⟩:=ho.var;rw[HJ.o]at ho;have Gp:=I ho;have Hg:=I (aj (X3.trans ZL) hg (λj hj=>(GL.lt j hj).1));clear ho hg r')
 refine gy ?_;exact⟨k+1,n6,c6,a6,I (l8 HK.o),rfl,by go_num,Gp,Hg⟩
 ):σ:=h
theorem ui {w: J}{a: Option Addr}{n cap: Nat}{l: List (Int × Int)}(h : i8 w a n cap l)(hn : n <= 100000)(ht : tIw w) :
 f9 122 #[FB a n cap] w (atr (bs (Sg l))):=by
 have HT:=I ht;have HL:=I h.hlen;have⟨hnc,Nx⟩:=h.ath;refine Fn h (A9.Ft B6 9 w w _ rfl (m9 _)) (zA (l:=l)) λHS HO HV=>?_;unfold f9;go_in
 go_wp2
 go_loopg [3,9] n (λgk tt kk wr=>∃(k m cp:Nat) (b:o6),e9 (gk+k=n)/\tt=FB b m cp/\kk=U k/\e9 (A9 B6 9 wr w (FB b m cp) ((l.take k).map FE))/\e9 (D4 w wr))
 ·exact Wf
 rename Nat=>g1;rename J=>wr;obtain⟨k,m,cp,b,HK,rfl,rfl,HB,X2⟩:=hrel;have Ry:=aE k
 by_cases hlt:k<n
 ·have IG:=SW k n;obtain⟨lb,lo,x,y,rfl,FI,Fo,FQ⟩:=(HS.ext X2).at hlt;have HJ:=I (vV (l:=l) (k:=k) CI);rw[FI]at HJ;have HF:=I (λ(w':J) (hx:D4 w w')=>jy (w:=w') x y (dP HT.o hx));have Hk:=I (show((l.take k).map FE).length<=100000 by rw[b7,jt];omega);generalize FE (x,y)=tr at HJ HF;have⟨W1,Ol⟩:=j7 (wr.alloc (SH #[U x,U y] 80));have X1:=I (show D4 wr W1 by rw[Ol];exact ZL);have MI:W1.cell? (IM wr 0)=some (U x):=by rw[Ol];simp
  have Ij:W1.cell? (IM wr 1)=some (U y):=by rw[Ol];simp
  go_upto_region 5 with rfl;rw[<-Ol];clear Ol;go_wp2_with rfl;refine i6 (HF _ (X2.trans X1)) λw2 hx=>?_;have X3:=I ((X2.trans X1).trans hx);have GL:=I ((HB.ext X1).ext hx);exact f'
 have E':k=n:=l8 HK.o;have HE:=I (show(l.take k).map FE=l.map FE by rw[aP S4]);have IG:¬(k:Int)<(n:Int):=O;have WE:=I (show A9 B6 9 wr w (FB b m cp) (l.map FE)by rw[<-HE.o];exact HB);have HJ:=I (xI WE.o [32] Tr (by have:=HV.o;unfold Sg at this;rw[HL.o]at this;omega));go_wp2_with rfl;refine i6 HJ λw2 hx=>?_;exact Ni
theorem uF{a:o6}{n cap:Nat}{l:o3}(h:i8 w a n cap l)(hn:n<=100000):
 f9 184 #[FB a n cap] w (atr (bs (Sg l))):=by
 have HL:=I h.hlen;have⟨hnc,Nx⟩:=h.ath;refine Fn h (A9.Ft B6 9 w w _ rfl (m9 _)) (zA (l:=l)) λHS HO HV=>?_;unfold f9;go_in
 go_wp2
 go_loopg [3,4] n (λgk K Z wr=>∃(k m cp:Nat) (b:o6),e9 (gk+k=n)/\K=FB b m cp/\Z=U k/\e9 (A9 B6 9 wr w (FB b m cp) ((l.take k).map FE))/\e9 (D4 w wr))
 ·exact Wf
 rename Nat=>g1;rename J=>wr;obtain⟨k,m,cp,b,HK,rfl,rfl,H,X2⟩:=hrel;have Ry:=aE k
 by_cases hlt:k<n
 ·have IG:=SW k n;obtain⟨lb,lo,x,y,rfl,FI,Fo,FQ⟩:=(HS.ext X2).at hlt;have HJ:=I (vV (l:=l) (k:=k) CI);rw[FI]at HJ;have G:=I (λ(w':J)=>mv (w:=w') x y);have Hk:=I (show((l.take k).map FE).length<=100000 by rw[b7,jt];omega);generalize FE (x,y)=tr at HJ G;go_wp2_with rfl;refine i6 (G _) λw2 hx=>?_;have X3:=I (X2.trans hx);have GL:=I (H.ext hx);exact f'
 have E':k=n:=l8 HK.o;have HE:=I (show(l.take k).map FE=l.map FE by rw[aP S4]);have IG:¬(k:Int)<(n:Int):=O;have WE:=I (show A9 B6 9 wr w (FB b m cp) (l.map FE)by rw[<-HE.o];exact H);have HJ:=I (yP WE.o [32] Tr (by have:=HV.o;unfold Sg at this;rw[HL.o]at this;simp only[mg,D1];omega));go_wp2_with rfl;refine i6 HJ λw2 hx=>?_;exact Ni
def Tf(h:σ:=by
 simp only[Option.isNone_none]at heq;go_in
 go_wp2;go_ret;exact⟨_,rfl,by rw[hl];exact A9.nil _ _ w _,So⟩
 ):σ:=h
theorem Bn{a:o6}{n cap:Nat}{l:List (List UInt8)}(h:ID B6 w a n cap l)(hb:n<=1099511627776):
 Calls prog 136 #[FB a n cap] w λe w'=>∃v,e=atn v/\A9 B6 9 w' w v l/\D4 w w':=by
 have heq:∀w':J,(binOp .eql 25 (FB a n cap) d9).run prog w'=.ok (ato a.isNone) w':=λw'=>Pb w' _ _ a n cap 0 0 Jw
 have HL:=I h.hlen;cases a with
 | none =>
   have hl:l=[]:=by
    exact Y8
   exact Tf
 | some ad =>
   simp only[Tg]at heq;have H:=I (h.ext (D4.alloc w (SH #[] 9)));have G:=I (A9.Ft B6 9 w w _ rfl (m9 _));go_in
   go_wp2_with (at_builtin;refine dt B6 Tryz.Gb rfl Jw FS rfl _ _ rfl w _ _ rfl G.o _ n _ l rfl H.o T4 j9 ?_;intro v' w1 ho hg r');exact cm
def yz:List (List UInt8):=[[98,97,100],[112,111,105,110,116],[101,109,112,116,121],[108,105,109,105,116]]
theorem xd(c:Nat)(hc:c<4):yz[c]?=some (iu (c:Int)):=by
 rcases c with _|_|_|_|c
 all_goals first|rfl|omega
theorem BM(c:Nat)(hc:c<4):f9 63 #[U c] w (atr (bs (iu (c:Int)))):=by
 refine Fn (ID.lit B6 9 w yz 4 rfl #[atr ⟨#[98,97,100]⟩,atr ⟨#[112,111,105,110,116]⟩,atr ⟨#[101,109,112,116,121]⟩,atr ⟨#[108,105,109,105,116]⟩] rfl w rfl O) (show A8 (c:Int) 0 3=true by unfold A8;simp;omega) (xd c hc) λHi Jj Uz=>?_;have H:=I (Bn Hi.o O);have Fo:=aE c;have hc4:(c:Int)<4:=O;have⟨W1,Ol⟩:=j7 (w.alloc (SH #[atr ⟨#[98,97,100]⟩,atr ⟨#[112,111,105,110,116]⟩,atr ⟨#[101,109,112,116,121]⟩,atr ⟨#[108,105,109,105,116]⟩] 9));have X1:=I (show D4 w W1 by rw[Ol];exact ZL);rw[<-Ol]at H;unfold f9;go_in
 go_upto_region 2 with rfl;rw[<-Ol];clear Ol;go_wp2_with rfl;refine ns.mono ?_;rintro e w2 ⟨rfl,rfl⟩;have FA:=Jj.o;go_wp2_with rfl;refine yf H λw2 v ho hx=>?_;have Z:=I (X1.trans hx);obtain⟨a2,K,c2,rfl,Jb⟩:=ho.var;obtain rfl:K=4:=Jb.symm;obtain⟨lb,rfl,_⟩:=ho.block (k:=0) O;have G:=mh ho.JG Uz.o;rw[fs]at G;go_wp2;go_ret;exact⟨rfl,Z⟩
theorem CC(c:Nat)(hc:c<4):f9 106 #[U c] w (atr (bs (iu (c:Int)))):=by
 have K:=I (ID.lit B6 9 w yz 4 rfl #[atr ⟨#[98,97,100]⟩,atr ⟨#[112,111,105,110,116]⟩,atr ⟨#[101,109,112,116,121]⟩,atr ⟨#[108,105,109,105,116]⟩] rfl w rfl O);have H:=I (show A8 (c:Int) 0 3=true by unfold A8;simp;omega);have G:=mh K.o (xd c hc);rw[fs]at G;have Fo:=aE c;have hc4:(c:Int)<4:=O;unfold f9;go_in
 go_wp2_with rfl;refine p9.mono ?_;rintro e w2 ⟨rfl,rfl⟩;have FA:=H.o;go_wp2;go_ret;exact⟨rfl,ZL⟩
theorem TT{a b c:Obj}(hx:D4 (((w.alloc a).alloc b).alloc c) W):W.heap[w.heap.size]?=some a/\W.heap[w.heap.size+1]?=some b/\W.heap[w.heap.size+1+1]?=some c :=
 ⟨(hx.block _ t8).trans sn,
  (hx.block _ j9).trans (by rw[wZ j9];exact LE j9),(hx.block _ j9).trans (LE j9)⟩
theorem ML{a b:Obj}(hx:D4 ((w.alloc a).alloc b) W):W.heap[w.heap.size]?=some a/\W.heap[w.heap.size+1]?=some b :=
 ⟨(hx.block _ t8).trans Zx,(hx.block _ j9).trans (LE j9)⟩
theorem bO{b:Nat}{t:TypeId}(h:w.heap[b]?=some (SH #[U x,U y] t (0,0))):w.cell? (IM b 0)=some (U x)/\w.cell? (IM b 1)=some (U y)/\∀o,w.frozen? (IM b o)=false :=
 ⟨by rw[UV _ _ _ _ _ _ h];rfl,by rw[UV _ _ _ _ _ _ h];rfl,λo=>fy _ _ _ _ _ h⟩
abbrev RC(w:J)(b:Nat)(x y:Int):Prop:=w.cell? ⟨b,0,none⟩=some (.int .i64 x)/\w.cell? ⟨b,1,none⟩=some (.int .i64 y)/\∀o,w.frozen? ⟨b,o,none⟩=false
theorem em{u v p q:Int}{K H G:TypeId}(hx:D4 (((w.alloc (SH #[U x,U y] K)).alloc (SH #[U u,U v] H)).alloc (SH #[U p,U q] G)) W):RC W w x y/\RC W (w+1) u v/\RC W (w.heap.size+1+1) p q :=
 let⟨a,b,c⟩:=TT hx
 ⟨bO a,bO b,bO c⟩
theorem U1{u v:Int}{H G:TypeId}(hx:D4 ((w.alloc (SH #[U x,U y] H)).alloc (SH #[U u,U v] G)) W):RC W w x y/\RC W (w+1) u v :=
 let⟨a,b⟩:=ML hx
 ⟨bO a,bO b⟩
theorem ea(h:A5 (x,y)=true):-1000000000<=x/\x<=1000000000/\-1000000000<=y/\y<=1000000000:=by have:=aV h;simp only at this;omega
theorem et(h:-1000000000<=x/\x<=1000000000)(G:-1000000000<=y/\y<=1000000000):Fy (x*y):=Yq h.1 h.2 G.1 G.2
def W9(h:σ:=by
 have HX:=I (show D4 w (((w.alloc (SH #[U x,U y] 80)).alloc (SH #[U u,U v] 80)).alloc (SH #[U 0,U 0] 80))from(ZL.trans ZL).trans ZL);(try unfold f9);go_in
 go_wp2_with rfl;refine(qq0 x y _).mono ?_;rintro e w1 ⟨rfl,hx⟩;have⟨⟨a0,a1,fa⟩,⟨b0,b1,fb⟩,r0,r1,fr⟩:=em hx;have X1:=I hx;clear hx;cases ha:A5 (x,y)
 ·have HR:=I (show F6 (x,y) (u,v)=((0,0),false)by simp[F6,ha]);clear ha;go_wp2;rw[HR.o];refine GE TF rfl ⟨rfl,?_⟩;exact((HX.trans X1).setCell t8 _).setCell t8 _
 have HA:=I ha;clear ha;go_wp2_with rfl;refine(qq0 u v _).mono ?_;rintro e w2 ⟨rfl,hx⟩;clear a0 a1 fa b0 b1 fb r0 r1 fr;have X2:=I (X1.trans hx);have⟨⟨a0,a1,fa⟩,⟨b0,b1,fb⟩,r0,r1,fr⟩:=em X2.o;clear hx;cases hb:A5 (u,v)
 ·have HR:=I (show F6 (x,y) (u,v)=((0,0),false)by simp[F6,hb]);clear hb;go_wp2;rw[HR.o];refine GE TF rfl ⟨rfl,?_⟩;exact((HX.trans X2).setCell t8 _).setCell t8 _
 have⟨x1,x2,y1,y2⟩:=ea HA.o;have⟨u1,u2,v1,v2⟩:=ea hb;have q1:Fy (x*v):=et O O;have⟨e1,g1⟩:=bM q1;have q2:Fy (u*y):=et O O;have⟨e2,g2⟩:=bM q2;have q3:Fy (y*v):=et O O;have⟨e3,g3⟩:=bM q3;have e4:IntKind.i64.wrap (x*v+u*y)=x*v+u*y:=by rw[j0];unfold Fy at *;omega
 have g4:wrap64 (x*v+u*y)=x*v+u*y:=by unfold wrap64;unfold Fy at *;omega
 obtain⟨p,q,ok,Fw⟩:∃p q ok,aN (x*v+u*y) (y*v)=((p,q),ok):=⟨_,_,_,rfl⟩;have Gi:=I Fw;have HR:=I (show F6 (x,y) (u,v)=((p,q),ok)by simp[F6,HA.o,hb,Fw]);clear hb Fw;go_wp2_with rfl;refine(qq2 _ _ _).mono ?_;rw[Gi.o];rintro e w3 ⟨rfl,hx⟩;clear a0 a1 fa b0 b1 fb r0 r1 fr;have X3:=I (X2.trans hx);have⟨⟨a0,a1,fa⟩,⟨b0,b1,fb⟩,r0,r1,fr⟩:=em X3.o;clear hx;go_wp2;rw[HR.o];refine GE TF rfl ⟨rfl,?_⟩;exact((HX.trans X3).setCell t8 _).setCell t8 _
 ):σ:=h
theorem kW(x y u v:Int)(w:J):
 f9 135 #[Ge x y,Ge u v] w (Kg (F6 (x,y) (u,v))):=by
 have qq0:=@cK;have qq1:=@R4;have qq2:=@mF;exact W9
theorem jr(x y u v:Int)(w:J):
 f9 186 #[Ge x y,Ge u v] w (Kg (F6 (x,y) (u,v))):=by
 have qq0:=@cL;have qq1:=@MP;have qq2:=@mK;exact W9
def Qb(h:σ:=by
 clear ha;go_wp2;rw[HR.o];refine GE Zv rfl ⟨rfl,?_⟩;exact((HX.trans X1).setCell t8 _).setCell t8 _
 ):σ:=h
theorem ng(x y u v:Int)(w:J):
 f9 213 #[Ge x y,Ge u v] w (Kg (FD (x,y) (u,v))):=by
 have HX:e9 (D4 w (((w.alloc (SH #[U x,U y] 80)).alloc (SH #[U u,U v] 80)).alloc (SH #[U 0,U 0] 80))):=(ZL.trans ZL).trans ZL;unfold f9;go_in
 go_wp2_with rfl;refine i6 (cK x y _) λw1 hx=>?_;have⟨⟨a0,a1,Z⟩,⟨b0,b1,K⟩,r0,r1,H⟩:=em hx;have X1:=I hx;cases ha:A5 (x,y)
 ·have HR:=I (show FD (x,y) (u,v)=((0,0),false)by simp[FD,ha]);have qq0:=@E1;exact Qb
 have HA:=I ha;go_wp2_with rfl;refine i6 (cK u v _) λw2 hx=>?_;have G:=I (X1.trans hx);have⟨⟨a0,a1,Z⟩,⟨b0,b1,K⟩,r0,r1,H⟩:=em G.o;cases hb:A5 (u,v)
 ·have HR:=I (show FD (x,y) (u,v)=((0,0),false)by simp[FD,hb]);go_wp2;rw[HR.o];refine GE (by simp[results,E1,go_sem,r0,r1]<;>rfl) rfl ⟨rfl,?_⟩;exact((HX.trans G).setCell t8 _).setCell t8 _
 have⟨x1,x2,y1,y2⟩:=ea HA.o;have⟨u1,u2,v1,v2⟩:=ea hb;have q1:Fy (x*v):=et O O;have⟨e1,g1⟩:=bM q1;have q2:Fy (u*y):=et O O;have⟨e2,g2⟩:=bM q2;have q3:Fy (y*v):=et O O;have⟨e3,g3⟩:=bM q3;have e4:IntKind.i64.wrap (x*v-u*y)=x*v-u*y:=by rw[j0];unfold Fy at *;omega
 have g4:wrap64 (x*v-u*y)=x*v-u*y:=by unfold wrap64;unfold Fy at *;omega
 obtain⟨p,q,ok,Fw⟩:∃p q ok,aN (x*v-u*y) (y*v)=((p,q),ok):=⟨_,_,_,rfl⟩;have Gi:=I Fw;have HR:=I (show FD (x,y) (u,v)=((p,q),ok)by simp[FD,HA.o,hb,Fw]);go_wp2_with rfl;refine i6 (mF _ _ _) λw3 hx=>?_;rw[Gi.o];have X3:=I (G.trans hx);have⟨⟨a0,a1,Z⟩,⟨b0,b1,K⟩,r0,r1,H⟩:=em X3.o;go_wp2;rw[HR.o];refine GE (by simp[results,E1,go_sem,r0,r1]<;>rfl) rfl ⟨rfl,?_⟩;exact((HX.trans X3).setCell t8 _).setCell t8 _
def Pe(h:σ:=by
 have HX:=I (show D4 w (((w.alloc (SH #[U x,U y] 80)).alloc (SH #[U u,U v] 80)).alloc (SH #[U 0,U 0] 80))from(ZL.trans ZL).trans ZL);(try unfold f9);go_in
 go_wp2_with rfl;refine(qq0 x y _).mono ?_;rintro e w1 ⟨rfl,hx⟩;have⟨⟨a0,a1,fa⟩,⟨b0,b1,fb⟩,r0,r1,fr⟩:=em hx;have X1:=I hx;clear hx;cases ha:A5 (x,y)
 ·have HR:=I (show cn (x,y) (u,v)=((0,0),false)by simp[cn,ha]);clear ha;go_wp2;rw[HR.o];refine GE TF rfl ⟨rfl,?_⟩;exact((HX.trans X1).setCell t8 _).setCell t8 _
 have HA:=I ha;clear ha;go_wp2_with rfl;refine(qq0 u v _).mono ?_;rintro e w2 ⟨rfl,hx⟩;clear a0 a1 fa b0 b1 fb r0 r1 fr;have X2:=I (X1.trans hx);have⟨⟨a0,a1,fa⟩,⟨b0,b1,fb⟩,r0,r1,fr⟩:=em X2.o;clear hx;cases hb:A5 (u,v)
 ·have HR:=I (show cn (x,y) (u,v)=((0,0),false)by simp[cn,hb]);clear hb;go_wp2;rw[HR.o];refine GE TF rfl ⟨rfl,?_⟩;exact((HX.trans X2).setCell t8 _).setCell t8 _
 have⟨x1,x2,y1,y2⟩:=ea HA.o;have⟨u1,u2,v1,v2⟩:=ea hb;have q1:Fy (x*u):=et O O;have⟨e1,g1⟩:=bM q1;have q2:Fy (y*v):=et O O;have⟨e2,g2⟩:=bM q2;obtain⟨p,q,ok,Fw⟩:∃p q ok,aN (x*u) (y*v)=((p,q),ok):=⟨_,_,_,rfl⟩;have Gi:=I Fw;have HR:=I (show cn (x,y) (u,v)=((p,q),ok)by simp[cn,HA.o,hb,Fw]);clear hb Fw;go_wp2_with rfl;refine(qq2 _ _ _).mono ?_;rw[Gi.o];rintro e w3 ⟨rfl,hx⟩;clear a0 a1 fa b0 b1 fb r0 r1 fr;have X3:=I (X2.trans hx);have⟨⟨a0,a1,fa⟩,⟨b0,b1,fb⟩,r0,r1,fr⟩:=em X3.o;clear hx;go_wp2;rw[HR.o];refine GE TF rfl ⟨rfl,?_⟩;exact((HX.trans X3).setCell t8 _).setCell t8 _
 ):σ:=h
theorem xK(x y u v:Int)(w:J):
 f9 333 #[Ge x y,Ge u v] w (Kg (cn (x,y) (u,v))):=by
 have qq0:=@cK;have qq1:=@L8;have qq2:=@mF;exact Pe
theorem yR(x y u v:Int)(w:J):
 f9 347 #[Ge x y,Ge u v] w (Kg (cn (x,y) (u,v))):=by
 have qq0:=@cL;have qq1:=@Mj;have qq2:=@mK;exact Pe
def cx(h:σ:=by
 have HX:=I (show D4 w (((w.alloc (SH #[U x,U y] 80)).alloc (SH #[U u,U v] 80)).alloc (SH #[U 0,U 0] 80))from(ZL.trans ZL).trans ZL);(try unfold f9);go_in
 go_wp2_with rfl;refine(qq0 x y _).mono ?_;rintro e w1 ⟨rfl,hx⟩;have⟨⟨a0,a1,fa⟩,⟨b0,b1,fb⟩,r0,r1,fr⟩:=em hx;have X1:=I hx;clear hx;cases ha:A5 (x,y)
 ·have HR:=I (show Hu (x,y) (u,v)=((0,0),false)by simp[Hu,ha]);clear ha;go_wp2;rw[HR.o];refine GE TF rfl ⟨rfl,?_⟩;exact((HX.trans X1).setCell t8 _).setCell t8 _
 have HA:=I ha;clear ha;go_wp2_with rfl;refine(qq0 u v _).mono ?_;rintro e w2 ⟨rfl,hx⟩;clear a0 a1 fa b0 b1 fb r0 r1 fr;have X2:=I (X1.trans hx);have⟨⟨a0,a1,fa⟩,⟨b0,b1,fb⟩,r0,r1,fr⟩:=em X2.o;clear hx;cases hb:A5 (u,v)
 ·have HR:=I (show Hu (x,y) (u,v)=((0,0),false)by simp[Hu,hb]);clear hb;go_wp2;rw[HR.o];refine GE TF rfl ⟨rfl,?_⟩;exact((HX.trans X2).setCell t8 _).setCell t8 _
 have⟨x1,x2,y1,y2⟩:=ea HA.o;have⟨u1,u2,v1,v2⟩:=ea hb;have q1:Fy (x*v):=et O O;have⟨e1,g1⟩:=bM q1;have q2:Fy (y*u):=et O O;have⟨e2,g2⟩:=bM q2;obtain⟨p,q,ok,Fw⟩:∃p q ok,aN (x*v) (y*u)=((p,q),ok):=⟨_,_,_,rfl⟩;have Gi:=I Fw;have HR:=I (show Hu (x,y) (u,v)=((p,q),ok)by simp[Hu,HA.o,hb,Fw]);clear hb Fw;go_wp2_with rfl;refine(qq2 _ _ _).mono ?_;rw[Gi.o];rintro e w3 ⟨rfl,hx⟩;clear a0 a1 fa b0 b1 fb r0 r1 fr;have X3:=I (X2.trans hx);have⟨⟨a0,a1,fa⟩,⟨b0,b1,fb⟩,r0,r1,fr⟩:=em X3.o;clear hx;go_wp2;rw[HR.o];refine GE TF rfl ⟨rfl,?_⟩;exact((HX.trans X3).setCell t8 _).setCell t8 _
 ):σ:=h
theorem xE(x y u v:Int)(w:J):
 f9 354 #[Ge x y,Ge u v] w (Kg (Hu (x,y) (u,v))):=by
 have qq0:=@cK;have qq1:=@c9;have qq2:=@mF;exact cx
theorem yN(x y u v:Int)(w:J):
 f9 366 #[Ge x y,Ge u v] w (Kg (Hu (x,y) (u,v))):=by
 have qq0:=@cL;have qq1:=@z';have qq2:=@mK;exact cx
def Lm(h:σ:=by
 go_wp2
 go_quiet (fail)
 go_wp2;go_ret;exact⟨au (by rw[HR.o,f8 O,qq0 O]),HX.trans (X2.trans (F8.ext ⟨_,rfl⟩))⟩
 ):σ:=h
def L0(h:σ:=by
 have HR:=I (show D' (x,y) (u,v)=0 by simp[D',hb]);clear hb;go_wp2;go_ret;exact⟨au HR.symm,HX.trans X2.o⟩
 ):σ:=h
def Pw(h:σ:=by
 have HR:=I (show D' (x,y) (u,v)=0 by simp[D',ha]);clear ha;go_wp2;go_ret;exact⟨au HR.symm,HX.trans X1.o⟩
 ):σ:=h
def UR(h:σ:=by
 go_wp2
 go_quiet (fail)
 go_wp2;go_ret;exact⟨au (by rw[HR.o,i7 O]),HX.trans (X2.trans (qq0 ⟨_,rfl⟩))⟩
 ):σ:=h
theorem gQ(x y u v:Int)(w:J):
 f9 134 #[Ge x y,Ge u v] w (U (D' (x,y) (u,v))):=by
 have HX:e9 (D4 w ((w.alloc (SH #[U x,U y] 80)).alloc (SH #[U u,U v] 80))):=ZL.trans ZL;unfold f9;go_in
 go_wp2_with rfl;refine i6 (cK x y _) λw1 hx=>?_;have⟨⟨a0,a1,fa⟩,b0,b1,fb⟩:=U1 hx;have X1:=I hx;cases ha:A5 (x,y)
 ·exact Pw
 have Z:=I ha;go_wp2_with rfl;refine i6 (cK u v _) λw2 hx=>?_;have X2:=I (X1.trans hx);have⟨⟨a0,a1,fa⟩,b0,b1,fb⟩:=U1 X2.o;cases hb:A5 (u,v)
 ·exact L0
 have⟨x1,x2,y1,y2⟩:=ea Z.o;have⟨u1,u2,v1,v2⟩:=ea hb;have q1:Fy (x*v):=et O O;have q2:Fy (u*y):=et O O;have⟨e1,g1⟩:=bM q1;have⟨e2,g2⟩:=bM q2;have K:D' (x,y) (u,v)=(if x*v<u*y then -1 else if u*y<x*v then 1 else 0):=by simp[D',Z.o,hb]
 have⟨P,H⟩:=j7 (x*v);have⟨Q,G⟩:=j7 (u*y);rw[<-H,<-G]at K;rw[<-H]at e1 g1;rw[<-G]at e2 g2;have HR:=I K;have hP':=H.symm;have hQ':=G.symm;clear H G;by_cases h1:P<Q
 ·have qq0:=@F8.ext;exact UR
 by_cases h2:Q<P
 ·have qq0:=@i7;exact Lm
 have qq0:=@f8;exact Lm
theorem eM(x y u v:Int)(w:J):
 f9 266 #[Ge x y,Ge u v] w (U (D' (x,y) (u,v))):=by
 have HX:e9 (D4 w ((w.alloc (SH #[U x,U y] 80)).alloc (SH #[U u,U v] 80))):=ZL.trans ZL;unfold f9;go_in
 go_wp2_with rfl;refine i6 (cL x y _) λw1 hx=>?_;have⟨⟨a0,a1,fa⟩,b0,b1,fb⟩:=U1 hx;have X1:=I hx;cases ha:A5 (x,y)
 ·exact Pw
 have Z:=I ha;go_wp2_with rfl;refine i6 (cL u v _) λw2 hx=>?_;have X2:=I (X1.trans hx);have⟨⟨a0,a1,fa⟩,b0,b1,fb⟩:=U1 X2.o;cases hb:A5 (u,v)
 ·exact L0
 have⟨x1,x2,y1,y2⟩:=ea Z.o;have⟨u1,u2,v1,v2⟩:=ea hb;have q1:Fy (x*v):=et O O;have q2:Fy (u*y):=et O O;have⟨e1,g1⟩:=bM q1;have⟨e2,g2⟩:=bM q2;have K:D' (x,y) (u,v)=(if x*v<u*y then -1 else if u*y<x*v then 1 else 0):=by simp[D',Z.o,hb]
 have⟨P,H⟩:=j7 (x*v);have⟨Q,G⟩:=j7 (u*y);rw[<-H,<-G]at K;rw[<-H]at e1 g1;rw[<-G]at e2 g2;have HR:=I K;have hP':=H.symm;have hQ':=G.symm;clear H G;by_cases h1:P<Q
 ·go_wp2;go_ret;exact⟨au (by rw[HR.o,i7 O]),HX.trans X2.o⟩
 by_cases h2:Q<P
 ·go_wp2;go_ret;exact⟨au (by rw[HR.o,f8 O,i7 O]),HX.trans X2.o⟩
 go_wp2;go_ret;exact⟨au (by rw[HR.o,f8 O,f8 O]),HX.trans X2.o⟩
theorem rL(x y u v:Int)(w:J):
 f9 321 #[Ge x y,Ge u v] w (Kg (FD (x,y) (u,v))):=by
 have HX:e9 (D4 w (((w.alloc (SH #[U x,U y] 80)).alloc (SH #[U u,U v] 80)).alloc (SH #[U 0,U 0] 80))):=(ZL.trans ZL).trans ZL;cases hb:A5 (u,v)
 ·have G:=I hb;have HR:=I (show FD (x,y) (u,v)=((0,0),false)by simp[FD,hb]);unfold f9;go_in
  go_wp2_with rfl;refine i6 (cL u v _) λH ha=>?_;rw[G.o];have⟨⟨a0,a1,fa⟩,⟨b0,b1,fb⟩,r0,r1,K⟩:=em ha;have X1:=I ha;have qq0:=@results321;exact Qb
 have G:=I hb;have⟨u1,u2,v1,v2⟩:=ea hb;obtain⟨p,q,ok,Z⟩:∃p q ok,F6 (x,y) (-u,v)=((p,q),ok):=⟨_,_,_,rfl⟩;have Gi:=I Z;have HR:=I (show FD (x,y) (u,v)=((p,q),ok)by rw[<-zp];exact Z);unfold f9;go_in
 go_wp2_with rfl;refine i6 (cL u v _) λH ha=>?_;rw[G.o];have⟨⟨a0,a1,fa⟩,⟨b0,b1,fb⟩,r0,r1,K⟩:=em ha;have X1:=I ha;have Lc:=I (TT X1).2.2;have hl:=IO Lc.o;go_wp2_with rfl;refine i6 (jr _ _ _ _ _) λw3 ha=>?_;rw[Gi.o];have hz:D4 w (H.setCell (IM (w+1) 0) (U (-u))):=(HX.trans X1).setCell j9 _;have X3:=I (hz.trans ha);have bR:w3.heap[w.heap.size+1+1]?=some (SH #[U 0,U 0] 80 (0,0)):=(ha.block _ t8).trans ((If _ _ _ _ j9).trans Lc);have⟨r0,r1,K⟩:=bO bR;go_wp2;rw[HR.o];refine GE (by simp[results,results321,go_sem,r0,r1]<;>rfl) rfl ⟨rfl,?_⟩;exact(X3.setCell t8 _).setCell t8 _
section
variable{w0 w:J}{cb:Nat}{a':o6}{n' c':Nat}{C:o7}{base:Nat}{a:o6}{n cap:Nat}
end
theorem d6.JH(w:J)(x:Int)(t:TypeId)(n:Nat)(G:n=w.heap.size):d6 (w.alloc (SH #[U x] t)) (some (IM n 0)) 1 1 [x]:=by
 subst G;exact d6.one w x t
theorem G3{w:J}{x:Int}{t:TypeId}{n:Nat}(G:n=w.heap.size):d6 (w.alloc (SH #[U x] t)) (some (IM n 0)) 1 1 [x]:=d6.JH w x t n G
theorem y9.Ft(w:J)(base n:Nat)(G:n=w.heap.size)(hb:base<=w.heap.size):y9 (w.alloc (SH #[] 3)) base (GT n 0 0) []:=by
 subst G;exact y9.made w base hb
