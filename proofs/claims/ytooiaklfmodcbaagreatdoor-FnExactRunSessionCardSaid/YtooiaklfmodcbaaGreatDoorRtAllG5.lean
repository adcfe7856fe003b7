import Derived.Test.YtooiaklfmodcbaaGreatDoorRtAllG0
import Derived.StillTail
set_option linter.all false
set_option maxHeartbeats 6000000
set_option maxRecDepth 100000
namespace Go.Proofs.YtooiaklfmodcbaaGreatDoor
open Ending renaming returned->ar
open List renaming length->JL
open Obj renaming cells->QD
open Value renaming slice->GI,bool->bl,string->aE,pointer->aP
open Go.Proofs.Tryz Go.RowKit
variable{σ:Prop}
section
abbrev TX:=@And.intro
def TS{P:Program}{f:FuncId}{a:Array arQ}{w:J}{Q:Ending->J->Prop}{V:Type}{v:V->arQ}{E:V->J->Prop}{R:J->Prop}(h:Calls P f a w λe w'=>(∃x,e=.returned (v x)/\E x w')/\R w')(k:∀w' x,E x w'->R w'->Q (.returned (v x)) w'):Calls P f a w Q:=h.mono (λe w' ⟨⟨x,y,z⟩,r⟩=>y▸k w' x z r)
def mc{P:Program}{Q:Exit->Act->J->Prop}{ops:Array Oper}{H:Nat}{a:Act}{w E:J}{S:J->Prop}(c:b9 (∀w',C7 E w'->S w'))(k:C7 E w.drew)(h:S w.drew->wpAnyH P .any ops Q S ops.size (Array.replicate ops.size false) a w.drew)(m:P.follows .mixedOrders=true:=by kernel_rfl):(Code.region H ops true).wp P Q a w:=nE m (c.o _ k) h
def PP{P:Program}{f:FuncId}{a:Array arQ}{w:J}{Q:Ending->J->Prop}{V:Type}{v:V->arQ}{E:V->J->Prop}{R:J->Prop}(h:Calls P f a w λe w'=>(∃x,e=.returned (v x)/\E x w')/\R w')(k:∀w' x,E x w'->b9 (R w')->Q (.returned (v x)) w'):Calls P f a w Q:=h.mono (λe w' ⟨⟨x,y,z⟩,r⟩=>y▸k w' x z r)
def i7{P:Program}{f:FuncId}{a:Array arQ}{w:J}{Q:Ending->J->Prop}{v:arQ}{R:J->Prop}(h:Calls P f a w λe w'=>e=.returned v/\R w')(k:∀w',b9 (R w')->Q (.returned v) w'):Calls P f a w Q:=h.mono (λe w' ⟨y,r⟩=>y▸k w' r)
def Op{H E A2 A3 P:Prop}(a0:H)(a1:E)(Z:A2)(K:A3)(h:b9 H->b9 E->b9 A2->b9 A3->P):P:=h a0 a1 Z K
def ns{H E A2 A3 A4 P:Prop}(a0:H)(a1:E)(a2:A2)(Z:A3)(K:A4)(h:b9 H->b9 E->b9 A2->b9 A3->b9 A4->P):P:=h a0 a1 a2 Z K
structure p9(P:Prop):Prop where
 o:P
def TK{P Q:Prop}(k:p9 Q)(h:p9 Q->P:=by intro k;refine tk 11 ?_;refine tk 12 ?_;refine tk 13 ?_;exact k.1):P:=h k
def V8{P Q:Prop}(k:p9 Q)(h:p9 Q->P:=by intro k;refine tk 5 ?_;refine tk 6 ?_;refine tk 7 ?_;refine tk 8 ?_;refine tk 9 ?_;exact k.1):P:=h k
def TH(h:σ:=by simp[results,qq0,go_sem,r0,r1]<;>rfl):σ:=h
def wz(h:σ:=by rw[aZ _ _ _ j7];exact IO rfl):σ:=h
def p4(h:σ:=by intro h';rw[List.contains_eq_mem,nF]at hM;exact hM h'):σ:=h
def G1(h:σ:=by simp[results,results78,go_sem,r0,r1]<;>rfl):σ:=h
def er{P Q:Prop}(q:Q)(h:Q->P:=by intro q;go_roundg (gk-1);exact q;have:=HK.o;omega):P:=h q
variable{n i f g:Nat}{w w':J}{a a':Act}{listed l':Array Bool}{oi:Oper}{v x y:arQ}{fid:FuncId}{ca:Array arQ}{t:TypeId}{l:o3}
def sO(h:n<=1000000):JL (Lib.decDigits n)<=21:=by
 have:=Yv (n:Int) j0 j0
 rwa [O3]at this
def qm{n:Int}(h:-1000000<=n/\n<=1000000):JL (Lib.itoa n)<=21:=Yv n j0 j0
def jN(V:o3)(k:Nat):List UInt8:=if V[k]?.getD 0=0 then [] else bJ (k:Int)++([32]++(Lib.itoa (V[k]?.getD 0)++[10]))
def dz(V:o3)(m:Nat):List UInt8:=(List.range m).flatMap (jN V)
def gh(V:o3)(m:Nat):dz V (m+1)=dz V m++jN V m:=by
 unfold dz;rw[rN,zo];simp
def fp(p:Nat):List UInt8:=[112,108,97,121,101,114,115,32]++(Lib.decDigits p++[10])
def jO{V:o3}(E:∀k:Nat,-1000000<=V[k]?.getD 0/\V[k]?.getD 0<=1000000):∀m,JL (dz V m)<=40*m
 | 0=>by simp[dz]
 | m+1=>by
   rw[gh,SW];have h1:=jO E m;have h2:JL (jN V m)<=40:=by
    unfold jN;split
    ·simp
    have h3:=jr (m:Int);have h4:=qm (E m);simp only[SW,nR,Pb];omega
   omega
def ed(p:Nat)(V:o3):List UInt8:=if ak (p:Int) V=true then fp p++dz V (JL V) else []
def gd(h:σ:=by
 go_wp2;go_ret;exact⟨qq0 HF.symm,Ha.trans X1.o⟩
 ):σ:=h
def JX(h:σ:=by
 have Qw:n=k:=by omega
 subst Qw;go_wp2;go_ret;exact⟨cj (by rw[HF.o]),Ha.trans HX.o⟩
 ):σ:=h
def bd(h:σ:=by
 rw[htq,aY,SW];have h1:=Lz.o k;have h2:=Mf.o;unfold fp;simp only[SW,nR,Pb];omega
 ):σ:=h
def om{p:Nat}{a:l9}{cap:Nat}{V:o3}(h:d9 w a n cap V)(hV:∀k:Nat,-1000000<=V[k]?.getD 0/\V[k]?.getD 0<=1000000):
 f8 53 #[FS (p:Int) a n cap] w (aE (bs (ed p V))):=by
 have⟨W,E⟩:=e9 (w.alloc (QD #[U p,GI a n cap] 31));have Mk:C7 w W:=by rw[E];exact WU
 have Ha:=I Mk;have HI:=I (h.ext Mk);have⟨r8,r9⟩:=h.aq9;refine ns h.hlen (show W.cell? (O w 0)=some (U p)by rw[E];simp) (show W.cell? (O w 1)=some (GI a n cap)by rw[E];simp) hV (bY (p:=(p:Int)) HI) λHL G0 G1 HV Fs=>?_;cases DL:ak (p:Int) V
 ·rw[DL]at Fs;have HF:=I (show bs (ed p V)={ data:=#[] } by unfold ed;rw[DL];rfl);clear h Mk hV DL;have g0:=G0.o;have g1:=G1.o;unfold f8;go_in
  go_upto_region 1 with fail;rw[<-E];clear E;go_wp2_with fail;refine i7 Fs λw1 X1=>?_;have qq0:=@cj;exact gd
 rw[DL]at Fs;obtain⟨q,hq,Hh,JF,hlen,V7,_⟩:=ap DL;have Y6:=I V7;obtain rfl:p=q:=j0;have GQ:n<=32:=by rw[<-HL.o,hlen];exact(bp p JF).2
 have FT:1<=n:=by rw[<-HL.o,hlen];exact(bp p JF).1
 refine Op (show ed p V=fp p++dz V n by unfold ed;rw[f9 DL,HL.o]) (jO (V:=V) hV) (λw'=>zd (w:=w') p j0) (sO (n:=p) j0) λHF Lz HP Mf=>?_;clear h Mk hV DL hq hlen V7;have g0:=G0.o;have g1:=G1.o;unfold f8;go_in
 go_upto_region 1 with fail;rw[<-E];clear E;go_wp2_with fail;refine i7 Fs λw1 hx=>?_;have X1:=I hx;clear g0 g1;have g0:=X1.o6 G0.o;have g1:=X1.o6 G1.o;go_wp2_with fail;refine i7 (HP _) λw2 hx=>?_;have X2:=I (X1.trans hx);clear g0 g1;have g1:=X2.o6 G1.o;have⟨td,Z⟩:=GT (bs (Lib.decDigits p));have hts:td.size<=21:=by rw[Z.o,aY];exact Mf
 rw[<-Z.o];go_wp2_with fail;have F4:=I (show({ data:=#[112,108,97,121,101,114,115,32] }:ByteArray)++td++{ data:=#[10] }=bs (fp p++dz V 1)by
  have h1:dz V 1=[]:=by rw[show(1:Nat)=0+1 from rfl,gh];unfold jN;rw[f9 Y6.o];rfl
  rw[h1,C3,Z.o];unfold fp;rw[<-ch,<-ch,<-ByteArray.append_assoc];rfl)
 rw[F4.o];clear g1
 go_loopg [3,4] n (λgk oo kk wr=>∃(k:Nat),b9 (gk+k=n+1)/\kk=U k/\oo=aE (bs (fp p++dz V k))/\b9 (C7 W wr)/\b9 (1<=k/\k<=n))
 ·exact⟨1,I rfl,rfl,rfl,X2,I ⟨i8 _,FT⟩⟩
 rename Nat=>g1;rename J=>wr;obtain⟨k,HK,rfl,rfl,HX,HB⟩:=hrel;have⟨Gj,DV⟩:=HB.o;have q1:=HX.o6 G1.o;by_cases hlt:k<n
 ·obtain⟨b,off,rfl,hc⟩:=(HI.ext HX).at hlt;have G4:=Rd k n;have KN:=ST k;obtain⟨v,hv⟩:∃v:Int,V[k]?.getD 0=v:=⟨_,rfl⟩;have hv6:-1000000<=v/\v<=1000000:=by rw[<-hv];exact HV.o k
  rw[hv]at hc;by_cases KH:v=0
  ·subst KH;have HS:=I (show dz V (k+1)=dz V k by rw[gh];unfold jN;rw[hv,f9 rfl,C3]);clear hv;go_wp2_with fail;refine kf ?_;exact⟨k+1,I (k8 HK.o),by go_num,by rw[HS.o],HX,I j0⟩
  have HS:=I (show dz V (k+1)=dz V k++(bJ (k:Int)++([32]++(Lib.itoa v++[10])))by rw[gh];unfold jN;rw[hv,f7 KH]);have hvz:(v != 0)=true:=by simp[KH]
  have PW:=I (λw'=>gW (w:=w') k j0);have Zk:=I (λw'=>iJ (w:=w') v j0 j0);have⟨tc,ML⟩:=e9 (bs (bJ (k:Int)));have⟨ti,Wf⟩:=e9 (bs (Lib.itoa v));have⟨tq,htq⟩:=e9 (bs (fp p++dz V k));have hcs:tc.size<=5:=by rw[ML,aY];exact jr _
  have his:ti.size<=21:=by rw[Wf,aY];exact qm hv6
  have hos:tq.size<=2000:=by
   exact bd
  have S6:=I (show tq++tc++{ data:=#[32] }++ti++{ data:=#[10] }=bs (fp p++dz V (k+1))by
   rw[htq,ML,Wf];show bs _++bs _++bs [32]++bs _++bs [10]=_;rw[ch,ch,ch,ch,HS.o];simp only[yf])
  have Pj:¬9223372036854775807<tq.size+tc.size:=j0;have T7:¬9223372036854775807<tq.size+tc.size+1:=j0;have hf3:¬9223372036854775807<tq.size+tc.size+1+ti.size:=j0;have hf4:¬9223372036854775807<tq.size+tc.size+1+ti.size+1:=j0;simp only[<-ML]at PW;simp only[<-Wf]at Zk;rw[<-htq];clear hv ML Wf htq;go_wp2_with fail;have o7:=C7.drew wr;have o8:=I λw' (h:C7 wr w')=>TX (h.o6 q1) (h.o6 hc);refine mc o8 o7 λo9=>?_;refine tk 0 ?_;refine tk 1 ?_;refine V8 ⟨?_⟩;refine rd 2 λK hK=>?_;go_simp
  (go_at_call 93;refine IR (PW _) λw3 B5=>?_;have o7:=o7.trans B5)
  go_wp2_with fail;refine KO (o8 _ o7) λo9=>?_;refine tk 3 ?_;refine tk 4 ?_;refine rd 10 λK hK=>?_;go_simp
  (go_at_call 88;refine IR (Zk _) λw3 B5=>?_;have o7:=o7.trans B5)
  go_wp2_with fail;refine KO (o8 _ o7) λo9=>?_;refine TK ⟨?_⟩;refine Pi j8 ?_ _;have C0:=I (HX.trans o7);clear o7 o9 hc q1;rw[S6.o];go_wp2_with fail;refine kf ?_;exact⟨k+1,I (k8 HK.o),by go_num,rfl,C0,I j0⟩
 exact JX
def wv {w: J}{p: Nat}{a: Option Addr}{n cap: Nat}{V: List Int}(h : d9 w a n cap V)(hV : ∀ k : Nat, -1000000 <= V[k]?.getD 0 /\ V[k]?.getD 0 <= 1000000)(ht : Lib.TabIs prog w "internal/strconv.uint64pow10" .u64 Lib.pow10Tab) :
 f8 76 #[FS (p:Int) a n cap] w (aE (bs (ed p V))):=by
 have⟨W,hW⟩:=e9 (w.alloc (QD #[U p,GI a n cap] 31));have Mk:C7 w W:=by rw[hW];exact WU
 refine t8 Mk (λ(w':J) (hx:C7 W w')=>ec ht (Mk.trans hx)) (h.ext Mk) λHa HT HI=>?_;have⟨r8,r9⟩:=h.aq9;refine ns h.hlen (show W.cell? (O w 0)=some (U p)by rw[hW];simp) (show W.cell? (O w 1)=some (GI a n cap)by rw[hW];simp) hV (bV (p:=(p:Int)) HI) λHL G0 G1 HV Fs=>?_;cases DL:ak (p:Int) V
 ·rw[DL]at Fs;have HF:=I (show bs (ed p V)={ data:=#[] } by unfold ed;rw[DL];rfl);clear h Mk hV DL ht;have g0:=G0.o;have g1:=G1.o;unfold f8;go_in
  go_upto_region 1 with fail;rw[<-hW];clear hW;go_wp2_with fail;refine i7 Fs λw1 X1=>?_;have qq0:=@cj;exact gd
 rw[DL]at Fs;obtain⟨q,hq,Hh,JF,hlen,V7,_⟩:=ap DL;have Y6:=I V7;obtain rfl:p=q:=j0;have GQ:n<=32:=by rw[<-HL.o,hlen];exact(bp p JF).2
 refine Op (show ed p V=fp p++dz V n by unfold ed;rw[f9 DL,HL.o]) (jO (V:=V) hV) (λ(w':J) (X1:C7 W w')=>yP (w:=w') p j0 (HT w' X1)) (sO (n:=p) j0) λHF Lz HP Mf=>?_;clear h Mk hV DL hq hlen V7 ht;have g0:=G0.o;have g1:=G1.o;unfold f8;go_in
 go_upto_region 1 with fail;rw[<-hW];clear hW;go_wp2_with fail;refine i7 Fs λw1 hx=>?_;have X1:=I hx;clear g0 g1;have g0:=X1.o6 G0.o;have g1:=X1.o6 G1.o;go_wp2_with fail;refine i7 (HP _ X1) λw2 hx=>?_;have X2:=I (X1.trans hx);clear g0 g1;have g1:=X2.o6 G1.o;have⟨td,HTD⟩:=GT (bs (Lib.decDigits p));have hts:td.size<=21:=by rw[HTD.o,aY];exact Mf
 rw[<-HTD.o];go_wp2_with fail;have F4:=I (show({ data:=#[112,108,97,121,101,114,115,32] }:ByteArray)++td++{ data:=#[10] }=bs (fp p++dz V 0)by
  rw[HTD.o];unfold fp;rw[show dz V 0=[]from rfl,C3,<-ch,<-ch,<-ByteArray.append_assoc];rfl)
 rw[F4.o];clear g1
 go_loopg [3,17] n (λgk oo kk wr=>∃(k:Nat),b9 (gk+k=n)/\kk=U k/\oo=aE (bs (fp p++dz V k))/\b9 (C7 W wr))
 ·exact⟨0,I j0,rfl,rfl,X2⟩
 obtain⟨k,HK,rfl,rfl,HX⟩:=hrel;have DV:=HK.o;by_cases hlt:k<n
 ·obtain⟨b,off,rfl,hc⟩:=(HI.ext HX).at hlt;have G4:=Rd k n;have KN:=ST k;obtain⟨v,hv⟩:∃v:Int,V[k]?.getD 0=v:=⟨_,rfl⟩;have hv6:-1000000<=v/\v<=1000000:=by rw[<-hv];exact HV.o k
  rw[hv]at hc;by_cases KH:v=0
  ·subst KH;have HS:=I (show dz V (k+1)=dz V k by rw[gh];unfold jN;rw[hv,f9 rfl,C3]);clear hv;go_wp2_with fail;refine er ?_;exact⟨k+1,I (k8 HK.o),by go_num,by rw[HS.o],HX⟩
  have HS:=I (show dz V (k+1)=dz V k++(bJ (k:Int)++([32]++(Lib.itoa v++[10])))by rw[gh];unfold jN;rw[hv,f7 KH]);have hvz:(v != 0)=true:=by simp[KH]
  have PW:=I (λw'=>gV (w:=w') k j0);have Zk:=I (λ(w':J) (hx:C7 W w')=>kw (w:=w') v j0 j0 (HT w' hx));have⟨tc,ML⟩:=e9 (bs (bJ (k:Int)));have⟨ti,Wf⟩:=e9 (bs (Lib.itoa v));have⟨tq,htq⟩:=e9 (bs (fp p++dz V k));have hcs:tc.size<=5:=by rw[ML,aY];exact jr _
  have his:ti.size<=21:=by rw[Wf,aY];exact qm hv6
  have hos:tq.size<=2000:=by
   exact bd
  have S6:=I (show tq++(tc++{ data:=#[32] }++ti++{ data:=#[10] })=bs (fp p++dz V (k+1))by
   rw[htq,ML,Wf];show bs _++(bs _++bs [32]++bs _++bs [10])=_;rw[ch,ch,ch,ch,HS.o];simp only[yf])
  simp only[<-ML]at PW;simp only[<-Wf]at Zk;rw[<-htq];clear hv ML Wf htq;go_wp2_with fail;refine i7 (PW _) λw3 B5=>?_;have B7:=I (HX.trans B5);clear hc;go_wp2_with fail;refine i7 (Zk _ B7) λw4 DN=>?_;have Gm:=I (B7.trans DN);go_wp2_with fail;rw[S6.o];refine er ?_;exact⟨k+1,I (k8 HK.o),by go_num,rfl,Gm⟩
 exact JX
section
variable{P:Program}{ops:Array Oper}{Q:Exit->Act->J->Prop}{md:Region.Mode}{S:J->Prop}{M:List Nat}
def gq(M:List Nat)(listed:Array Bool):Prop:=∀j∈M,listed.getD j true=false
def gq.set{M:List Nat}{listed:Array Bool}{i:Nat}(h:gq M listed)(hi:i∉M):gq M (listed.setIfInBounds i true):=λj E=>by
 rw[getD_set_ne true (show i≠j from λe=>hi (by rw[e];exact E))];exact h j E
def gq.abG{M:List Nat}{listed:Array Bool}{i:Nat}(h:gq M (listed.setIfInBounds i true))(hi:i∉M):gq M listed:=λj E=>by
 have:=h j E
 rwa [getD_set_ne true (show i≠j from λe=>hi (by rw[e];exact E))]at this
def cK(P:Program)(md:Region.Mode)(ops:Array Oper)(Q:Exit->Act->J->Prop)(M:List Nat)(S:J->Prop):Nat->Array Bool->Act->J->Prop
 | 0,listed,a,w=>Region.ready md ops listed=[]/\Q .normal a w
 | f+1,listed,a,w=>(Region.ready md ops listed=[]->Q .normal a w) /\
   ∀i∈Region.ready md ops listed,wpOp P ops Q i (λa' w'=>(gq M (listed.setIfInBounds i true)->S w')/\cK P md ops Q M S f (listed.setIfInBounds i true) a' w') a w
def cK.any:∀{f:Nat} {listed:Array Bool} {a:Act} {w:J},cK P md ops Q M S f listed a w->wpAny P md ops Q f listed a w
 | 0,_,_,_,h=>h
 | f+1,_,_,_,h=>⟨h.1,λi hi=>wpOp_mono (λa' w' E=>cK.any E.2) (h.2 i hi)⟩
def mu{i:Nat}{oi:Oper}{v:arQ}{T:J->Prop}(hi:ops[i]?=some oi)(hsel:∀(j:Nat) (o:Oper) cs b,ops[j]?=some o->o.op≠.select cs b)
 (hQ:∀c a w,Q (.panic c) (a.put oi.dst v) w->Q (.panic c) a w) (hiM:i∉M)
 (hT:(∀w,T w)∨((∀w,S w->T w)/\∀j∈M,∀oj,ops[j]?=some oj->∃e∈oj.after,Region.binds md e=true/\e.on=i)) :
 ∀(f:Nat) (listed:Array Bool) (a:Act) (w:J),
   (∀j oj,ops[j]?=some oj->j≠i->listed.getD j true=false->(∀e∈oj.after,Region.binds md e=true->e.on≠i)->oi.apart ops oj=true) ->
   i∈Region.ready md ops listed->YieldsIf P ops T oi v a->(gq M listed->S w)->((∀w,T w)∨gq M listed) ->
   cK P md ops Q M S f (listed.setIfInBounds i true) (a.put oi.dst v) w->cK P md ops Q M S (f+1) listed a w:=by
 have now:∀{listed:Array Bool} {w:J},(gq M listed->S w)->((∀w,T w)∨gq M listed)->T w:=λ{listed w} h1 h2=>by
  rcases h2 with h2|h2
  ·exact h2 w
  rcases hT with K|K
  ·exact K w
  exact K.1 w (h1 h2)
 intro f
 induction f with
 | zero =>
   intro listed a w _ hr hy hS hF H;refine⟨λh=>absurd hr (by rw[h];exact Wu),λj hj=>?_⟩;by_cases E:j=i
   ·subst E;exact hy.wpOp hi (now hS hF) ⟨λh=>hS (h.abG hiM),H⟩
   exact absurd (ready_mono hj E) (by rw[H.1];exact Wu)
 | succ f ih =>
   intro listed a w Z hr hy hS hF H;refine⟨λh=>absurd hr (by rw[h];exact Wu),λj hj=>?_⟩;by_cases E:j=i
   ·subst E;exact hy.wpOp hi (now hS hF) ⟨λh=>hS (h.abG hiM),H⟩
   have⟨hjun,oj,hoj,ES⟩:=mem_ready.1 hj;have adr:∀e∈oj.after,Region.binds md e=true->e.on≠i:=λe he hb heq=>by
    have h1:=ES e he hb;have h0:=(mem_ready.1 hr).1;rw[heq]at h1;rcases Sy i listed.size with h'|h'
    ·simp[h']at h0 h1;rw[h0]at h1;cases h1
    simp[Array.getElem?_eq_none h']at h1
   have step:=wpOp_putIf hoj (Z j oj hoj E hjun adr) (λcs b=>hsel i oi cs b hi) (λcs b=>hsel j oj cs b hoj) hQ hy (H.2 j (ready_mono hj E));have adJ:∀k ok,ops[k]?=some ok->k≠i->(listed.setIfInBounds j true).getD k true=false ->
    (∀e∈ok.after,Region.binds md e=true->e.on≠i)->oi.apart ops ok=true:=λk ok hk G4 LB hno=>by
    refine Z k ok hk G4 ?_ hno;by_cases hjk:j=k
    ·rw[<-hjk];exact hjun
    rwa [getD_set_ne true hjk]at LB
   have hF':(∀w,T w)∨gq M (listed.setIfInBounds j true):=by
    rcases hF with h2|h2
    ·exact .inl h2
    rcases hT with K|K
    ·exact .inl K
    refine .inr (h2.set λhjM=>?_);have⟨e,he,hb,ho⟩:=K.2 j hjM oj hoj;exact adr e he hb ho
   have e1:(listed.setIfInBounds i true).setIfInBounds j true=(listed.setIfInBounds j true).setIfInBounds i true:=Array.setIfInBounds_comm _ _ (yx E);rw[e1]at step;exact wpOp_mono (λa' w' K=>⟨λhFr=>K.2.1 (hFr.set hiM),ih (listed.setIfInBounds j true) a' w' adJ (ready_mono hr (yx E)) K.1 (λhFr=>K.2.1 (hFr.set hiM)) hF' K.2.2⟩) step
def Us(md:Region.Mode)(ops:Array Oper)(M:List Nat)(i:Nat):Bool:=M.all λj=>Region.waitsFor md ops j i
def CB{i:Nat}{oi:Oper}{v:arQ}{f:Nat}{listed:Array Bool}{a:Act}{w:J}(hi:ops[i]?=some oi)
 (hs:Region.noSelect ops=true) (hf:Region.free md ops listed i=true) (hr:(Region.ready md ops listed).contains i=true) (hM:M.contains i=false) (hw:Us md ops M i=true) (P8:M.all (λj=>!listed.getD j true)=true)
 (hQ:∀c a w,Q (.panic c) (a.put oi.dst v) w->Q (.panic c) a w) (Z:YieldsIf P ops S oi v a) (hS:S w)
 (h:cK P md ops Q M S f (listed.setIfInBounds i true) (a.put oi.dst v) w):cK P md ops Q M S (f+1) listed a w:=by
 refine mu (T:=S) hi (WM hs) hQ p4 (.inr ⟨λ_ h=>h,λj H oj E=>?_⟩) f listed a w (Jw hi hf) (by simpa using hr) Z (λ_=>hS) (.inr λj H=>?_) h
 ·have h1:=gy.1 hw j H;have⟨oj',K,e,he,hb,ho⟩:=Region.waitsFor_spec h1;rw[E]at K;cases K;exact⟨e,he,hb,ho⟩
 have:=gy.1 P8 j H
 simpa using this
def CC{i:Nat}{oi:Oper}{v:arQ}{f:Nat}{listed:Array Bool}{a:Act}{w:J}(hi:ops[i]?=some oi)
 (hs:Region.noSelect ops=true) (H:Region.free md ops listed i=true) (hr:(Region.ready md ops listed).contains i=true) (hM:M.contains i=false)
 (Z:∀c a w,Q (.panic c) (a.put oi.dst v) w->Q (.panic c) a w) (E:YieldsIf P ops (λ_=>True) oi v a) (K:S w)
 (h:cK P md ops Q M S f (listed.setIfInBounds i true) (a.put oi.dst v) w):cK P md ops Q M S (f+1) listed a w :=
 mu (T:=λ_=>True) hi (WM hs) Z p4 (.inl λ_=>trivial) f listed a w (Jw hi H) (by simpa using hr) E (λ_=>K) (.inl λ_=>trivial) h
def mt{i:Nat}{oi:Oper}{v:arQ}{f:Nat}{listed:Array Bool}{a:Act}{w:J}(hi:ops[i]?=some oi)
 (hs:Region.noSelect ops=true) (Z:Region.free md ops listed i=true) (hr:(Region.ready md ops listed).contains i=true) (hM:M.contains i=false)
 (hQ:∀c a w,Q (.panic c) (a.put oi.dst v) w->Q (.panic c) a w) (H:YieldsIf P ops (λ_=>True) oi v a) (P8:M.any (λj=>listed.getD j true)=true)
 (h:cK P md ops Q M S f (listed.setIfInBounds i true) (a.put oi.dst v) w):cK P md ops Q M S (f+1) listed a w :=
 mu (T:=λ_=>True) hi (WM hs) hQ p4 (.inl λ_=>trivial) f listed a w (Jw hi Z) (by simpa using hr) H (λhF=>by
  have⟨j,K,E⟩:=i'.1 P8;rw[hF j K]at E
  cases E) (.inl λ_=>trivial) h
def VH{i:Nat}{oi:Oper}{f:Nat}{listed:Array Bool}{a:Act}{w w':J}(hi:ops[i]?=some oi)(hr:Region.ready md ops listed=[i])(Z:M.contains i=true)(K:i<listed.size)
 (hw:Region.wanted oi (yielded ops a.tmps)=true) (E:(execOp a.eval oi).run P w=.ok .skip w')
 (h:cK P md ops Q M S f (listed.setIfInBounds i true) (a.put oi.dst undef) w'):cK P md ops Q M S (f+1) listed a w:=by
 refine⟨λh0=>absurd (hr.symm.trans h0) j7,λj H=>?_⟩;rw[hr]at H;obtain rfl:j=i:=by simpa using H
 unfold wpOp;simp only[hi,hw,Pl];refine .inl ?_;unfold Oper.wp;rw[E];refine⟨λhF=>absurd (hF j (by simpa using Z)) ?_,h⟩;simp[K]
def CD{i:Nat}{oi:Oper}{f:Nat}{listed:Array Bool}{a:Act}{w:J}(hi:ops[i]?=some oi)(hr:Region.ready md ops listed=[i])(hw:Region.wanted oi (yielded ops a.tmps)=true)
 (h:∀K':Act->J->Prop,Shut (∀a w,(gq M (listed.setIfInBounds i true)->S w)->cK P md ops Q M S f (listed.setIfInBounds i true) a w->K' a w)->Oper.wp P oi a w K' Q):cK P md ops Q M S (f+1) listed a w:=by
 refine⟨λh0=>absurd (hr.symm.trans h0) j7,λj E=>?_⟩;rw[hr]at E;obtain rfl:j=i:=by simpa using E
 refine wpOp_step hi (λK' H=>?_);rw[f9 hw];exact h K' (λa w Z K=>H a w ⟨Z,K⟩)
def Gp(i:Nat){oi:Oper}{f:Nat}{listed:Array Bool}{a:Act}{w:J}
 (h:∀K':Act->J->Prop,Shut (∀a w,(gq M (listed.setIfInBounds i true)->S w)->cK P md ops Q M S f (listed.setIfInBounds i true) a w->K' a w)->Oper.wp P oi a w K' Q)
 (hi:ops[i]?=some oi:=by simp only[gA,gB,gC];rfl) (hr:Region.ready md ops listed=[i]:=by kernel_rfl) (hw:Region.wanted oi (yielded ops a.tmps)=true:=by kernel_rfl):cK P md ops Q M S (f+1) listed a w:=CD hi hr hw h
def OJ(i:Nat){oi:Oper}{f:Nat}{listed l':Array Bool}{a a':Act}{w w':J}(h:cK P md ops Q M S f l' a' w')
 (hi:ops[i]?=some oi:=by simp only[gA,gB,gC];rfl) (hr:Region.ready md ops listed=[i]:=by kernel_rfl) (hM:M.contains i=true:=by kernel_rfl) (K:i<listed.size:=by exact uf j8)
 (hw:Region.wanted oi (yielded ops a.tmps)=true:=by rfl) (E:(execOp a.eval oi).run P w=.ok .skip w':=by go_simp;(try with_reducible rfl))
 (H:listed.setIfInBounds i true=l':=by(try simp only[sA,sB,sC]);rfl) (Z:a.put oi.dst undef=a':=by(try simp only[Act.put,sA,sB,sC]);rfl):cK P md ops Q M S (f+1) listed a w:=by
 subst H Z;exact VH hi hr hM K hw E h
def lp(i:Nat){oi:Oper}{v:arQ}{f:Nat}{listed l':Array Bool}{a a':Act}{w:J}(h:cK P md ops Q M S f l' a' w)(hi:ops[i]?=some oi:=by simp only[gA,gB,gC];rfl)(hs:Region.noSelect ops=true:=by kernel_rfl)
 (Z:Region.free md ops listed i=true:=by kernel_rfl) (hr:(Region.ready md ops listed).contains i=true:=by kernel_rfl) (hM:M.contains i=false:=by kernel_rfl) (hQ:∀c a w,Q (.panic c) (a.put oi.dst v) w->Q (.panic c) a w:=by exact λ_ _ _ h=>h)
 (H:YieldsIf P ops (λ_=>True) oi v a:=by(refine xt ⟨by rfl,?_⟩;intro w E;(try dsimp only at E);go_simp;(try with_reducible rfl))) (hS:S w:=by assumption)
 (K:listed.setIfInBounds i true=l':=by(try simp only[sA,sB,sC]);rfl) (ha:a.put oi.dst v=a':=by(try simp only[Act.put,sA,sB,sC]);rfl):cK P md ops Q M S (f+1) listed a w:=by subst K ha;exact CC hi hs Z hr hM hQ H hS h
def ll(i:Nat){oi:Oper}{v:arQ}{f:Nat}{listed l':Array Bool}{a a':Act}{w:J}(h:cK P md ops Q M S f l' a' w)(hi:ops[i]?=some oi:=by simp only[gA,gB,gC];rfl)(hs:Region.noSelect ops=true:=by kernel_rfl)
 (Z:Region.free md ops listed i=true:=by kernel_rfl) (hr:(Region.ready md ops listed).contains i=true:=by kernel_rfl) (hM:M.contains i=false:=by kernel_rfl) (hD:Us md ops M i=true:=by kernel_rfl) (hE:M.all (λj=>!listed.getD j true)=true:=by kernel_rfl) (hQ:∀c a w,Q (.panic c) (a.put oi.dst v) w->Q (.panic c) a w:=by exact λ_ _ _ h=>h)
 (H:YieldsIf P ops S oi v a:=by(refine xt ⟨by rfl,?_⟩;intro w E;(try dsimp only at E);go_simp;(try with_reducible rfl))) (hS:S w:=by assumption)
 (K:listed.setIfInBounds i true=l':=by(try simp only[sA,sB,sC]);rfl) (ha:a.put oi.dst v=a':=by(try simp only[Act.put,sA,sB,sC]);rfl):cK P md ops Q M S (f+1) listed a w:=by subst K ha;exact CB hi hs Z hr hM hD hE hQ H hS h
def cQ{listed:Array Bool}{a:Act}{w:J}(hr:Region.ready md ops listed=[])(h:Q .normal a w):∀f,cK P md ops Q M S f listed a w
 | 0=>⟨hr,h⟩
 | _+1=>⟨λ_=>h,λi hi=>absurd hi (by rw[hr];exact Wu)⟩
def cD{E:Nat}{a:Act}{w:J}(hm:P.follows .mixedOrders=true)(h:cK P .any ops Q M S ops.size (Array.replicate ops.size false) a w.drew):(Code.region E ops true).wp P Q a w :=
 wp_region_any hm h.any
end
def ix(P:Program)(w:J)(fid:FuncId)(ca:Array arQ)(m:Nat)(f:Nat->Int):Prop :=
 ∀(s:Nat) (w1:J),s<m->C7 w w1->Calls P fid (#[U s]++ca) w1 λe w2=>e=ar (U (f s))/\C7 w1 w2
def ix.ext{P:Program}{m:Nat}{f:Nat->Int}(h:ix P w fid ca m f)(hx:C7 w w'):ix P w' fid ca m f :=
 λs E hs k=>h s E hs (hx.trans k)
def Er(f:Nat->Int)(m:Nat):o3:=(List.range m).map f
def jz(f:Nat->Int)(m:Nat):Er f (m+1)=Er f m++[f m]:=by simp[Er,rN]
def iY(f:Nat->Int)(m:Nat):JL (Er f m)=m:=by simp[Er]
def zT{f:Nat->Int}(h1:1<=n)(E:n<=5)(H:f 0=0)(hb:∀s,s<cN n->-500<=f s/\f s<=500):ak (n:Int) (Er f (cN n))=true:=by
 have hN:=bp n E;unfold ak;rw[iY,dP n E];simp only[eI,ef];refine⟨?_,?_,trivial,?_⟩
 ·rw[gy];intro x hx;obtain⟨s,hs,rfl⟩:=C'.1 hx;have:=hb s (sj.1 hs);unfold A4;simp;omega
 ·unfold A4;simp;omega
 have:0<cN n:=j0;simp[Er,this,H]
def bI(h:w.heap[g]?=some (QD #[x,y] t (0,0))):w.cell? (O g 0)=some x:=by rw[aR w g 0 _ t _ h];rfl
def aH(h:w.heap[g]?=some (QD #[x,y] t (0,0))):w.cell? (O g 1)=some y:=by rw[aR w g 1 _ t _ h];rfl
def oS{z:arQ}(h:w.heap[g]?=some (QD #[x,y] t (0,0))):(w.setCell (O g 1) z).heap[g]?=some (QD #[x,z] t (0,0)):=by
 rw[cE w g 1 _ t z h];rfl
def jd(w:J)(base:Nat)(e:Ending)(n:Nat)(l:o3)(b:Bool):Prop:=∃v,e=ar (.tuple #[.agg #[U n,v],bl b])/\r' w base v l
def N7(h:σ:=by
 refine HO1.mono j0 |>.keep λj hj=>?_
 have:=(HO1.lt j hj).1;rw[GE _ _ _ _ m9,GE _ _ _ _ m9]
 ):σ:=h
def SQ(h:σ:=by
 refine⟨0,none,0,0,gi _,rfl,I (by unfold Er;exact⟨rfl,.inl ⟨rfl,rfl⟩⟩),I ?_,I ?_⟩
 ·exact IO j7
 ·exact WU
 ):σ:=h
def SH(h:σ:=by
 refine⟨k+1,a3,n3,c3,by omega,by go_num,I ?_,I (oS En),I (B7.setCell j7 _)⟩;rw[jz];exact B9.keep λj hj=>GE _ _ _ _ (by have:=(B9.lt j hj).1;simp;omega)
 ):σ:=h
set_option maxRecDepth 100000 in
def zx{N:Nat}{f:Nat->Int}(hN:N<=32)(hC:∀w',Calls prog 83 #[U n] w' λe w2=>e=ar (U N)/\w'=w2)(hg:NE prog fid)(hf:ix prog w fid ca N f){B:Bool}(hB:ak (n:Int) (Er f N)=B):
 Calls prog 78 #[U n,.func (.func fid) #[] ca] w λe w'=>jd w' w e (if B=true then n else 0) (if B=true then Er f N else []) B/\C7 w w':=by
 have Oc:=I hC;have Tr:∀(args:Array arQ) (w:J),(callFunc fid args).run prog w=.ok (.enter fid args) w:=hg;have HF:=I hf;have Fs:=I hB;clear hf hB hg hC;go_in
 go_wp2_with (go_at_call 83;refine cP (Oc _) ?_)
 go_loopw [12] (λi wr=>∃(k:Nat) (a1:l9) (Z c1:Nat),k<=N/\i=U k/\b9 (r' wr (w.heap.size+1+1) (GI a1 Z c1) (Er f k))/\b9 (wr.heap[w.heap.size+1]?=some (QD #[U n,GI a1 Z c1] 31 (0,0)))/\b9 (C7 (w.alloc (QD #[U 0,d6] 31)) wr)) (λi _=>N-(intOf i).toNat)
 case atStart =>
  exact SQ
 obtain⟨k,a1,Z,c1,hk,rfl,HO,K,HX⟩:=hrel;have Ms:=bI K.o;have K2:=aH K.o;have hsz:=In K.o;by_cases hlt:k<N
 ·go_wp2_with fail
  go_region_law (first
   | (refine bU _ rfl (aO _ _ rfl (w.heap.size+1+1) _ _ rfl (HO1.ext WU) _ 1 _ [f k] rfl (d9.one _ _ _) (by rw[iY];omega) m9 ?_);intro v3 w3 EV LY LD;obtain⟨a3,n3,c3,rfl,LK⟩:=EV.var;have B9:=I EV;have B7:=I (aj ((HX.trans E).trans WU) LY (λj hj=>by have:=(HO1.lt j hj).1;simp;omega));have En:=I ((LY.block _ m9 (λe=>by have:=(HO1.lt _ e.symm).1;omega)).trans (((C7.alloc H _).block _ LS).trans Ee));have cg3:=aH En.o;have fg3:=mo w3 (w+1) 1 _ _ En.o;clear EV LY LD)
   | (go_simp;refine i7 (HF k _ hlt ((WU.trans HX).trans (C7.drew wr))) λH hx=>?_;have E:=I ((C7.drew wr).trans hx);have HO1:=I (HO.ext E);have Ee:=I ((E.block _ hsz).trans K);have b1:=aH Ee.o;have LS:=In Ee.o))
  all_goals
   go_wp2
   go_roundw
   case rel =>
    exact SH
   exact sw
 have DV:k=N:=j0;subst DV;have HV:=I (bV (p:=(n:Int)) HO.ints);rw[Fs.o]at HV;go_wp2_with fail;refine i7 HV λH hx=>?_;have HO1:=I (HO.ext hx);have hg0':=hx.o6 Ms;have hg1':=hx.o6 K2;have E:=I (HX.trans hx);have r0:H.cell? (O w 0)=some (U 0):=E.o6 j7;have r1:H.cell? (O w 1)=some d6:=E.o6 j7;have f0:H.frozen? (O w 0)=false:=(E.DY _ _ j7).trans j7;have f1:H.frozen? (O w 1)=false:=(E.DY _ _ j7).trans j7;clear Ms K2;cases B with
 | false =>
   go_wp2;refine Fn G1 rfl ⟨⟨_,rfl,C1⟩,?_⟩;exact(((WU.trans E).setCell j7 _).setCell j7 _)
 | true =>
   go_wp2;refine Fn G1 rfl ⟨⟨_,rfl,?_⟩,?_⟩
   ·exact N7
   exact(((WU.trans E).setCell j7 _).setCell j7 _)
def nY{f:Nat->Int}(K:1<=n)(E:n<=5)(hg:NE prog fid)(H:ix prog w fid ca (cN n) f)
 (Z:f 0=0) (hb:∀s,s<cN n->-500<=f s/\f s<=500) :
 Calls prog 78 #[U n,.func (.func fid) #[] ca] w λe w'=>jd w' w e n (Er f (cN n)) true/\C7 w w' :=
 zx (bp n E).2 (λw'=>wo n E w') hg H (zT K E Z hb)
def mU(q:Int)(l:o3)(s:Nat):Int:=D3 (lB q l (s:Int))
def kd(q:Int)(l:o3):Nat:=if aV 1 q l then JL l else 0
def iP(q:Int)(l:o3):o3:=if aV 1 q l then Er (mU q l) (cN (JL l)) else []
def QY(b:Bool):-500<=D3 b/\D3 b<=500:=by cases b<;>simp[D3]
def BK{q:Int}(h:aV 1 q l=true):lB q l 0=false:=by
 have hq:1<=q:=by unfold aV A4 at h;simp at h;omega
 have hz:∀k,ee 0 l k=0:=by
  intro k
  induction k with
  | zero=>rfl
  | succ k ih=>simp[ee,M2,ih]
 unfold lB;rw[hz];simp;omega
def sT:NE prog 236:=cR func236 j8 j8
def vk{q:Int}{a:l9}{cap b:Nat}(s:Nat)(h:d9 w a n cap l)(hb:w.heap[b]?=some (QD #[U q,GI a n cap] 97 (0,0)))(hs:s<32)(h5:n<=5):
 f8 236 #[U s,aP (some (O b 0))] w (U (mU q l s)):=by
 have c0:=bI hb;have c1:=aH hb;have H:=I h;clear h hb;cases hw:lB q l (s:Int)
 all_goals
  have E:=I hw;unfold f8;go_in
  go_wp2_with fail;refine IR (To _ H.o j0 j0 j0) λw1 hx=>?_;rw[hw];go_wp2;go_ret;exact⟨au (by unfold mU;rw[E.o];rfl),hx⟩
def Qp(h:σ:=by
 rw[hv]at HV;have FH:=I hv;clear hv;go_in
 go_wp2_with fail;refine HV.mono ?_;rintro e w1 ⟨rfl,hx⟩;have r0:w1.cell? (O (w.heap.size+1) 0)=some (U 0):=hx.o6 j7;have r1:w1.cell? (O (w.heap.size+1) 1)=some d6:=hx.o6 j7;have f0:w1.frozen? (O (w.heap.size+1) 0)=false:=(hx.DY _ _ j7).trans j7;have f1:w1.frozen? (O (w.heap.size+1) 1)=false:=(hx.DY _ _ j7).trans j7;have A0:=I (HX.trans hx);clear hx;go_wp2;refine Fn TH rfl ⟨⟨d6,?_,?_⟩,?_⟩
 ·unfold kd;rw[FH.o];rfl
 ·unfold iP;rw[FH.o];exact⟨rfl,.inl ⟨rfl,rfl⟩⟩
 ·exact(A0.setCell j7 _).setCell j7 _
 ):σ:=h
def wG{q:Int}{a:l9}{cap:Nat}(h:d9 w a n cap l):
 Calls prog 162 #[FS q a n cap] w λe w'=>jd w' w e (kd q l) (iP q l) (aV 1 q l)/\C7 w w':=by
 have hi:=h.alloc (QD #[U q,GI a n cap] 97);refine t8 h.hlen (rx (x:=q) (hi.ext (C7.alloc _ (QD #[U 0,d6] 31)))) ((C7.alloc w (QD #[U q,GI a n cap] 97)).trans (C7.alloc _ (QD #[U 0,d6] 31))) λZ HV HX=>?_;have⟨r8,r9⟩:=h.aq9;cases hv:aV 1 q l
 ·have qq0:=@results162;exact Qp
 rw[hv]at HV;have FH:=I hv;have H:1<=n/\n<=5:=by have:=it hv;have:=Z.o;omega
 obtain⟨FT,H⟩:=H;have hN:=bp n H;have HI:=I hi;have HZ:=I (BK hv);clear hv;go_in
 go_wp2_with fail;refine i7 HV λw1 A0=>?_;have c1:w1.cell? (O w 1)=some (GI a n cap):=A0.o6 j7;have HB:b9 (w1.heap[w.heap.size]?=some (QD #[U q,GI a n cap] 97 (0,0))):=(A0.block _ m9).trans wz;have MA:=I ((HI.ext WU).ext A0);have HT:b9 (ix prog w1 236 #[aP (some (O w 0))] (cN n) (mU q l)):=I λs E hs k=>vk s (MA.ext k) ((k.block _ (In HB)).trans HB) j0 H;have HM:=I (nY FT H sT HT.o (by unfold mU;rw[show((0:Nat):Int)=0 from rfl,HZ.o];rfl) (λs _=>QY _));go_wp2_with fail;refine PP HM λE v ho hx=>?_;obtain⟨a2,n2,c2,rfl,Hb⟩:=ho.var;have K:=I (A0.trans hx);have r0:E.cell? (O (w+1) 0)=some (U 0):=K.o6 j7;have r1:E.cell? (O (w+1) 1)=some d6:=K.o6 j7;have f0:E.frozen? (O (w+1) 0)=false:=(K.DY _ _ j7).trans j7;have f1:E.frozen? (O (w+1) 1)=false:=(K.DY _ _ j7).trans j7;have HO1:=I ho;have LS:=A0.size;simp at LS;clear ho;go_wp2;refine Fn (by simp[results,results162,go_sem,r0,r1]<;>rfl) rfl ⟨⟨GI a2 n2 c2,?_,?_⟩,?_⟩
 ·unfold kd;rw[FH.o,f9 rfl,Z.o]
 ·unfold iP;rw[FH.o,f9 rfl,Z.o];exact N7
 exact((HX.trans K).setCell j7 _).setCell j7 _
def S7(h:σ:=by
 exact((HX.trans (A0.trans C0)).setCell j7 _).setCell j7 _
 ):σ:=h
set_option maxRecDepth 100000 in
def xO{q:Int}{a:l9}{cap:Nat}(h:d9 w a n cap l):
 Calls prog 92 #[FS q a n cap] w λe w'=>jd w' w e (kd q l) (iP q l) (aV 1 q l)/\C7 w w':=by
 have hi:=h.alloc (QD #[U q,GI a n cap] 97);refine t8 h.hlen (sl (x:=q) (hi.ext (C7.alloc _ (QD #[U 0,d6] 31)))) ((C7.alloc w (QD #[U q,GI a n cap] 97)).trans (C7.alloc _ (QD #[U 0,d6] 31))) λHL HV HX=>?_;have⟨r8,r9⟩:=h.aq9;cases hv:aV 1 q l
 ·have qq0:=@results92;exact Qp
 rw[hv]at HV;have FH:=I hv;have E:1<=n/\n<=5:=by have:=it hv;have:=HL.o;omega
 obtain⟨FT,E⟩:=E;have hN:=bp n E;have HI:=I hi;clear hv h hi;go_in
 go_wp2_with fail;refine i7 HV λw1 hx=>?_;have c1:w1.cell? (O w 1)=some (GI a n cap):=hx.o6 j7;have IK:w.heap.size<w1.heap.size:=O4 _ _ c1;have Nc:w.heap.size+1<w1.heap.size:=by have:=hx.size;simp at this;omega
 have A0:=I hx;have MA:=I ((HI.ext WU).ext hx);go_wp2_with (go_at_call 33;refine cP (xE n E _) ?_)
 go_loopw [6] (λi wr=>∃(k:Nat) (K:l9) (H c1:Nat),k<=cN n/\i=U k/\b9 (r' wr (w1+1) (GI K H c1) (Er (mU q l) k))/\b9 (wr.heap[w1.heap.size]?=some (QD #[U n,GI K H c1] 31 (0,0)))/\b9 (C7 w1 wr)) (λi _=>cN n-(intOf i).toNat)
 case atStart =>
  exact SQ
 obtain⟨k,K,H,c1,hk,rfl,HO1,Z,C0⟩:=hrel;have Ms:=bI Z.o;have K2:=aH Z.o;have hsz:=In Z.o;have c0:wr.cell? (O w 0)=some (U q):=(A0.trans C0).o6 j7;have c1':wr.cell? (O w 1)=some (GI a n cap):=(A0.trans C0).o6 j7;by_cases hlt:k<cN n
 ·go_wp2_with fail
  go_region_law (first
   | (refine bU _ rfl (aO _ _ rfl (w1+1) _ _ rfl (aa.ext WU) _ 1 _ [mU q l k] rfl (d9.one _ _ _) (by rw[iY];omega) m9 ?_);intro v3 w3 EV LY LD;obtain⟨a3,n3,c3,rfl,LK⟩:=EV.var;have B9:=I EV;have B7:=I (aj (X1.trans WU) LY (λj hj=>by have:=(aa.lt j hj).1;omega));have En:=I ((LY.block _ m9 (λe=>by have:=(aa.lt _ e.symm).1;omega)).trans (((C7.alloc w4 _).block _ LS).trans Ee));have cg3:=aH En.o;have fg3:=mo w3 w1 1 _ _ En.o;clear EV LY LD)
   | (go_simp;go_at_call 172;refine i7 (Dt _ ((MA.ext C0).ext (C7.drew wr)) j0 j0 E) λw4 hx=>?_;have X1:=I (C0.trans ((C7.drew wr).trans hx));have aa:=I ((HO1.ext (C7.drew wr)).ext hx);have Ee:=I (((C7.drew wr).trans hx).block _ hsz |>.trans Z);have b1:=aH Ee.o;have LS:=In Ee.o)
   | (go_simp;go_at_call 170;refine cP (fH _ _) ?_))
  all_goals
   go_wp2
   go_roundw
   case rel =>
    exact SH
   exact sw
 have DV:k=cN n:=j0;subst DV;have r0:wr.cell? (O (w+1) 0)=some (U 0):=(A0.trans C0).o6 j7;have r1:wr.cell? (O (w+1) 1)=some d6:=(A0.trans C0).o6 j7;have f0:wr.frozen? (O (w+1) 0)=false:=((A0.trans C0).DY _ _ j7).trans j7;have f1:wr.frozen? (O (w+1) 1)=false:=((A0.trans C0).DY _ _ j7).trans j7;go_wp2;refine Fn (by simp[results,results92,go_sem,r0,r1]<;>rfl) rfl ⟨⟨GI K H c1,?_,?_⟩,?_⟩
 ·unfold kd;rw[FH.o,f9 rfl,HL.o]
 ·unfold iP;rw[FH.o,f9 rfl,HL.o];exact N7
 exact S7
end
section
variable{w:J}{x sum:Int}{a:l9}{n left:Nat}{l:o3}
def sh{cap:Nat}(h:d9 w a n cap l):
 f8 168 #[FS x a n cap] w (bl (aV 0 x l)):=by
 have h1:=h.alloc (QD #[U x,GI a n cap] 94);exact Sa
def pd:NE prog 295:=cR func295 j8 j8
def qg(x:Int)(w:J):Calls prog 295 #[U x] w λe w'=>e=ar (bl (!A4 x 0 100))/\w=w':=by
 exact V1
def nj(w:J):M8 prog w 295 #[] (λx=>!A4 x 0 100) :=
 λx E _=>(qg x E).mono λe w' ⟨H,hw⟩=>⟨H,hw▸WF⟩
def ru{cap:Nat}(h:d9 w a n cap l):
 f8 232 #[FS x a n cap] w (bl (aV 0 x l)):=by
 have h1:=h.alloc (QD #[U x,GI a n cap] 94);have HX:=I (C7.alloc w (QD #[U x,GI a n cap] 94));have qq0:=@pd;have qq1:=@nj;exact dy
def U4:∀n:Fin 6,∀s:Fin 32,s.val<cN n.val->bits .andNot .i64 ((cN n.val:Int)-1) ((s.val:Nat):Int)=(cN n.val:Int)-1-((s.val:Nat):Int):=by decide +kernel
def Dg(n s:Nat)(E:n<=5)(hs:s<cN n):bits .andNot .i64 ((cN n:Int)-1) (s:Int)=(cN n:Int)-1-(s:Int):=U4 ⟨n,by omega⟩ ⟨s,by have:=bp n E;omega⟩ hs
def xB:∀n:Fin 6,∀s:Fin 32,∀k:Fin 5,s.val<cN n.val->k.val<n.val->M2 ((cN n.val:Int)-1-((s.val:Nat):Int)) k.val=!M2 ((s.val:Nat):Int) k.val:=by decide +kernel
def U5(n s k:Nat)(E:n<=5)(hs:s<cN n)(H:k<n):M2 ((cN n:Int)-1-(s:Int)) k=!M2 (s:Int) k:=xB ⟨n,by omega⟩ ⟨s,by have:=bp n E;omega⟩ ⟨k,by omega⟩ hs H
def kG{l:o3}(h:∀i:Nat,0<=l[i]?.getD 0/\l[i]?.getD 0<=100)(c:Int):∀k,k<=1000->0<=ee c l k/\ee c l k<=100*k
 | 0,_=>by simp[ee]
 | k+1,hk=>by
   have ih:=kG h c k j0;have hx:=h k;unfold ee
   split
   ·unfold wrap64;omega
   omega
def BG(h:∀i:Nat,0<=l[i]?.getD 0/\l[i]?.getD 0<=100)(c:Int)(k:Nat)(E:k<=1000):ee c l (k+1)=(if M2 c k then ee c l k+l[k]?.getD 0 else ee c l k):=by
 have:=kG h c k E;have hx:=h k;rw[ee];split
 ·unfold wrap64;omega
 rfl
def Aa:∀(l:o3) (E A:Int),(∀x∈l,0<=x/\x<=100)->0<=E->E<=A->A+100*JL l<=1000000->l.foldl (λa x=>wrap64 (a+x)) E<=A+100*JL l
 | [],E,A,_,_,h,_=>by simpa using h
 | x::l,E,A,hx,h0,h,hA=>by
   have h1:=hx x o2;simp only[RN,nR]at *;have hw:wrap64 (E+x)=E+x:=by unfold wrap64;omega
   rw[hw];have:=Aa l (E+x) (A+100) (λy H=>hx y (B1 _ H)) j0 j0 j0;omega
def oD{lo:Int}(h:aV lo x l=true):(∀i:Nat,0<=l[i]?.getD 0/\l[i]?.getD 0<=100)/\lo<=x/\x<=500:=by
 have hlen:=it h;unfold aV gw at h;simp only[eI]at h;have E:∀y∈l,0<=y/\y<=100:=λy H=>by
  have:=gy.1 h.1.1 y H;unfold A4 at this
  simpa using this
 refine⟨λi=>?_,?_⟩
 ·by_cases hi:i<JL l
  ·have:=E _ (eN hi)
   simpa[hi]using this
  simp[q8 (by omega:l.length<=i)]
 have hb:lo<=x/\x<=OE l:=by have:=h.2;unfold A4 at this;simpa using this
 have:=Aa l 0 0 E j0 j0 j0;unfold OE at hb;omega
def Ql(a b:Int):Int:=if a > b then a else b
def ie(q:Int)(l:o3)(s:Nat):Int:=Ql 0 (q-ee ((cN (JL l):Int)-1-(s:Int)) l (JL l))*D3 (decide (0<s))
def jG(q:Int)(l:o3):Nat:=if aV 0 q l then JL l else 0
def iz(q:Int)(l:o3):o3:=if aV 0 q l then Er (ie q l) (cN (JL l)) else []
def pO{q:Int}(h:aV 0 q l=true)(s:Nat):0<=ie q l s/\ie q l s<=500:=by
 have E:=oD h;have hl:=it h;have hs:=kG E.1 ((cN (JL l):Int)-1-(s:Int)) (JL l) j0;unfold ie Ql;cases decide (0<s)<;>simp[D3]<;>split<;>omega
def qM{q:Int}(h:aV 0 q l=true)(s:Nat):IntKind.i64.wrap (Ql 0 (q-ee ((cN (JL l):Int)-1-(s:Int)) l (JL l))*D3 (decide (0<s)))=ie q l s:=by
 have:=pO h s;have E:Ql 0 (q-ee ((cN (JL l):Int)-1-(s:Int)) l (JL l))*D3 (decide (0<s))=ie q l s:=rfl;rw[E,mn];omega
def nV:NE prog 233:=cR func233 j8 j8
def pi{q:Int}{cap b b':Nat}(s:Nat)(h:d9 w a n cap l)(hb:w.heap[b]?=some (QD #[U q,GI a n cap] 94 (0,0)))(SI:w.cell? (O b' 0)=some (U ((cN n:Int)-1)))(E:aV 0 q l=true)(hs:s<cN n)(h5:n<=5):
 f8 233 #[U s,aP (some (O b 0)),aP (some (O b' 0))] w (U (ie q l s)):=by
 have c0:=bI hb;have c1:=aH hb;refine t8 h h.hlen (Dg n s h5 hs) λHI HL HC=>?_;have hN:=bp n h5;have K:=oD E;have Z:=kG K.1 ((cN n:Int)-1-(s:Int)) n j0;have hq:=K.2;have HF:=I (qM E s);have GK:=I (pO E s);by_cases h0:s=0
 ·subst h0;clear h hb E K Z;unfold f8;go_in
  go_wp2;go_ret;exact⟨au (by unfold ie;simp[D3]),WF⟩
 have H:decide (0<s)=true:=m9;have EO:=I H;clear h hb E K H;unfold f8;go_in
 go_wp2
 go_quiet ((go_at_call 234;rw[HC.o];exact be (ul _ (HI.drewN _) j0 j0 j0)))
 go_wp2
 all_goals
  go_ret;refine⟨au ?_,CI WF _⟩;unfold ie Ql;rw[HL.o,EO.o];simp only[D3,Pl,Int.mul_one];split<;>omega
def YK(h:σ:=by
 rw[hv]at HV;have FH:=I hv;clear hv;go_in
 go_wp2_with fail;refine HV.mono ?_;rintro e w1 ⟨rfl,hx⟩;have r0:w1.cell? (O (w.heap.size+1) 0)=some (U 0):=hx.o6 j7;have r1:w1.cell? (O (w.heap.size+1) 1)=some d6:=hx.o6 j7;have f0:w1.frozen? (O (w.heap.size+1) 0)=false:=(hx.DY _ _ j7).trans j7;have f1:w1.frozen? (O (w.heap.size+1) 1)=false:=(hx.DY _ _ j7).trans j7;have A0:=I (HX.trans hx);clear hx;go_wp2;refine Fn TH rfl ⟨⟨d6,?_,?_⟩,?_⟩
 ·unfold jG;rw[FH.o];rfl
 ·unfold iz;rw[FH.o];exact⟨rfl,.inl ⟨rfl,rfl⟩⟩
 ·exact(A0.setCell j7 _).setCell j7 _
 ):σ:=h
def qb{q:Int}{cap:Nat}(h:d9 w a n cap l):
 Calls prog 161 #[FS q a n cap] w λe w'=>jd w' w e (jG q l) (iz q l) (aV 0 q l)/\C7 w w':=by
 have hi:=h.alloc (QD #[U q,GI a n cap] 94);refine t8 h.hlen (ru (x:=q) (hi.ext (C7.alloc _ (QD #[U 0,d6] 31)))) ((C7.alloc w (QD #[U q,GI a n cap] 94)).trans (C7.alloc _ (QD #[U 0,d6] 31))) λZ HV HX=>?_;have⟨r8,r9⟩:=h.aq9;cases hv:aV 0 q l
 ·have qq0:=@results161;exact YK
 rw[hv]at HV;have FH:=I hv;have E:1<=n/\n<=5:=by have:=it hv;have:=Z.o;omega
 obtain⟨FT,E⟩:=E;have hN:=bp n E;have HI:=I hi;have IG:=I hv;have hint:=dk ((cN n:Int)-1);clear hv;go_in
 go_wp2_with fail;refine i7 HV λw1 A0=>?_;have c1:w1.cell? (O w 1)=some (GI a n cap):=A0.o6 j7;have HB:b9 (w1.heap[w.heap.size]?=some (QD #[U q,GI a n cap] 94 (0,0))):=(A0.block _ m9).trans wz;have MA:=I ((HI.ext WU).ext A0);have IK:w.heap.size<w1.heap.size:=O4 _ _ c1;have Ov:=I (C7.alloc w1 (QD #[U ((cN n:Int)-1)] 3));have HT:b9 (ix prog (w1.alloc (QD #[U ((cN n:Int)-1)] 3)) 233 #[aP (some (O w 0)),aP (some (O w1 0))] (cN n) (ie q l)):=I λs H hs k =>
  pi s ((MA.ext Ov).ext k) (((Ov.trans k).block _ (In HB)).trans HB) (k.o6 j7) IG.o hs E
 have HM:=I (nY FT E nV HT.o (by unfold ie;simp[D3]) (λs _=>by have:=pO IG.o s;omega));go_wp2_with (go_at_call 83;refine cP (wo n E _) ?_);refine PP HM λH v ho hx=>?_;obtain⟨a2,n2,c2,rfl,Hb⟩:=ho.var;have K:=I ((A0.trans Ov).trans hx);have r0:H.cell? (O (w+1) 0)=some (U 0):=K.o6 j7;have r1:H.cell? (O (w+1) 1)=some d6:=K.o6 j7;have f0:H.frozen? (O (w+1) 0)=false:=(K.DY _ _ j7).trans j7;have f1:H.frozen? (O (w+1) 1)=false:=(K.DY _ _ j7).trans j7;have HO:=I ho;have LS:=A0.size;simp at LS;clear ho
 go_wp2;refine Fn (by simp[results,results161,go_sem,r0,r1]<;>rfl) rfl ⟨⟨GI a2 n2 c2,?_,?_⟩,?_⟩
 ·unfold jG;rw[FH.o,f9 rfl,Z.o]
 ·unfold iz;rw[FH.o,f9 rfl,Z.o];refine HO.mono m9 |>.keep λj hj=>?_
  have:=(HO.lt j hj).1;simp at this;rw[GE _ _ _ _ m9,GE _ _ _ _ m9]
 exact((HX.trans K).setCell j7 _).setCell j7 _
def ZE(x y:Int)(w:J):Calls prog 169 #[U x,U y] w λe w'=>e=ar (U (Ql x y))/\w=w':=by
 by_cases h:x > y
 all_goals
  have H:=I h;go_in
  go_wp2;go_ret;exact⟨au (by unfold Ql;first|(rw[f9 H.o])|(rw[f7 (k8 H.o)])),rfl⟩
set_option maxRecDepth 100000 in
def qx{q:Int}{cap:Nat}(h:d9 w a n cap l):
 Calls prog 91 #[FS q a n cap] w λe w'=>jd w' w e (jG q l) (iz q l) (aV 0 q l)/\C7 w w':=by
 have hi:=h.alloc (QD #[U q,GI a n cap] 94);refine t8 h.hlen (sh (x:=q) (hi.ext (C7.alloc _ (QD #[U 0,d6] 31)))) ((C7.alloc w (QD #[U q,GI a n cap] 94)).trans (C7.alloc _ (QD #[U 0,d6] 31))) λHL HV HX=>?_;have⟨r8,r9⟩:=h.aq9;cases hv:aV 0 q l
 ·have qq0:=@results91;exact YK
 rw[hv]at HV;have FH:=I hv;have H:1<=n/\n<=5:=by have:=it hv;have:=HL.o;omega
 obtain⟨FT,H⟩:=H;have hN:=bp n H;have HI:=I hi;have IG:=I hv;have ES:=oD hv;have QV:=I ES.1;have hq:=ES.2;clear hv h hi ES;go_in
 go_wp2_with fail;refine i7 HV λw1 hx=>?_;have c1:w1.cell? (O w 1)=some (GI a n cap):=hx.o6 j7;have IK:w.heap.size<w1.heap.size:=O4 _ _ c1;have Nc:w.heap.size+1<w1.heap.size:=by have:=hx.size;simp at this;omega
 have A0:=I hx;have MA:=I ((HI.ext WU).ext hx);go_wp2_with (go_at_call 33;refine cP (xE n H _) ?_)
 go_loopw [6] (λi wr=>∃(k:Nat) (Z:l9) (K c1:Nat),k<=cN n/\i=U k/\b9 (r' wr (w1+1) (GI Z K c1) (Er (ie q l) k))/\b9 (wr.heap[w1.heap.size]?=some (QD #[U n,GI Z K c1] 31 (0,0)))/\b9 (C7 w1 wr)) (λi _=>cN n-(intOf i).toNat)
 case atStart =>
  exact SQ
 obtain⟨k,Z,K,c1,hk,rfl,HO1,HB,C0⟩:=hrel;have Ms:=bI HB.o;have K2:=aH HB.o;have hsz:=In HB.o;have c0:wr.cell? (O w 0)=some (U q):=(A0.trans C0).o6 j7;have c1':wr.cell? (O w 1)=some (GI a n cap):=(A0.trans C0).o6 j7;by_cases hlt:k<cN n
 ·have HF:=I (qM IG.o k);go_wp2
  go_loopw [7,8] (λt i ws=>∃j:Nat,j<=n/\i=U j/\t=U (q-ee ((cN n:Int)-1-(k:Int)) l j)/\ws=wr) (λ_ i _=>n-(intOf i).toNat)
  ·exact⟨0,gi _,rfl,by simp[ee],rfl⟩
  obtain⟨j,hj,rfl,rfl,rfl⟩:=hrel;have hst:=kG QV.o ((cN n:Int)-1-(k:Int)) j j0;by_cases F0:j<n
  ·refine t8 (dE (k:Int) j j0 j0) (BG QV.o ((cN n:Int)-1-(k:Int)) j j0) (U5 n k j H hlt F0) λHP HS HR=>?_;obtain⟨bb,off,rfl,hc⟩:=(MA.ext C0).at F0;have A':=QV.o j;cases E:M2 (k:Int) j
   all_goals
    have Od:=I E;clear E;go_wp2_with (go_at_call 99;refine cP (bE _ _ _ j0) ?_;rw[HP.o,Od.o])
    go_roundw
    case rel=>exact⟨j+1,by omega,by go_num,by rw[HS.o,HR.o,Od.o];simp<;>omega,by simp⟩
    exact sw
  have hje:j=n:=j0;subst hje;go_wp2
  go_region_law (first
   | (refine bU _ rfl (aO _ _ rfl (w1+1) _ _ rfl ((HO1.ext WU).ext cn) _ 1 _ [IntKind.i64.wrap (Ql 0 (q-ee ((cN j:Int)-1-(k:Int)) l j)*D3 (decide (0<k)))] rfl ((d9.one _ _ _).ext cn) (by rw[iY];omega) m9 ?_);intro v3 w3 EV LY LD;obtain⟨a3,n3,c3,rfl,LK⟩:=EV.var;have B9:=I EV;have B7:=I (aj ((C0.trans WU).trans cn) LY (λj hj=>by have:=(HO1.lt j hj).1;omega));have En:=I ((LY.block _ m9 (λe=>by have:=(HO1.lt _ e.symm).1;omega)).trans (((C7.alloc wr _).trans cn).block _ hsz |>.trans HB));have cg3:=aH En.o;have fg3:=mo w3 w1 1 _ _ En.o;clear EV LY LD)
   | (go_simp;go_at_call 169;refine cP (ZE _ _ _) ?_)
   | (go_simp;go_at_call 170;refine cP (fH _ _) ?_))
  all_goals
   go_wp2
   go_roundw
   case rel =>
    refine⟨k+1,a3,n3,c3,by omega,by go_num,I ?_,I (oS En),I (B7.setCell j7 _)⟩;rw[jz];have hf:=HF.o;rw[HL.o]at hf;rw[<-hf];exact B9.keep λj hj=>GE _ _ _ _ (by have:=(B9.lt j hj).1;simp;omega)
   exact sw
 have DV:k=cN n:=j0;subst DV;have r0:wr.cell? (O (w+1) 0)=some (U 0):=(A0.trans C0).o6 j7;have r1:wr.cell? (O (w+1) 1)=some d6:=(A0.trans C0).o6 j7;have f0:wr.frozen? (O (w+1) 0)=false:=((A0.trans C0).DY _ _ j7).trans j7;have f1:wr.frozen? (O (w+1) 1)=false:=((A0.trans C0).DY _ _ j7).trans j7;go_wp2;refine Fn (by simp[results,results91,go_sem,r0,r1]<;>rfl) rfl ⟨⟨GI Z K c1,?_,?_⟩,?_⟩
 ·unfold jG;rw[FH.o,f9 rfl,HL.o]
 ·unfold iz;rw[FH.o,f9 rfl,HL.o];exact N7
 exact S7
abbrev kJ(x y:Int)(a:l9)(n cap:Nat):arQ:=.agg #[.int .i64 x,.int .i64 y,GI a n cap]
def dA(s b:Int)(L:l8):Bool :=
 (decide (1<=s)&&decide (s<=5)&&decide (1<=b)&&decide (b<=5-s)&&decide ((JL L:Int)=s))&&L.all (λr=>r.all (A4 · 0 100)&&decide ((JL r:Int)=b))
def nW:NE prog 293:=cR func293 j8 j8
def pe:NE prog 292:=cR func292 j8 j8
def pm(x:Int)(w:J):Calls prog 293 #[U x] w λe w'=>e=ar (bl (!A4 x 0 100))/\w=w':=by
 exact V1
def lV(w:J):M8 prog w 293 #[] (λx=>!A4 x 0 100) :=
 λx E _=>(pm x E).mono λe w' ⟨H,hw⟩=>⟨H,hw▸WF⟩
def fU(b:Int)(r:o3):Bool:=!decide ((JL r:Int)=b)||r.any (λx=>!A4 x 0 100)
def qh{m:Nat}{b:Int}{cap:Nat}(hb:w.cell? (O m 1)=some (U b))(h:d9 w a n cap l):
 f8 292 #[GI a n cap,aP (some (O m 0))] w (bl (fU b l)):=by
 have H:((n:Int) != b)=!decide ((n:Int)=b):=by by_cases h:(n:Int)=b<;>simp[h]
 have HC:=I (dH h nW (lV _));have Z:=I h.hlen;cases E:decide ((n:Int)=b)
 ·rw[E]at H;have K:=I E;clear E;unfold f8;go_in
  go_wp2;go_ret;refine⟨ag ?_,WF⟩;unfold fU;rw[Z.o,K.o];simp
 rw[E]at H;have K:=I E;clear E;unfold f8;go_in
 go_wp2_with fail;refine IR HC λw1 hx=>?_;go_wp2;go_ret;refine⟨ag ?_,hx⟩;unfold fU;rw[Z.o,K.o];simp
def jZ(s b:Int)(L:l8):dA s b L=((decide (1<=s)&&decide (s<=5)&&decide (1<=b)&&decide (b<=5-s)&&decide ((JL L:Int)=s))&&!L.any (fU b)):=by
 unfold dA fU;congr 1;rw[xy];congr 1
 funext r
 rw[Bool.not_or,R',xy,Zr];simp
def Md(h:σ:=by
 (try unfold f8);go_in
 go_wp2;go_ret;exact⟨rfl,HX⟩
 ):σ:=h
def kX{y:Int}{cap:Nat}{L:l8}(h:dB w a n cap L):
 f8 229 #[kJ x y a n cap] w (bl (dA x y L)):=by
 have K:=h.alloc (QD #[U x,U y,GI a n cap] 91);refine t8 (C7.alloc w (QD #[U x,U y,GI a n cap] 91)) h.hlen (nI (ca:=#[aP (some (O w 0))]) (p:=fU y) K pe (λl a n c w1 hx hi=>qh (hx.o6 j7) hi)) λHX Z HC=>?_;clear h K;by_cases ES:1<=x/\x<=5/\1<=y/\y<=5-x/\(n:Int)=x
 ·obtain⟨p1,p2,p3,p4,E⟩:=ES;have H:((n:Int) != x)=false:=by simp[E]
  have HP:=I E;clear E;unfold f8;go_in
  go_wp2_with fail;refine IR HC λw1 hx=>?_;go_wp2;go_ret;refine⟨ag ?_,HX.trans hx⟩;rw[jZ,Z.o];have:=HP.o;simp[p1,p2,p3,p4,this]
 have HN:=I (show dA x y L=false by unfold dA;rw[Z.o];simp only[tq,nF];omega);have Ey:x<1∨y<1∨5<x∨5-x<y∨((n:Int)≠x):=j0;have hgo:f8 229 #[kJ x y a n cap] w (bl false):=by
  by_cases q1:x<1
  ·exact Md
  by_cases q2:y<1
  ·exact Md
  by_cases q3:5<x
  ·exact Md
  by_cases q4:5-x<y
  ·exact Md
  have H:((n:Int) != x)=true:=m9;clear Ey ES;unfold f8;go_in
  go_wp2;go_ret;exact⟨rfl,HX⟩
 rw[HN.o];exact hgo
def kh(b:Int)(r:o3):Bool:=gw r 100&&decide ((JL r:Int)=b)
def pw{b:Int}(h1:1<=b)(h5:b<=5)(r:o3):kh b r=!fU b r:=by
 unfold kh fU;rw[jC];by_cases h:(JL r:Int)=b
 ·have hi:A4 (JL r) 1 5=true:=by unfold A4;simp;omega
  rw[hi,UV h];simp
 rw[Ok h];simp
def Wx(h:σ:=by
 (try unfold f8);go_in
 go_wp2_with (go_at_call 32;refine ta.mono ?_;rintro e w' ⟨rfl,rfl⟩);go_ret;exact⟨rfl,HX⟩
 ):σ:=h
def si{y:Int}{cap:Nat}{L:l8}(h:dB w a n cap L):
 f8 166 #[kJ x y a n cap] w (bl (dA x y L)):=by
 have h1:=h.alloc (QD #[U x,U y,GI a n cap] 91);have HX:=I (C7.alloc w (QD #[U x,U y,GI a n cap] 91));have H:=I h.hlen;have⟨r8,r9⟩:=h.aq9;clear h;cases q1:A4 x 1 5
 ·have HN:=I (show dA x y L=false by unfold dA A4 at *;simp only[tq,nF]at q1⊢;omega);rw[HN.o];exact Wx
 have p1:1<=x/\x<=5:=by unfold A4 at q1;simpa using q1
 obtain⟨p1,p2⟩:=p1;cases q2:A4 y 1 (5-x)
 ·have HN:=I (show dA x y L=false by unfold dA A4 at *;simp only[tq,nF]at q2⊢;omega);rw[HN.o];exact Wx
 have p3:1<=y/\y<=5-x:=by unfold A4 at q2;simpa using q2
 obtain⟨p3,p4⟩:=p3;by_cases K:(n:Int)=x
 ·have E:((n:Int) != x)=false:=by simp[K]
  have HP:=I K;clear K;unfold f8;go_in
  go_wp2_with (go_at_call 32;refine cP ta ?_)
  go_loopw [3] (λi wr=>∃k:Nat,k<=n/\i=U k/\b9 ((L.take k).all (kh y)=true)/\E7 (w.alloc (QD #[U x,U y,GI a n cap] 91)) wr) (λi _=>n-(intOf i).toNat)
  ·exact⟨0,gi _,rfl,I rfl,E7.refl _⟩
  obtain⟨k,hk,rfl,HA,hx⟩:=hrel;have c1:wr.cell? (O w 1)=some (U y):=hx.ext.o6 j7;have c2:wr.cell? (O w 2)=some (GI a n cap):=hx.ext.o6 j7;have C0:=I (HX.trans hx.ext);have B7:=I hx;by_cases hlt:k<n
  ·obtain⟨b,off,a',n',c',rfl,hc,hr⟩:=(h1.ext hx.ext).at hlt;have hq:=λj=>be (mO 100 (hr.drewN j))
   have HR:=I hr.hlen;clear hr hx;have Z:=I hq;clear hq;cases hs:gw (L[k]?.getD []) 100
   ·have HS:=I hs;rw[hs]at Z;clear hs;go_wp2
    go_quiet ((go_at_call 239;exact Z.o _))
    go_wp2;go_ret;refine⟨ag ?_,CI C0.o _⟩;symm;rw[jZ];have Fe:k<JL L:=k8 H.o;have:L.any (fU y)=true:=by
     rw[i'];refine⟨L[k],eN Fe,?_⟩;have h2:=pw p3 j0 L[k];have h3:kh y L[k]=false:=by unfold kh;have:=HS.o;simp only[Fe,Id,Nm]at this;rw[this];rfl
     rw[h3]at h2
     simpa using h2.symm
    rw[this];simp
   have HS:=I hs;rw[hs]at Z;clear hs;by_cases hb:(n':Int)=y
   ·have E:((n':Int) != y)=false:=by simp[hb]
    have HB:=I hb;clear hb;go_wp2
    go_quiet ((go_at_call 239;exact Z.o _))
    go_wp2
    go_roundw
    case rel=>exact⟨k+1,by omega,by go_num,I (by rw[fw (k8 H.o),tn,HA.o];simp[kh,HS.o,HR.o,HB.o]),B7.trans ⟨_,rfl⟩⟩
    exact sw
   have E:((n':Int) != y)=true:=by simp[hb]
   have HB:=I hb;clear hb;go_wp2
   go_quiet ((go_at_call 239;exact Z.o _))
   go_wp2;go_ret;refine⟨ag ?_,CI C0.o _⟩;symm;rw[jZ];have Fe:k<JL L:=k8 H.o;have:L.any (fU y)=true:=by
    rw[i'];refine⟨L[k],eN Fe,?_⟩;have:=HR.o;simp only[Fe,Id,Nm]at this;unfold fU;rw[this,Ok HB.o];rfl
   rw[this];simp
  clear hx;go_wp2;go_ret;refine⟨ag ?_,C0⟩;symm;have:=HA.o;rw[bR (k8 H.o)]at this;rw[jZ,H.o];have h2:L.any (fU y)=false:=by
   rw[List.any_eq_false];intro r hr;have h3:=gy.1 this r hr;rw[pw p3 j0]at h3
   simpa using h3
  rw[h2];have hp:=HP.o;simp[p1,p2,p3,p4,hp]
 have E:((n:Int) != x)=true:=by simp[K]
 have HN:=I (show dA x y L=false by unfold dA;rw[H.o];simp only[tq,nF];omega);rw[HN.o];clear K;exact Wx
def UD:∀s:Fin 32,∀k:Fin 5,bits .andNot .i64 ((s.val:Nat):Int) (2^k.val)=(if M2 ((s.val:Nat):Int) k.val then((s.val-2^k.val:Nat):Int) else((s.val:Nat):Int)):=by decide +kernel
def WH{s k:Nat}(hs:s<32)(E:k<5)(h:M2 (s:Int) k=true):bits .andNot .i64 (s:Int) (2^k)=((s-2^k:Nat):Int):=by
 have:=UD ⟨s,hs⟩ ⟨k,E⟩;simp only[h,Pl]at this;exact this
def yt:∀s:Fin 32,∀k:Fin 5,∀j:Fin 5,M2 ((s.val:Nat):Int) k.val=true->M2 ((s.val-2^k.val:Nat):Int) j.val=(M2 ((s.val:Nat):Int) j.val&&!decide (j.val=k.val)):=by decide +kernel
def UE{s k j:Nat}(hs:s<32)(E:k<5)(H:j<5)(h:M2 (s:Int) k=true):M2 ((s-2^k:Nat):Int) j=(M2 (s:Int) j&&!decide (j=k)):=yt ⟨s,hs⟩ ⟨k,E⟩ ⟨j,H⟩ h
section
variable(S B:Nat)(G:l8)(s:Nat)
def iv(i j:Nat):Int:=(G[i]?.getD [])[j]?.getD 0
def fN(taken:o3)(i j:Nat):Bool:=M2 (s:Int) i&&(M2 (s:Int) (S+j)&&!PK taken (j:Int))
def ce:Nat->o3->o3×Int
 | 0,_=>([],0)
 | r+1,taken=>(List.range B).foldl (λacc j=>if fN S s taken (S-(r+1)) j=true then(if(ce r (taken++[(j:Int)])).2+iv G (S-(r+1)) j > acc.2 then((j:Int)::(ce r (taken++[(j:Int)])).1,(ce r (taken++[(j:Int)])).2+iv G (S-(r+1)) j) else acc) else acc)
     (-1::(ce r taken).1,(ce r taken).2)
def dK(r:Nat)(taken:o3)(k:Nat):o3×Int :=
 (List.range k).foldl (λacc j=>if fN S s taken (S-(r+1)) j=true then(if(ce S B G s r (taken++[(j:Int)])).2+iv G (S-(r+1)) j > acc.2 then((j:Int)::(ce S B G s r (taken++[(j:Int)])).1,(ce S B G s r (taken++[(j:Int)])).2+iv G (S-(r+1)) j) else acc) else acc)
   (-1::(ce S B G s r taken).1,(ce S B G s r taken).2)
def gM(r:Nat)(taken:o3):ce S B G s (r+1) taken=dK S B G s r taken B:=rfl
def gY(r:Nat)(taken:o3):dK S B G s r taken 0=(-1::(ce S B G s r taken).1,(ce S B G s r taken).2):=rfl
def dG(r:Nat)(taken:o3)(k:Nat):dK S B G s r taken (k+1)=if fN S s taken (S-(r+1)) k=true then(if(ce S B G s r (taken++[(k:Int)])).2+iv G (S-(r+1)) k > (dK S B G s r taken k).2 then((k:Int)::(ce S B G s r (taken++[(k:Int)])).1,(ce S B G s r (taken++[(k:Int)])).2+iv G (S-(r+1)) k) else dK S B G s r taken k) else dK S B G s r taken k:=by
 unfold dK;rw[rN,Wr];rfl
def gF(E:∀i j,0<=iv G i j/\iv G i j<=100):∀(r:Nat) (taken:o3),(ce S B G s r taken).1.length=r/\0<=(ce S B G s r taken).2/\(ce S B G s r taken).2<=100*r
 | 0,_=>by simp[ce]
 | r+1,taken=>by
   rw[gM];have hb:∀k,(dK S B G s r taken k).1.length=r+1/\0<=(dK S B G s r taken k).2/\(dK S B G s r taken k).2<=100*(r+1:Nat):=by
    intro k
    induction k with
    | zero =>
      have:=gF E r taken;rw[gY];simp only[nR];omega
    | succ k ih =>
      rw[dG];have h1:=gF E r (taken++[(k:Int)]);have h2:=E (S-(r+1)) k;split
      ·split
       ·simp only[nR];omega
       exact ih
      exact ih
   exact hb B
def BQ(E:∀i j,0<=iv G i j/\iv G i j<=100)(r:Nat)(taken:o3)(k:Nat):(dK S B G s r taken k).1.length=r+1/\0<=(dK S B G s r taken k).2/\(dK S B G s r taken k).2<=100*(r+1:Nat):=by
 induction k with
 | zero =>
   have:=gF S B G s E r taken;rw[gY];simp only[nR];omega
 | succ k ih =>
   rw[dG];have h1:=gF S B G s E r (taken++[(k:Int)]);have h2:=E (S-(r+1)) k;split
   ·split
    ·simp only[nR];omega
    exact ih
   exact ih
structure KU  where
 now:o3
 Jj:o3
 most:Int
def eg:Nat->Nat->Int->KU->KU
 | 0,left,sum,st=>if sum > st.most then⟨st.now,st.now,sum⟩ else st
 | r+1,left,sum,st =>
   if M2 (s:Int) (S-(r+1))=false then eg r left sum ⟨st.now.set (S-(r+1)) (-1),st.Jj,st.most⟩
   else(List.range B).foldl (λst j=>if M2 (left:Int) (S+j)=true then eg r (left-2^(S+j)) (sum+iv G (S-(r+1)) j) ⟨st.now.set (S-(r+1)) (j:Int),st.Jj,st.most⟩ else st)
    (eg r left sum ⟨st.now.set (S-(r+1)) (-1),st.Jj,st.most⟩)
def fX(r left:Nat)(sum:Int)(st:KU)(k:Nat):KU :=
 (List.range k).foldl (λst j=>if M2 (left:Int) (S+j)=true then eg S B G s r (left-2^(S+j)) (sum+iv G (S-(r+1)) j) ⟨st.now.set (S-(r+1)) (j:Int),st.Jj,st.most⟩ else st)
   (eg S B G s r left sum ⟨st.now.set (S-(r+1)) (-1),st.Jj,st.most⟩)
def uZ{r left:Nat}{sum:Int}{st:KU}(h:M2 (s:Int) (S-(r+1))=false):eg S B G s (r+1) left sum st=eg S B G s r left sum ⟨st.now.set (S-(r+1)) (-1),st.Jj,st.most⟩:=by
 rw[eg,f9 h]
def yz{r left:Nat}{sum:Int}{st:KU}(h:M2 (s:Int) (S-(r+1))=true):eg S B G s (r+1) left sum st=fX S B G s r left sum st B:=by
 rw[eg,f7 (by simp[h])];rfl
def pM(r left:Nat)(sum:Int)(st:KU):fX S B G s r left sum st 0=eg S B G s r left sum ⟨st.now.set (S-(r+1)) (-1),st.Jj,st.most⟩:=rfl
def lH(r left:Nat)(sum:Int)(st:KU)(k:Nat):fX S B G s r left sum st (k+1)=if M2 (left:Int) (S+k)=true then eg S B G s r (left-2^(S+k)) (sum+iv G (S-(r+1)) k) ⟨(fX S B G s r left sum st k).now.set (S-(r+1)) (k:Int),(fX S B G s r left sum st k).Jj,(fX S B G s r left sum st k).most⟩ else fX S B G s r left sum st k:=by
 simp only[fX,rN,Wr,RN,List.foldl_nil]
def kM(i:Nat)(now:o3)(sum:Int)(st0:KU)(b:o3×Int)(out:KU):Prop :=
 JL out.now=S/\out.now.take i=now.take i/\((st0.most<sum+b.2/\out.Jj=now.take i++b.1/\out.most=sum+b.2)∨(¬st0.most<sum+b.2/\out.Jj=st0.Jj/\out.most=st0.most))
def ni{l:o3}{i:Nat}(x:Int)(h:i<JL l):(l.set i x).take (i+1)=l.take i++[x]:=by
 rw[List.take_set,xl h,ct _ _ m9];congr 1;have:i-(l.take i).length=0:=m9;rw[this];rfl
def mV(hS:S+B<=5):∀(r left:Nat) (taken:o3) (sum:Int) (st:KU),r<=S->JL st.now=S->left<32 ->
 (∀j,j<B->M2 (left:Int) (S+j)=(M2 (s:Int) (S+j)&&!PK taken (j:Int))) ->
 kM S (S-r) st.now sum st (ce S B G s r taken) (eg S B G s r left sum st)
 | 0,left,taken,sum,st,hr,hl,hlt,hbit=>by
   have ht:st.now.take S=st.now:=bR j0;unfold kM;simp only[ce,eg,Nat.sub_zero,ht,C3,Int.add_zero];by_cases h:sum > st.most
   ·rw[f9 h];exact⟨hl,ht,.inl ⟨h,rfl,rfl⟩⟩
   rw[f7 h];exact⟨hl,ht,.inr ⟨h,rfl,rfl⟩⟩
 | r+1,left,taken,sum,st,hr,hl,hlt,hbit=>by
   have hi:S-r=S-(r+1)+1:=j0
   have⟨i,hI⟩:=e9 (S-(r+1));have hiS:i<S:=j0
   have Z:S-r=i+1:=j0
   have h0:kM S i st.now sum st (-1::(ce S B G s r taken).1,(ce S B G s r taken).2) (eg S B G s r left sum ⟨st.now.set i (-1),st.Jj,st.most⟩):=by
    have H:=mV hS r left taken sum ⟨st.now.set i (-1),st.Jj,st.most⟩ j0 YE hlt hbit;unfold kM at H⊢;rw[Z]at H;simp only[ni _ (show i<st.now.length by omega)]at H;obtain⟨g1,g2,g3⟩:=H;refine⟨g1,?_,?_⟩
    ·have:=If (List.take i) g2;rw[Y5,ub j0,List.take_left' m9]at this;exact this
    simpa[yf]using g3
   cases hb:M2 (s:Int) (S-(r+1))
   ·rw[uZ _ _ _ _ hb,gM,<-hI];have hno:∀k,dK S B G s r taken k=(-1::(ce S B G s r taken).1,(ce S B G s r taken).2):=by
     intro k
     induction k with
     | zero=>rfl
     | succ k H=>rw[dG,f7 (by simp[fN,hb]),H]
    rw[hno];exact h0
   rw[yz _ _ _ _ hb,gM];have ES:∀k,k<=B->kM S i st.now sum st (dK S B G s r taken k) (fX S B G s r left sum st k):=by
    intro k
    induction k with
    | zero=>intro _;rw[pM,gY,<-hI];exact h0
    | succ k E =>
      intro hk;have E:=E j0;rw[lH,dG];have hf:fN S s taken (S-(r+1)) k=M2 (left:Int) (S+k):=by unfold fN;rw[hb,hbit k j0];simp
      rw[hf];by_cases o7:M2 (left:Int) (S+k)=true
      ·rw[f9 o7,f9 o7,<-hI];generalize hst:fX S B G s r left sum st k=w1 at E⊢;generalize Ni:dK S B G s r taken k=b1 at E⊢;obtain⟨l1,l2,l3⟩:=E;have H:=mV hS r (left-2^(S+k)) (taken++[(k:Int)]) (sum+iv G i k) ⟨w1.now.set i (k:Int),w1.Jj,w1.most⟩ j0 (by simpa using l1) (Ru (Nat.sub_le _ _) hlt) (by
        intro j hj;rw[UE hlt j0 j0 o7,hbit j hj];unfold PK;rw[List.contains_append];by_cases hjk:j=k
        ·subst hjk;simp
        have h1:decide (S+j=S+k)=false:=m9;have h2:[(k:Int)].contains (j:Int)=false:=m9;rw[h1,h2];simp)
       generalize ce S B G s r (taken++[(k:Int)])=b2 at H⊢;generalize eg S B G s r (left-2^(S+k)) (sum+iv G i k) ⟨w1.now.set i (k:Int),w1.Jj,w1.most⟩=w2 at H⊢;unfold kM at H;rw[Z]at H;simp only[ni _ (show i<w1.now.length by omega),l2]at H;obtain⟨g1,g2,g3⟩:=H;have gt:w2.now.take i=st.now.take i:=by
        have:=If (List.take i) g2;rw[Y5,ub j0,List.take_left' m9]at this;exact this
       unfold kM;refine⟨g1,gt,?_⟩;by_cases LW:b2.2+iv G i k > b1.2
       ·rw[f9 LW];rcases g3 with⟨p1,K,p3⟩|⟨p1,K,p3⟩
        ·refine .inl ⟨?_,by rw[K];simp,by simp only;omega⟩
         try simp only
         rcases l3 with⟨q1,q2,q3⟩|⟨q1,q2,q3⟩<;>omega
        try simp only at p1 K p3⊢
        rcases l3 with⟨q1,q2,q3⟩|⟨q1,q2,q3⟩
        ·omega
        exact .inr ⟨by omega,by rw[K,q2],by omega⟩
       rw[f7 LW];rcases g3 with⟨p1,K,p3⟩|⟨p1,K,p3⟩
       ·try simp only at p1 K p3
        rcases l3 with⟨q1,q2,q3⟩|⟨q1,q2,q3⟩<;>omega
       try simp only at p1 K p3
       rcases l3 with⟨q1,q2,q3⟩|⟨q1,q2,q3⟩
       ·exact .inl ⟨q1,by rw[K,q2],by omega⟩
       exact .inr ⟨q1,by rw[K,q2],by omega⟩
      rw[f7 o7,f7 o7];exact E
   have:=ES B (i8 _)
   rwa [<-hI]
end
