import Derived.Test.YtooiaklfmodcbaaGreatDoorRtAllG9
import Derived.Lib.AppendStr
import Derived.StillTailTactics
set_option linter.all false
set_option maxHeartbeats 6000000
set_option maxRecDepth 100000
namespace Go.Proofs.YtooiaklfmodcbaaGreatDoor
open Ending renaming returned->ar
open List renaming length->JL
open Obj renaming cells->QD
open Value renaming slice->GI,bool->bl,string->aE,pointer->aP
open Go.Proofs.Tryz Go.RowKit
variable{σ:Prop}
section
def Zi(h:σ:=by first|with_reducible exact o7.trans DP|with_reducible exact D0.trans DP|with_reducible exact(o7.trans (C7.alloc _ _)).trans DP):σ:=h
def ZC(h:σ:=by first|with_reducible exact o7.trans C6|with_reducible exact D0.trans C6|with_reducible exact(o7.trans (C7.alloc _ _)).trans C6):σ:=h
def Jm(h:σ:=by go_wp2_with fail;go_meet;first|exact⟨_,rfl,rfl,I (A1.put _ _)⟩|exact⟨_,rfl,rfl,I (ah.new o7 _ _)⟩|exact⟨_,rfl,rfl,I (ah.new' o7 _ _ j7)⟩):σ:=h
def Hz(h:σ:=by first| with_reducible exact o8.o _ o7 | with_reducible exact o8.o _ D0 | with_reducible exact o8.o _ ((o7.setCell QH _).setCell QH _) | with_reducible exact o8.o _ (o7.trans (C7.alloc _ _)) | with_reducible exact o8.o _ (A1.put _ _).ext):σ:=h
def Mt(h:σ:=by first|with_reducible exact o7|with_reducible exact D0|with_reducible exact o7.trans WU):σ:=h
def QH(h:σ:=by first|(simp;done)|(simp;omega)):σ:=h
def JO(h:σ:=by rw[HL.o];exact hlt):σ:=h
def Yw(h:σ:=by simp[results,qq1,go_sem,r0,r1]<;>rfl):σ:=h
def o1(h:σ:=by rw[HL.o];have:=HK.o;omega):σ:=h
def b6(h:σ:=by rw[HL.o];exact i8 _):σ:=h
def Ym(h:σ:=by rw[HL.o];omega):σ:=h
def bt(h:σ:=by simp[results,results326,go_sem]<;>rfl):σ:=h
def Qs(h:σ:=by rw[HF.o];rfl):σ:=h
def Mq(h:σ:=by have:=Uo.Hr.hlen;rw[dc,HL.o]at this;omega):σ:=h
def Yq(h:σ:=by have:=Sg.o;rw[HJ2.o,SW]at this;exact this):σ:=h
def MO(h:σ:=by simp[results,results313,go_sem]<;>rfl):σ:=h
def G0(h:σ:=by have:=HA.o;rw[HT.o]at this;exact this.symm):σ:=h
def WB(h:σ:=by rw[Ft.o];omega):σ:=h
variable{w w':J}{a:l9}{n k cap' base:Nat}{l:l7}{v:arQ}{L:List (List UInt8)}
structure i6(w:J)(a:l9)(n cap:Nat)(l:l7):Prop where
 hlen:l.length=n
 r8:n<=cap
 r9:cap<=9223372036854775807
 cell:∀k,k<n->∃b off,a=some (O b off)/\∀k,k<n->w.cell? (O b (off+k*2))=some (U (l[k]?.getD (0,0)).1)/\w.cell? (O b (off+k*2+1))=some (U (l[k]?.getD (0,0)).2)
def i6.aq9{w:J}{a:l9}{n cap:Nat}{l:l7}(h:i6 w a n cap l):n<=cap/\cap<=9223372036854775807:=⟨h.r8,h.r9⟩
def i6.ext{cap:Nat}(h:i6 w a n cap l)(hx:C7 w w'):i6 w' a n cap l :=
 ⟨h.hlen,h.r8,h.r9,λk E=>let⟨b,off,e,hc⟩:=h.cell k E;⟨b,off,e,λk E=>⟨hx.o6 (hc k E).1,hx.o6 (hc k E).2⟩⟩⟩
def i6.at{cap:Nat}(h:i6 w a n cap l)(E:k<n):
 ∃b off x y,a=some (O b off)/\l[k]?.getD (0,0)=(x,y)/\w.cell? (O b (off+k*2))=some (U x)/\w.cell? (O b (off+k*2+1))=some (U y) :=
 let⟨b,off,e,hc⟩:=h.cell k E;⟨b,off,_,_,e,rfl,(hc k E).1,(hc k E).2⟩
def es(h:k<JL l):l.take (k+1)=l.take k++[l[k]?.getD (0,0)]:=by
 rw[xl h];simp[h]
def Y8(h:σ:=by
 obtain⟨k,hk,rfl,htk,hx⟩:=hrel;have HT:=I htk;clear htk;by_cases hlt:k<n
 ·have h1:=h.ext hx.ext;have h1':=h'.ext hx.ext;obtain⟨b,off,x,y,rfl,Eo,Eu,GU⟩:=h1.at hlt;obtain⟨b',off',x',y',rfl,LP,hc1',hc2'⟩:=h1'.at hlt;have Lv:=I Eo;have M0:=I LP;clear Eo LP;by_cases hq:x=x'/\y=y'
  ·obtain⟨rfl,rfl⟩:=hq;go_wp2
   go_quiet (fail)
   go_wp2
   go_roundw
   case rel=>exact⟨k+1,by omega,by go_num,by rw[es (k8 HL.o),es (k8 OA.o),HT.o,Lv.o,M0.o],hx.trans ⟨_,rfl⟩⟩
   simp[intOf];omega
  have HQ:=I hq;cases A':(x == x')
  all_goals
   cases EN:(y == y')
  case neg.true.true=>exact absurd ⟨by simpa using A',by simpa using EN⟩ hq
  all_goals
   clear hq;go_wp2
   go_quiet (fail)
   go_wp2;go_ret;refine⟨ag ?_,hx.trans ⟨_,rfl⟩⟩;symm;rw[nF];intro e;have:=Lv.symm.trans ((If (λl=>l[k]?.getD (0,0)) e).trans M0);simp only[wb]at this;exact HQ.o this
 ·go_wp2;go_ret;refine⟨ag ?_,hx⟩;symm;rw[ef];have:=HT.o
  rwa [bR (k8 HL.o),bR (k8 OA.o)]at this
 ):σ:=h
def SE(h:σ:=by
 have adt:((n:Int) != (n':Int))=true:=by simp;omega
 have HN:=I hne;clear hne;go_in
 go_wp2;go_ret;refine⟨ag ?_,E7.refl _⟩;symm;rw[nF];intro e;exact HN.o (by rw[<-HL.o,<-OA.o,e])
 ):σ:=h
def vw{a':l9}{n' cap:Nat}{E:l7}(h:i6 w a n cap l)(h':i6 w a' n' cap' E):
 Calls prog 115 #[GI a n cap,GI a' n' cap'] w λe w'=>e=ar (bl (decide (l=E)))/\E7 w w':=by
 have⟨hn,hm⟩:=h.aq9;have⟨hn',hm'⟩:=h'.aq9;have HL:=I h.hlen;have OA:=I h'.hlen;by_cases hne:n=n'
 ·subst hne;go_in
  go_wp2
  go_loopw [5] (λi wr=>∃k:Nat,k<=n/\i=U k/\l.take k=E.take k/\E7 w wr) (λi _=>n-(intOf i).toNat)
  ·exact⟨0,gi _,rfl,rfl,E7.refl _⟩
  exact Y8
 exact SE
def Aw{a':l9}{n' cap:Nat}{E:l7}(h:i6 w a n cap l)(h':i6 w a' n' cap' E):
 Calls prog 143 #[GI a n cap,GI a' n' cap'] w λe w'=>e=ar (bl (decide (l=E)))/\E7 w w':=by
 have⟨hn,hm⟩:=h.aq9;have⟨hn',hm'⟩:=h'.aq9;have HL:=I h.hlen;have OA:=I h'.hlen;by_cases hne:n=n'
 ·subst hne;go_in
  go_wp2
  go_loopw [13] (λi wr=>∃k:Nat,k<=n/\i=U k/\l.take k=E.take k/\E7 w wr) (λi _=>n-(intOf i).toNat)
  ·exact⟨0,gi _,rfl,rfl,E7.refl _⟩
  exact Y8
 exact SE
def Ve(l:l7):Array arQ:=(l.flatMap λp=>[Value.int .i64 p.1,Value.int .i64 p.2]).toArray
def sQ:∀(l:l7) (k:Nat),k<JL l->(l.flatMap λp=>[Value.int .i64 p.1,Value.int .i64 p.2])[k*2]?=some (U (l[k]?.getD (0,0)).1)/\(l.flatMap λp=>[Value.int .i64 p.1,Value.int .i64 p.2])[k*2+1]?=some (U (l[k]?.getD (0,0)).2)
 | [],k,h=>absurd h j7
 | p::l,0,_=>by simp
 | p::l,k+1,h=>by
   have:=sQ l k ri;rw[show(k+1)*2=k*2+1+1 by omega]
   simpa using this
def we:∀(l:l7) (k:Nat) (x y:Int),k<JL l->((l.flatMap λp=>[Value.int .i64 p.1,Value.int .i64 p.2]).set (k*2) (U x)).set (k*2+1) (U y)=(l.set k (x,y)).flatMap λp=>[Value.int .i64 p.1,Value.int .i64 p.2]
 | [],k,_,_,h=>absurd h j7
 | p::l,0,_,_,_=>by simp
 | p::l,k+1,x,y,h=>by
   have:=we l k x y ri;rw[show(k+1)*2=k*2+1+1 by omega]
   simpa using this
def pT:∀l:l7,JL (l.flatMap λp=>[Value.int .i64 p.1,Value.int .i64 p.2])=JL l*2
 | []=>rfl
 | p::l=>by have:=pT l;simp at this⊢;omega
def R4(w:J)(b:Nat)(t:TypeId)(l:l7):Prop:=w.heap[b]?=some (QD (Ve l) t (0,0))
def Tryz.Z5:(prog.info? 56).map (λi=>(i.zero,i.size,i.bytes))=some (some (.agg #[U 0,U 0]),2,16):=by kernel_rfl
def Fw(l:l7):List arQ:=l.flatMap λp=>[Value.int .i64 p.1,Value.int .i64 p.2]
def yX(l E:l7):Fw (l++E)=Fw l++Fw E:=by simp[Fw]
def xx:∀(l:l7),∀u∈Fw l,u.oneCell'=true
 | [],u,h=>by simp[Fw]at h
 | p::l,u,h=>by
   simp only[Fw,TO,Wn,SU,Wu,Oi]at h
   rcases h with(rfl|rfl)|h
   ·rfl
   ·rfl
   exact xx l u h
def WV(w:J)(base:Nat)(v:arQ)(l:l7):Prop:=w.ownsRow base 56 2 v (JL l) (Fw l)
def WV.form(h:WV w base v l):∃a cap,v=GI a (JL l) cap/\JL l<=cap/\cap<=9223372036854775807:=by
 exact j'
def WV.var(h:WV w base v l):∃a n cap,v=GI a n cap/\b9 (JL l=n):=by
 obtain⟨a,cap,e,_⟩:=h.form;exact⟨a,_,cap,e,rfl⟩
def WV.rats{cap:Nat}(h:WV w base (GI a n cap) l):i6 w a n cap l:=by
 rcases h.2 with⟨he,h0⟩|⟨g,cap',E,he,_,hg,h1,Z,hs,K⟩
 ·exact TR
 simp only[nP]at he;obtain⟨rfl,rfl,rfl⟩:=he;refine⟨rfl,h1,by simpa[maxLen]using Z,λk hk=>⟨g,0,rfl,λk hk=>?_⟩⟩;rw[hI,aR w g _ E _ (0,0) hg,aR w g _ E _ (0,0) hg];have⟨H,G⟩:=sQ l k hk;change(Fw l)[k*2]?=_ at H;change(Fw l)[k*2+1]?=_ at G;rw[<-K,XD,f9 j0]at H G;exact⟨by simpa using H,by simpa using G⟩
def WV.lt(h:WV w base v l):∀k,v.ownBlock=some k->base<=k/\k<w.heap.size:=YB h
def WV.keep(h:WV w base v l)(hk:∀k,v.ownBlock=some k->w'.heap[k]?=w.heap[k]?):WV w' base v l:=by
 exact VO
def WV.ext(h:WV w base v l)(hx:C7 w w'):WV w' base v l:=h.keep λk E=>hx.block k (h.lt k E).2
def WV.on(h:WV w base v l):On base w (λW=>WV W base v l):=λw2 G=>h.keep λk E=>G k (h.lt k E).1 (h.lt k E).2
def WV.mono{base':Nat}(h:WV w base v l)(hb:base'<=base):WV w base' v l:=by
 exact Wf
def WV.nil(w:J)(base:Nat):WV w base d6 []:=WD w base _ 2
def qj{w:J}{base:Nat}:WV w base d6 []:=WV.nil w base
section
variable{P:Program}{w:J}{ops:Array Oper}{rest:List Oper}{o:Oper}{a:Act}{Q:Exit->Act->J->Prop}
def dq{K:Act->J->Prop}(s x:Operand)(ho:o.op=.call { callee:=.builtin .append,args:=#[s,x],argTypes:=#[32,32] })
 (base:Nat) (v:arQ) (l:l7) (hs:a.eval s=v) (Fm:WV w base v l) (ao:l9) (m c:Nat) (E:l7) (hx:a.eval x=GI ao m c) (Ho:i6 w ao m c E) (hb:JL l+m<=1099511627776) (H:base<=w.heap.size)
 (h:∀Z w',WV w' base Z (l++E)->w.grownBy w' v.ownBlock->Hx w v Z->K (a.put o.dst Z) w'):o.wp prog a w K Q:=by
 have⟨i,hi,F8,Li,J6⟩:=X' Tryz.Z5;cases ao with
 | none =>
   have hm:m=0:=by
    exact sv
   subst hm;have hl:E=[]:=QX Ho.hlen;subst hl;refine gX w s x 32 ho base 56 i 2 YN hi v (JL l) _ hs Fm c hx ?_;exact h v w (by simpa using Fm) (Ua _ _) (Hx.refl _ _)
 | some ad =>
   refine fI w s x 32 ho base 56 i (.agg #[U 0,U 0]) 2 16 YN hi F8 Li J6 rfl Fd v (JL l) (Fw l) hs Fm ad m c (Fw E) hx (by have:=pT E;have:=Ho.hlen;unfold Fw;omega) ?_ (xx E) YZ j0 H ?_
   ·intro j u G;have F0:j<JL E*2:=by
     have:=(O2.1 G).1;have h2:=pT E;unfold Fw at this;omega
    have hml:=Ho.hlen;have⟨b,off,e,hc⟩:=Ho.cell (j/2) j0;simp only[bq]at e;subst e;have⟨c1,c2⟩:=hc (j/2) j0;have⟨q1,q2⟩:=sQ E (j/2) j0;change(Fw E)[j/2*2]?=_ at q1;change(Fw E)[j/2*2+1]?=_ at q2;have hj:j=j/2*2∨j=j/2*2+1:=j0
    have ha:∀k,((O b off):Addr).add k=(O b (off+k)):=λk=>by unfold Addr.add;split<;>simp_all
    rw[ha];rcases hj with hj|hj
    ·rw[hj]at G⊢;rw[q1]at G;rw[c1,<-G]
    rw[hj]at G⊢;rw[q2]at G;rw[<-Nat.add_assoc,c2,<-G]
   intro Z w' h1 h2 h3;refine h Z w' ?_ h2 h3;unfold WV;rw[SW,Ho.hlen,yX];exact h1
def cG(NH:o.guard=none)(s x:Operand)(ho:o.op=.call { callee:=.builtin .append,args:=#[s,x],argTypes:=#[32,32] })
 (base:Nat) (v:arQ) (l:l7) (hs:a.eval s=v) (Fm:WV w base v l) (ao:l9) (m c:Nat) (H:l7) (hx:a.eval x=GI ao m c) (Ho:i6 w ao m c H) (hb:JL l+m<=1099511627776) (E:base<=w.heap.size)
 (h:∀G w',WV w' base G (l++H)->w.grownBy w' v.ownBlock->Hx w v G->wpList prog ops Q rest (a.put o.dst G) w'):wpList prog ops Q (o::rest) a w :=
 Sq NH λ_ K=>dq s x ho base v l hs Fm ao m c H hx Ho hb E λG w' h1 h2 Z=>K _ _ (h G w' h1 h2 Z)
end
def WV.made(w:J)(base:Nat)(hb:base<=w.heap.size):WV (w.alloc (QD #[] 56)) base (EQ w 0 0) [] :=
 wA w #[] 0 hb j0 rfl
def i6.one(w:J)(x y:Int)(t:TypeId):i6 (w.alloc (QD #[U x,U y] t)) (some (O w 0)) 1 1 [(x,y)] :=
 ⟨rfl,i8 _,by omega,λk E=>⟨_,0,rfl,λk E=>by
  obtain rfl:k=0:=j0
  simp⟩⟩
def i6.one'(w:J)(x y:Int)(t:TypeId)(n:Nat)(E:n=w.heap.size):i6 (w.alloc (QD #[U x,U y] t)) (some (O n 0)) 1 1 [(x,y)]:=by
 subst E;exact i6.one w x y t
def C2{w:J}{x y:Int}{t:TypeId}{n:Nat}(E:n=w.heap.size):i6 (w.alloc (QD #[U x,U y] t)) (some (O n 0)) 1 1 [(x,y)]:=i6.one' w x y t n E
section
variable{ops:Array Oper}{rest:List Oper}{o:Oper}{a:Act}{Q:Exit->Act->J->Prop}
def Ot{W wr:J}{b:l9}{n q base g:Nat}{l:l7}{s xo:Operand}{t:TypeId}(x y:Int)(HO:b9 (WV wr base (GI b n q) l))(HX:b9 (C7 W wr))(hb:JL l+1<=1099511627776)
 (h:∀(a':l9) (n' c':Nat) (w':J),b9 (JL (l++[(x,y)])=n')->b9 (C7 W w')->b9 (WV w' base (GI a' n' c') (l++[(x,y)]))->wpList prog ops Q rest (a.put o.dst (GI a' n' c')) w')
 (E:o.guard=none:=by exact rfl) (ho:o.op=.call { callee:=.builtin .append,args:=#[s,xo],argTypes:=#[32,32] }:=by exact rfl)
 (hs:a.eval s=GI b n q:=by exact rfl) (hx:a.eval xo=EQ g 1 1:=by exact rfl) (hg:g=wr.heap.size:=by simp) (hW:W.heap.size<=base:=by first|exact i8 _|omega|(simp<;>omega)) (hB:base<=wr.heap.size+1:=by first|omega|(simp<;>omega)) :
 wpList prog ops Q (o::rest) a (wr.alloc (QD #[U x,U y] t)):=by
 subst hg;refine cG E s xo ho base _ l hs (HO.ext WU) _ 1 _ [(x,y)] hx (i6.one _ _ _ _) hb m9 λv' w' ho hg _=>?_;exact Je
end
def WV.set{g cap:Nat}(h:WV w base (EQ g n cap) l)(G:k<JL l)(x y:Int):
 WV ((w.setCell (O g (k*2)) (U x)).setCell (O g (k*2+1)) (U y)) base (EQ g n cap) (l.set k (x,y)):=by
 obtain⟨a',c',E,_⟩:=WV.form h;simp only[nP]at E;obtain⟨_,rfl,_⟩:=E;have K:=(Yk h (k*2) (U x)).1;have H:=(Yk K (k*2+1) (U y)).1;unfold WV;rw[k7];have e:=we l k x y G;change _=Fw (l.set k (x,y))at e;rw[<-e];exact H
def WV.block{cap:Nat}(h:WV w base (GI a n cap) l)(hk:k<n):∃g,a=some (O g 0)/\base<=g/\(∀j,w.frozen? (O g j)=false)/\g<w.heap.size:=by
 exact WE
def JJ(h:σ:=by
 have hsx:(bs (Lib.itoa x)).size<=21:=by rw[aY];exact Yv x j0 j0
 have hsy:(bs (Lib.itoa y)).size<=21:=by rw[aY];exact Yv y j0 j0
 clear hb;by_cases h1:y=1
 ·subst h1;have HR:=I (show D' (x,1)=Lib.itoa x by unfold D';rw[hv];rfl);clear hv;have G0:=I (show(w.alloc (QD #[U x,U 1] 56)).cell? (O w.heap.size 0)=some (U x)by simp);have G1:=I (show(w.alloc (QD #[U x,U 1] 56)).cell? (O w.heap.size 1)=some (U 1)by simp);(try unfold f8);go_in
  go_wp2_with fail;refine(HC _).mono ?_;rintro e w1 ⟨rfl,hx⟩;have X1:=I (HX.trans hx);have g0:=hx.o6 G0.o;have g1:=hx.o6 G1.o;clear hx;go_wp2_with fail;refine(HIx _ X1).mono ?_;rintro e w2 ⟨rfl,hx⟩;have X2:=I (X1.trans hx);clear hx g0 g1;go_wp2;go_ret;exact⟨cj (by rw[HR.o]),X2⟩
 ·have HR:=I (show D' (x,y)=Lib.itoa x++([47]++Lib.itoa y)by unfold D';rw[hv,f9 rfl,f7 h1]);have hne:(y == 1)=false:=by simp[h1]
  clear hv;have G0:=I (show(w.alloc (QD #[U x,U y] 56)).cell? (O w.heap.size 0)=some (U x)by simp);have G1:=I (show(w.alloc (QD #[U x,U y] 56)).cell? (O w.heap.size 1)=some (U y)by simp);have⟨tx,Lk⟩:=e9 (bs (Lib.itoa x));have⟨ty,hty⟩:=e9 (bs (Lib.itoa y));have HJ:=I (show tx++{ data:=#[47] }++ty=bs (D' (x,y))by
   rw[HR.o,Lk,hty];show bs _++bs [47]++bs _=_;rw[ch,ch,yf])
  rw[<-Lk]at HIx hsx;rw[<-hty]at HIy hsy;clear Lk hty h1;(try unfold f8);go_in
  go_wp2_with fail;refine(HC _).mono ?_;rintro e w1 ⟨rfl,hx⟩;have X1:=I (HX.trans hx);have g0:=hx.o6 G0.o;have g1:=hx.o6 G1.o;clear hx;go_wp2_with fail;have E6:¬9223372036854775807<tx.size+1:=by omega
  have Ew:¬9223372036854775807<tx.size+1+ty.size:=by omega
  have o7:C7 w1 w1.drew:=C7.drew w1;have D0:=o7;have o8:=I (λ(w':J) (h:C7 w1 w')=>(an (h.o6 g0) (an (h.o6 g1) h)));go_wp2_with fail
  go_region_held3 (λw'=>w'.cell? (O w.heap.size 0)=some (U x)/\w'.cell? (O w.heap.size 1)=some (U y)/\C7 w1 w')
   (with_reducible exact o8.o _ o7)
   (first
     | ((with_reducible refine(HIx.o _ (X1.o.trans Mt)).mono ?_)
        rintro e w3 ⟨rfl,C6⟩;have o7:C7 w1 w3:=o7.trans C6;have Pf:=o7.size)
     | ((with_reducible refine(HIy.o _ (X1.o.trans Mt)).mono ?_)
        rintro e w4 ⟨rfl,DP⟩;have o7:C7 w1 w4:=o7.trans DP;have SA:=o7.size))
  clear o8 D0;go_wp2;go_ret;exact⟨cj HJ.o,X1.trans o7⟩
 ):σ:=h
def b8(h:σ:=by
 go_wp2;go_ret;exact⟨qq0 (by rw[HR.o];rfl),X1⟩
 ):σ:=h
def jg {w: J}(x y : Int)(ht : Lib.TabIs prog w "internal/strconv.uint64pow10" .u64 Lib.pow10Tab) :
 f8 69 #[EF x y] w (aE (bs (D' (x,y)))):=by
 have HX:=I (C7.alloc w (QD #[.int .i64 x,.int .i64 y] 56));have HT:=I ht;clear ht;have HC:=I (λw=>cH x y w);cases hv:z7 (x,y)
 ·rw[hv]at HC;have HR:=I (show D' (x,y)=[]by unfold D';rw[hv];rfl);clear hv;(try unfold f8);go_in
  go_wp2_with fail;refine IR (HC _) λw1 hx=>?_;have X1:=I (HX.trans hx);clear hx;have qq0:=@cj;exact b8
 rw[hv]at HC;have hb:(1<=y/\y<=1000000000)/\(-1000000000<=x/\x<=1000000000):=by
  have:=hv;simp only[z7,A4,eI,ef]at this;omega
 refine t8 hb (λ(w':J) (hx:C7 w w')=>kw (w:=w') x j0 j0 (ec HT.o hx)) (λ(w':J) (hx:C7 w w')=>kw (w:=w') y j0 j0 (ec HT.o hx)) λHB HIx HIy=>?_;exact JJ
def lE(x y:Int):
 f8 94 #[EF x y] w (aE (bs (D' (x,y)))):=by
 have HX:=I (C7.alloc w (QD #[.int .i64 x,.int .i64 y] 56));have HC:=I (λw=>cI x y w);cases hv:z7 (x,y)
 ·rw[hv]at HC;have HR:=I (show D' (x,y)=[]by unfold D';rw[hv];rfl);clear hv;(try unfold f8);go_in
  go_wp2_with fail;refine IR (HC _) λw1 hx=>?_;have X1:=I (HX.trans hx);clear hx;have qq0:=@cj;exact b8
 rw[hv]at HC;have hb:(1<=y/\y<=1000000000)/\(-1000000000<=x/\x<=1000000000):=by
  have:=hv;simp only[z7,A4,eI,ef]at this;omega
 refine t8 hb (λ(w':J) (hx:C7 w w')=>iJ (w:=w') x j0 j0) (λ(w':J) (hx:C7 w w')=>iJ (w:=w') y j0 j0) λHB HIx HIy=>?_;exact JJ
def Xq(l:List UInt8):Lib.strCells (bs l)=PN.all l:=by
 unfold Lib.strCells mg.all;show(bs l).data.toList.map _=l.flatMap λc=>[Value.int .u8 (c.toNat:Int)];rw[<-List.map_eq_flatMap];rfl
def lU{P:Program}{w:J}{ops:Array Oper}{rest:List Oper}{o:Oper}{a:Act}{Q:Exit->Act->J->Prop}{t ts tu:TypeId}(JI:(P.info? t).map (λi=>(i.zero,i.size,i.bytes))=some (some (.int .u8 0),1,1))(ht:P.underlying ts=some (.slice t))(Z:P.underlying tu=some .string)(NH:o.guard=none)
 (s x:Operand) (ho:o.op=.call { callee:=.builtin .append,args:=#[s,x],argTypes:=#[ts,tu] })
 (base:Nat) (v:arQ) (l:List UInt8) (hs:a.eval s=v) (Fm:A5 PN t w base v l) (G:List UInt8) (hx:a.eval x=aE (bs G)) (hb:JL l+JL G<=1099511627776) (E:base<=w.heap.size)
 (h:∀H w',A5 PN t w' base H (l++G)->w.grownBy w' v.ownBlock->wpList P ops Q rest (a.put o.dst H) w'):wpList P ops Q (o::rest) a w:=by
 obtain⟨i,hi,F8,Li,J6⟩:∃i,P.info? t=some i/\i.zero=some (.int .u8 0)/\i.size=1/\i.bytes=1:=by
  cases K:P.info? t with
  | none=>rw[K]at JI;simp at JI
  | some i=>rw[K]at JI;simp at JI;exact⟨i,rfl,JI.1,JI.2.1,JI.2.2⟩
 refine Lib.wpList_append_own_string w NH s x ts tu ho base t i ht Z hi F8 Li J6 v (JL l) (PN.all l) hs Fm (bs G) hx (by rw[aY];simp[maxLen];omega) (by rw[aY];omega) E λH w' h1 h2 _=>h H w' ?_ h2
 unfold A5;rw[SW,PN.all_append,<-Xq G,<-aY G];exact h1
def Ap{cap:Nat}{l:List UInt8}(h:A5 PN 5 w base (GI a n cap) l):(convert 49 9 (GI a n cap)).run prog w=.ok (aE (bs l)) w:=by
 have G:=h.Hr.hlen;by_cases K:n=0
 ·subst K;obtain rfl:=QX G;cases a with
  | none =>
    rw[run_convert_bytes_string w 49 9 5 none 0 cap TW V3 QU];rfl
  | some ad=>exact Qm (P:=prog) w 49 9 5 ad cap [] TW V3 QU (λj E=>absurd E (Nat.not_lt_zero _))
 obtain⟨b,off,x,rfl,_⟩:=h.Hr.at (k:=0) j0;have⟨b',off',e,hc⟩:=h.Hr.cell 0 j0;obtain⟨rfl,rfl⟩:=aM e;rw[<-G];exact Qm (P:=prog) w 49 9 5 (O b off) cap l TW V3 QU (λj E=>by
  have H:=hc j _ 0 _ (Id E) rfl;simp only[Addr.add_lit]
  simpa[PN]using H)
def ow{b o cap:Nat}{l:List (List UInt8)}(h:GL A9 w (some (O b o)) n cap l){x:List UInt8}(G:l[k]?=some x):w.cell? (O b (o+k))=some (aE (bs x)):=by
 have E:k<n:=by rw[<-h.hlen];exact(O2.1 G).1
 have⟨b',o',e,hc⟩:=h.cell k E;obtain⟨rfl,rfl⟩:=aM e
 simpa[A9]using hc k x 0 _ G rfl
def Tryz.infoByte:(prog.info? 5).map (λi=>(i.zero,i.size,i.bytes))=some (some (.int .u8 0),1,1):=by kernel_rfl
def Z4{cap:Nat}(h:A5 A9 9 w base (GI a n cap) L)(sep:List UInt8)(hn:n<=2000000)(hlen:JL (Lib.join L sep)<=140737488355328):
 f8 149 #[GI a n cap,aE (bs sep)] w (aE (bs (Lib.join L sep))):=by
 have E:JL L=n:=h.Hr.hlen;by_cases h0:n=0
 ·subst h0;obtain rfl:=QX E;exact(Any.strings_Join_none wR tZ a cap (bs sep) w).mono λe w' ⟨Z,hw⟩=>⟨Z,hw▸WF⟩
 obtain⟨g,rfl,_,_,hg⟩:=h.block (k:=0) j0;have hm:(L.map bs).map (·.data.toList)=L:=by
  rw[Uc];exact List.map_id L
 have⟨b,off,e,hc⟩:=h.Hr.cell 0 j0;obtain⟨rfl,rfl⟩:=aM e;have H:=Any.strings_Join wR tZ g 0 cap (L.map bs) (bs sep) w (λj x G=>by
  rw[vM,Sc]at G;obtain⟨y,K,rfl⟩:=G
  simpa[A9]using hc j y 0 _ K rfl) hg (by rw[dc];omega) (by rw[dc,E];exact h.Hr.r8) (by rw[hm];exact hlen)
 rw[dc,E,hm]at H;exact H
def wB{cap:Nat}(h:A5 A9 9 w base (GI a n cap) L)(sep:List UInt8)(E:n<=2000000)(hlen:JL (Lib.join L sep)<=140737488355328):
 f8 71 #[GI a n cap,aE (bs sep)] w (aE (bs (Lib.join L sep))):=by
 have H:=I (Z4 h sep E hlen);clear h hlen;unfold f8;go_in
 go_wp2_with fail;refine i7 H λw1 G=>?_;go_wp2;go_ret;exact⟨rfl,G⟩
def um{sep:List UInt8}{x:List UInt8}(hx:L[k]?=some x):Lib.join (L.take (k+1)) sep=(Lib.join (L.take k) sep++if k=0 then [] else sep)++x:=by
 rw[fQ hx];by_cases E:k=0
 ·subst E;rw[f9 rfl];simp[tg,Lib.join_nil]
 rw[f7 E,Cz];intro e;have:=If List.length e;have hk:=(O2.1 hx).1;rw[k6,Pb]at this;omega
def vq(L:List (List UInt8))(sep:List UInt8):∀k,k<=JL L->JL (Lib.join (L.take k) sep)<=JL (Lib.join L sep):=by
 intro k hk;obtain⟨d,hd⟩:∃d,k+d=JL L:=⟨JL L-k,by omega⟩
 induction d generalizing k with
 | zero =>
   rw[bR j0];exact i8 _
 | succ d ih =>
   have E:=ih (k+1) j0 j0;have G:k<JL L:=j0;rw[um (Id G),SW,SW]at E;omega
def F3(h:σ:=by
 refine er ?_;exact⟨k+1,n6,c6,a6,I (k8 HK.o),rfl,by go_num,EP,FU⟩
 ):σ:=h
def RH(h:σ:=by
 exact⟨0,0,0,_,I j0,rfl,rfl,HO,I WU⟩
 ):σ:=h
def zW{cap:Nat}(h:GL A9 w a n cap L)(sep:List UInt8)(hn:n<=2000000)(hlen:JL (Lib.join L sep)+JL sep<=1099511627776):
 f8 15 #[GI a n cap,aE (bs sep)] w (aE (bs (Lib.join L sep))):=by
 have HL:=I h.hlen;have⟨hnc,K3⟩:=h.aq9;refine t8 (λ(w':J) (hx:C7 w w')=>h.ext hx) (A5.D2 PN 5 w w _ rfl (i8 _)) (λ(k:Nat) (hk:k<=n)=>(show(Lib.join (L.take k) sep).length+JL sep<=1099511627776 by have:=vq L sep k (by rw[HL.o];exact hk);omega)) λHS HO abr=>?_;clear h hlen;unfold f8;go_in
 go_wp2
 go_loopg [5,6] n (λgk oo ii wr=>∃(k m Z:Nat) (b:l9),b9 (gk+k=n)/\oo=GI b m Z/\ii=U k/\b9 (A5 PN 5 wr w (GI b m Z) (Lib.join (L.take k) sep))/\b9 (C7 w wr))
 ·exact RH
 obtain⟨k,m,Z,b,HK,rfl,rfl,HB,G⟩:=hrel;have PE:=ST k;by_cases hlt:k<n
 ·have G4:=Rd k n;obtain⟨lb,lo,x,rfl,H,MO⟩:=(HS _ G).at hlt;refine Op (λ(w':J) (hx:C7 w w')=>ow (HS _ hx) H) (um (sep:=sep) H) (show(Lib.join (L.take (k+1)) sep).length<=1099511627776 by have:=abr.o (k+1) j0;omega) (abr k j0) λO9 HJ Sg HJM=>?_;clear MO H;by_cases h0:k=0
  ·have KN:¬(0:Int)<(k:Int):=by omega
   have HJ2:=I (show Lib.join (L.take (k+1)) sep=Lib.join (L.take k) sep++x by rw[HJ.o,f9 h0,C3]);have E:=O9.o _ G.o;clear h0;go_wp2_with (at_builtin;refine lU Tryz.infoByte TW QU rfl _ _ rfl w (GI b m Z) (Lib.join (L.take k) sep) rfl HB.o x rfl Yq G.size ?_;intro v6 w6 ho hg;obtain⟨a6,n6,c6,rfl,Ia⟩:=ho.var;rw[<-HJ2.o]at ho;have EP:=I ho;have FU:=I (aj G.o hg (λj K=>(HB.lt j K).1));clear ho hg)
   exact F3
  have KN:=Rd 0 k;have HJ2:=I (show Lib.join (L.take (k+1)) sep=Lib.join (L.take k) sep++sep++x by rw[HJ.o,f7 h0]);clear h0;have E:=O9.o _ G.o
  go_wp2_with (first
   | (at_builtin;refine lU Tryz.infoByte TW QU rfl _ _ rfl w (GI b m Z) (Lib.join (L.take k) sep) rfl HB.o sep rfl HJM.o G.size ?_;intro v5 w5 ho hg;obtain⟨a5,n5,c5,rfl,It⟩:=ho.var;have DT:=I ho;have FV:=I (aj G.o hg (λj K=>(HB.lt j K).1));have hcell5:=O9.o _ FV.o;clear E;clear ho hg)
   | (at_builtin;refine lU Tryz.infoByte TW QU rfl _ _ rfl w (GI a5 n5 c5) (Lib.join (L.take k) sep++sep) rfl DT.o x rfl Yq FV.size ?_;intro v6 w6 ho hg;obtain⟨a6,n6,c6,rfl,Ia⟩:=ho.var;rw[<-HJ2.o]at ho;have EP:=I ho;have FU:=I (aj FV.o hg (λj K=>(DT.lt j K).1));clear ho hg))
  exact F3
 have DV:k=n:=k8 HK.o;have HCV:=I (Ap HB);have HE:b9 (L.take k=L):=bR Ym;have G4:¬(k:Int)<(n:Int):=j0;have hcv:=HCV.o;clear DV;go_wp2;go_ret;exact⟨cj (by rw[HE.o]),G⟩
def xJ{cap:Nat}(h:A5 A9 9 w base (GI a n cap) L)(sep:List UInt8)(E:n<=2000000)(hlen:JL (Lib.join L sep)+JL sep<=1099511627776):
 f8 15 #[GI a n cap,aE (bs sep)] w (aE (bs (Lib.join L sep))):=zW h.Hr sep E hlen
end
section
variable{w W:J}{x y:Int}
def uK{l:l7}{k:Nat}(h:k<JL l):(l.take k).map D'++[D' (l[k]?.getD (0,0))]=(l.take (k+1)).map D':=by
 rw[Id h,Nm,xl h,sr];rfl
def LM(h:σ:=by
 have F5:=I (GL.lit A9 9 w2 [tr] 1 rfl #[aE (bs tr)] rfl w2.heap.size rfl j0);go_wp2_with (at_builtin;refine dJ A9 Tryz.EZ rfl Ry Fd rfl _ _ rfl w.heap.size (GI b m cp) ((l.take k).map D') rfl (Fy.ext WU) _ 1 1 [tr] rfl F5.o (k8 FP.o) (by have:=X3.size;simp;omega) ?_;intro v6 w6 ho hg r7;obtain⟨a6,n6,c6,rfl,Ia⟩:=ho.var;rw[HJ.o]at ho;have EP:=I ho;have FU:=I (aj (X3.trans WU) hg (λj hj=>(Fy.lt j hj).1));clear ho hg r7)
 refine kf ?_;exact⟨k+1,n6,c6,a6,I (k8 HK.o),rfl,by go_num,EP,FU⟩
 ):σ:=h
def sX {w: J}{a: Option Addr}{n cap: Nat}{l: List (Int × Int)}(h : i6 w a n cap l)(hn : n <= 100000)(ht : Lib.TabIs prog w "internal/strconv.uint64pow10" .u64 Lib.pow10Tab) :
 f8 125 #[GI a n cap] w (aE (bs (Qi l))):=by
 have HT:=I ht;have HL:=I h.hlen;have⟨hnc,K3⟩:=h.aq9;refine t8 h (A5.D2 A9 9 w w _ rfl (i8 _)) (yw (l:=l)) λHS HO HV=>?_;clear h ht;unfold f8;go_in
 go_wp2
 go_loopg [3,9] n (λgk tt kk wr=>∃(k m cp:Nat) (b:l9),b9 (gk+k=n)/\tt=GI b m cp/\kk=U k/\b9 (A5 A9 9 wr w (GI b m cp) ((l.take k).map D'))/\b9 (C7 w wr))
 ·exact RH
 rename Nat=>g1;rename J=>wr;obtain⟨k,m,cp,b,HK,rfl,rfl,HB,X2⟩:=hrel;have PE:=ST k
 by_cases hlt:k<n
 ·have G4:=Rd k n;obtain⟨lb,lo,x,y,rfl,Eo,D1,Eu⟩:=(HS.ext X2).at hlt;have HJ:=I (uK (l:=l) (k:=k) JO);rw[Eo]at HJ;have HF:=I (λ(w':J) (hx:C7 w w')=>jg (w:=w') x y (ec HT.o hx));have FP:=I (show((l.take k).map D').length<=100000 by rw[dc,k6];omega);generalize D' (x,y)=tr at HJ HF;have⟨W1,Mw⟩:=e9 (wr.alloc (QD #[U x,U y] 56));have X1:=I (show C7 wr W1 by rw[Mw];exact WU);have KN:W1.cell? (O wr 0)=some (U x):=by rw[Mw];simp
  have Gj:W1.cell? (O wr 1)=some (U y):=by rw[Mw];simp
  clear Eo;go_upto_region 5 with fail;rw[<-Mw];clear Mw;go_wp2_with fail;refine i7 (HF _ (X2.trans X1)) λw2 hx=>?_;have X3:=I ((X2.trans X1).trans hx);have Fy:=I ((HB.ext X1).ext hx);clear KN Gj D1 Eu;exact LM
 have DV:k=n:=k8 HK.o;have HE:=I (show(l.take k).map D'=l.map D' by rw[bR Ym]);have G4:¬(k:Int)<(n:Int):=j0;clear DV;have Uo:=I (show A5 A9 9 wr w (GI b m cp) (l.map D')by rw[<-HE.o];exact HB);have HJ:=I (wB Uo.o [32] Mq (by have:=HV.o;unfold Qi at this;rw[HL.o]at this;omega));go_wp2_with fail;refine IR HJ λw2 hx=>?_;exact P3
def tI{a:l9}{n cap:Nat}{l:l7}(h:i6 w a n cap l)(hn:n<=100000):
 f8 110 #[GI a n cap] w (aE (bs (Qi l))):=by
 have HL:=I h.hlen;have⟨hnc,K3⟩:=h.aq9;refine t8 h (A5.D2 A9 9 w w _ rfl (i8 _)) (yw (l:=l)) λHS HO HV=>?_;clear h;unfold f8;go_in
 go_wp2
 go_loopg [3,4] n (λgk K Z wr=>∃(k m cp:Nat) (b:l9),b9 (gk+k=n)/\K=GI b m cp/\Z=U k/\b9 (A5 A9 9 wr w (GI b m cp) ((l.take k).map D'))/\b9 (C7 w wr))
 ·exact RH
 rename Nat=>g1;rename J=>wr;obtain⟨k,m,cp,b,HK,rfl,rfl,G,X2⟩:=hrel;have PE:=ST k
 by_cases hlt:k<n
 ·have G4:=Rd k n;obtain⟨lb,lo,x,y,rfl,H,D1,Eu⟩:=(HS.ext X2).at hlt;have HJ:=I (uK (l:=l) (k:=k) JO);rw[H]at HJ;have E:=I (λ(w':J)=>lE (w:=w') x y);have FP:=I (show((l.take k).map D').length<=100000 by rw[dc,k6];omega);generalize D' (x,y)=tr at HJ E;clear H;go_wp2_with fail;refine i7 (E _) λw2 hx=>?_;have X3:=I (X2.trans hx);have Fy:=I (G.ext hx);clear D1 Eu;exact LM
 have DV:k=n:=k8 HK.o;have HE:=I (show(l.take k).map D'=l.map D' by rw[bR Ym]);have G4:¬(k:Int)<(n:Int):=j0;clear DV;have Uo:=I (show A5 A9 9 wr w (GI b m cp) (l.map D')by rw[<-HE.o];exact G);have HJ:=I (xJ Uo.o [32] Mq (by have:=HV.o;unfold Qi at this;rw[HL.o]at this;simp only[nR,Pb];omega));go_wp2_with fail;refine IR HJ λw2 hx=>?_;exact P3
def QF(h:σ:=by
 simp only[Option.isNone_none]at heq;go_in
 go_wp2;go_ret;exact⟨_,rfl,by rw[hl];exact A5.nil _ _ w _,WF⟩
 ):σ:=h
def An{a:l9}{n cap:Nat}{l:List (List UInt8)}(h:GL A9 w a n cap l)(hb:n<=1099511627776):
 Calls prog 139 #[GI a n cap] w λe w'=>∃v,e=ar v/\A5 A9 9 w' w v l/\C7 w w':=by
 have heq:∀w':J,(binOp .eql 22 (GI a n cap) d6).run prog w'=.ok (bl a.isNone) w':=λw'=>V4 w' _ _ a n cap 0 0 Ry
 have HL:=I h.hlen;cases a with
 | none =>
   have hl:l=[]:=by
    exact N1
   exact QF
 | some ad =>
   simp only[E3]at heq;have G:=I (h.ext (C7.alloc w (QD #[] 9)));have E:=I (A5.D2 A9 9 w w _ rfl (i8 _));clear h;go_in
   go_wp2_with (at_builtin;refine dJ A9 Tryz.EZ rfl Ry Fd rfl _ _ rfl w _ _ rfl E.o _ n _ l rfl G.o Yu j7 ?_;intro v' w1 ho hg r7);exact QR
def xm:List (List UInt8):=[[98,97,100],[112,111,105,110,116],[101,109,112,116,121],[108,105,109,105,116]]
def vP(c:Nat)(hc:c<4):xm[c]?=some (ij (c:Int)):=by
 rcases c with _|_|_|_|c
 all_goals first|rfl|omega
def AL(c:Nat)(hc:c<4):f8 63 #[U c] w (aE (bs (ij (c:Int)))):=by
 refine t8 (GL.lit A9 9 w xm 4 rfl #[aE ⟨#[98,97,100]⟩,aE ⟨#[112,111,105,110,116]⟩,aE ⟨#[101,109,112,116,121]⟩,aE ⟨#[108,105,109,105,116]⟩] rfl w rfl j0) (show A4 (c:Int) 0 3=true by unfold A4;simp;omega) (vP c hc) λF5 Hl Sm=>?_;have G:=I (An F5.o j0);have D1:=ST c;have hc4:(c:Int)<4:=j0;have⟨W1,Mw⟩:=e9 (w.alloc (QD #[aE ⟨#[98,97,100]⟩,aE ⟨#[112,111,105,110,116]⟩,aE ⟨#[101,109,112,116,121]⟩,aE ⟨#[108,105,109,105,116]⟩] 9));have X1:=I (show C7 w W1 by rw[Mw];exact WU);rw[<-Mw]at G;unfold f8;go_in
 go_upto_region 2 with fail;rw[<-Mw];clear Mw;go_wp2_with fail;refine pk.mono ?_;rintro e Z ⟨rfl,rfl⟩;have D7:=Hl.o;go_wp2_with fail;refine E9 G λZ v ho hx=>?_;have X2:=I (X1.trans hx);obtain⟨a2,n2,c2,rfl,H⟩:=ho.var;obtain rfl:n2=4:=H.symm;obtain⟨lb,rfl,_⟩:=ho.block (k:=0) j0;have E:=ow ho.Hr Sm.o;rw[hI]at E;clear ho hx H;go_wp2;go_ret;exact⟨rfl,X2⟩
def Bq(c:Nat)(hc:c<4):f8 48 #[U c] w (aE (bs (ij (c:Int)))):=by
 have H:=I (GL.lit A9 9 w xm 4 rfl #[aE ⟨#[98,97,100]⟩,aE ⟨#[112,111,105,110,116]⟩,aE ⟨#[101,109,112,116,121]⟩,aE ⟨#[108,105,109,105,116]⟩] rfl w rfl j0);have G:=I (show A4 (c:Int) 0 3=true by unfold A4;simp;omega);have E:=ow H.o (vP c hc);rw[hI]at E;have D1:=ST c;have hc4:(c:Int)<4:=j0;unfold f8;go_in
 go_wp2_with fail;refine ta.mono ?_;rintro e w2 ⟨rfl,rfl⟩;have D7:=G.o;go_wp2;go_ret;exact⟨rfl,WU⟩
def Zn{a b c:Obj}(hx:C7 (((w.alloc a).alloc b).alloc c) W):W.heap[w.heap.size]?=some a/\W.heap[w.heap.size+1]?=some b/\W.heap[w.heap.size+1+1]?=some c :=
 ⟨(hx.block _ m9).trans (by rw[aZ _ _ _ m9,aZ _ _ _ j7];exact IO rfl),
  (hx.block _ j7).trans (by rw[aZ _ _ _ j7];exact IO j7),(hx.block _ j7).trans (IO j7)⟩
def KS{a b:Obj}(hx:C7 ((w.alloc a).alloc b) W):W.heap[w.heap.size]?=some a/\W.heap[w.heap.size+1]?=some b :=
 ⟨(hx.block _ m9).trans wz,(hx.block _ j7).trans (IO j7)⟩
def bO{b:Nat}{t:TypeId}(h:w.heap[b]?=some (QD #[U x,U y] t (0,0))):w.cell? (O b 0)=some (U x)/\w.cell? (O b 1)=some (U y)/\∀o,w.frozen? (O b o)=false :=
 ⟨by rw[aR _ _ _ _ _ _ h];rfl,by rw[aR _ _ _ _ _ _ h];rfl,λo=>mo _ _ _ _ _ h⟩
abbrev RC(w:J)(b:Nat)(x y:Int):Prop:=w.cell? ⟨b,0,none⟩=some (.int .i64 x)/\w.cell? ⟨b,1,none⟩=some (.int .i64 y)/\∀o,w.frozen? ⟨b,o,none⟩=false
def ej{u v p q:Int}{H G E:TypeId}(hx:C7 (((w.alloc (QD #[U x,U y] H)).alloc (QD #[U u,U v] G)).alloc (QD #[U p,U q] E)) W):RC W w x y/\RC W (w+1) u v/\RC W (w.heap.size+1+1) p q :=
 let⟨a,b,c⟩:=Zn hx
 ⟨bO a,bO b,bO c⟩
def SP{u v:Int}{G E:TypeId}(hx:C7 ((w.alloc (QD #[U x,U y] G)).alloc (QD #[U u,U v] E)) W):RC W w x y/\RC W (w+1) u v :=
 let⟨a,b⟩:=KS hx
 ⟨bO a,bO b⟩
def dW(h:z7 (x,y)=true):-1000000000<=x/\x<=1000000000/\-1000000000<=y/\y<=1000000000:=by have:=aU h;simp only at this;omega
def en(h:-1000000000<=x/\x<=1000000000)(E:-1000000000<=y/\y<=1000000000):D5 (x*y):=Vv h.1 h.2 E.1 E.2
def N6(h:σ:=by
 have HX:=I (show C7 w (((w.alloc (QD #[U x,U y] 56)).alloc (QD #[U u,U v] 56)).alloc (QD #[U 0,U 0] 56))from(WU.trans WU).trans WU);(try unfold f8);go_in
 go_wp2_with fail;refine(qq0 x y _).mono ?_;rintro e w1 ⟨rfl,hx⟩;have⟨⟨a0,a1,fa⟩,⟨b0,b1,fb⟩,r0,r1,fr⟩:=ej hx;have X1:=I hx;clear hx;cases ha:z7 (x,y)
 ·have HR:=I (show Ev (x,y) (u,v)=((0,0),false)by simp[Ev,ha]);clear ha;go_wp2;rw[HR.o];refine Fn Yw rfl ⟨rfl,?_⟩;exact((HX.trans X1).setCell m9 _).setCell m9 _
 have HA:=I ha;clear ha;go_wp2_with fail;refine(qq0 u v _).mono ?_;rintro e w2 ⟨rfl,hx⟩;clear a0 a1 fa b0 b1 fb r0 r1 fr;have X2:=I (X1.trans hx);have⟨⟨a0,a1,fa⟩,⟨b0,b1,fb⟩,r0,r1,fr⟩:=ej X2.o;clear hx;cases hb:z7 (u,v)
 ·have HR:=I (show Ev (x,y) (u,v)=((0,0),false)by simp[Ev,hb]);clear hb;go_wp2;rw[HR.o];refine Fn Yw rfl ⟨rfl,?_⟩;exact((HX.trans X2).setCell m9 _).setCell m9 _
 have⟨x1,x2,y1,y2⟩:=dW HA.o;have⟨u1,u2,v1,v2⟩:=dW hb;have q1:D5 (x*v):=en j0 j0;have⟨e1,g1⟩:=bM q1;have q2:D5 (u*y):=en j0 j0;have⟨e2,g2⟩:=bM q2;have q3:D5 (y*v):=en j0 j0;have⟨e3,g3⟩:=bM q3;have e4:IntKind.i64.wrap (x*v+u*y)=x*v+u*y:=by rw[mn];unfold D5 at *;omega
 have g4:wrap64 (x*v+u*y)=x*v+u*y:=by unfold wrap64;unfold D5 at *;omega
 obtain⟨p,q,ok,D4⟩:∃p q ok,aN (x*v+u*y) (y*v)=((p,q),ok):=⟨_,_,_,rfl⟩;have EJ:=I D4;have HR:=I (show Ev (x,y) (u,v)=((p,q),ok)by simp[Ev,HA.o,hb,D4]);clear hb D4;go_wp2_with fail;refine(qq2 _ _ _).mono ?_;rw[EJ.o];rintro e w3 ⟨rfl,hx⟩;clear a0 a1 fa b0 b1 fb r0 r1 fr;have X3:=I (X2.trans hx);have⟨⟨a0,a1,fa⟩,⟨b0,b1,fb⟩,r0,r1,fr⟩:=ej X3.o;clear hx;go_wp2;rw[HR.o];refine Fn Yw rfl ⟨rfl,?_⟩;exact((HX.trans X3).setCell m9 _).setCell m9 _
 ):σ:=h
def kv(x y u v:Int)(w:J):
 f8 138 #[EF x y,EF u v] w (IN (Ev (x,y) (u,v))):=by
 have qq0:=@cH;have qq1:=@wa;have qq2:=@lL;exact N6
def iZ(x y u v:Int)(w:J):
 f8 112 #[EF x y,EF u v] w (IN (Ev (x,y) (u,v))):=by
 have qq0:=@cI;have qq1:=@Ih;have qq2:=@lQ;exact N6
def YD(h:σ:=by
 clear ha;go_wp2;rw[HR.o];refine Fn TH rfl ⟨rfl,?_⟩;exact((HX.trans X1).setCell m9 _).setCell m9 _
 ):σ:=h
def ml(x y u v:Int)(w:J):
 f8 207 #[EF x y,EF u v] w (IN (D9 (x,y) (u,v))):=by
 have HX:b9 (C7 w (((w.alloc (QD #[U x,U y] 56)).alloc (QD #[U u,U v] 56)).alloc (QD #[U 0,U 0] 56))):=(WU.trans WU).trans WU;unfold f8;go_in
 go_wp2_with fail;refine IR (cH x y _) λw1 hx=>?_;have⟨⟨a0,Z,H⟩,⟨K,b1,G⟩,r0,r1,E⟩:=ej hx;have X1:=I hx;clear hx;cases ha:z7 (x,y)
 ·have HR:=I (show D9 (x,y) (u,v)=((0,0),false)by simp[D9,ha]);have qq0:=@FX;exact YD
 have HA:=I ha;clear ha;go_wp2_with fail;refine i7 (cH u v _) λw2 hx=>?_;clear a0 Z H K b1 G r0 r1 E;have X2:=I (X1.trans hx);have⟨⟨a0,Z,H⟩,⟨K,b1,G⟩,r0,r1,E⟩:=ej X2.o;cases hb:z7 (u,v)
 ·have HR:=I (show D9 (x,y) (u,v)=((0,0),false)by simp[D9,hb]);clear hb;go_wp2;rw[HR.o];refine Fn (by simp[results,FX,go_sem,r0,r1]<;>rfl) rfl ⟨rfl,?_⟩;exact((HX.trans X2).setCell m9 _).setCell m9 _
 have⟨x1,x2,y1,y2⟩:=dW HA.o;have⟨u1,u2,v1,v2⟩:=dW hb;have q1:D5 (x*v):=en j0 j0;have⟨e1,g1⟩:=bM q1;have q2:D5 (u*y):=en j0 j0;have⟨e2,g2⟩:=bM q2;have q3:D5 (y*v):=en j0 j0;have⟨e3,g3⟩:=bM q3;have e4:IntKind.i64.wrap (x*v-u*y)=x*v-u*y:=by rw[mn];unfold D5 at *;omega
 have g4:wrap64 (x*v-u*y)=x*v-u*y:=by unfold wrap64;unfold D5 at *;omega
 obtain⟨p,q,ok,D4⟩:∃p q ok,aN (x*v-u*y) (y*v)=((p,q),ok):=⟨_,_,_,rfl⟩;have EJ:=I D4;have HR:=I (show D9 (x,y) (u,v)=((p,q),ok)by simp[D9,HA.o,hb,D4]);clear hb D4;go_wp2_with fail;refine i7 (lL _ _ _) λw3 hx=>?_;rw[EJ.o];clear a0 Z H K b1 G r0 r1 E;have X3:=I (X2.trans hx);have⟨⟨a0,Z,H⟩,⟨K,b1,G⟩,r0,r1,E⟩:=ej X3.o;go_wp2;rw[HR.o];refine Fn (by simp[results,FX,go_sem,r0,r1]<;>rfl) rfl ⟨rfl,?_⟩;exact((HX.trans X3).setCell m9 _).setCell m9 _
def sd(h:σ:=by
 have HX:=I (show C7 w (((w.alloc (QD #[U x,U y] 56)).alloc (QD #[U u,U v] 56)).alloc (QD #[U 0,U 0] 56))from(WU.trans WU).trans WU);(try unfold f8);go_in
 go_wp2_with fail;refine(qq0 x y _).mono ?_;rintro e w1 ⟨rfl,hx⟩;have⟨⟨a0,a1,fa⟩,⟨b0,b1,fb⟩,r0,r1,fr⟩:=ej hx;have X1:=I hx;clear hx;cases ha:z7 (x,y)
 ·have HR:=I (show cM (x,y) (u,v)=((0,0),false)by simp[cM,ha]);clear ha;go_wp2;rw[HR.o];refine Fn Yw rfl ⟨rfl,?_⟩;exact((HX.trans X1).setCell m9 _).setCell m9 _
 have HA:=I ha;clear ha;go_wp2_with fail;refine(qq0 u v _).mono ?_;rintro e w2 ⟨rfl,hx⟩;clear a0 a1 fa b0 b1 fb r0 r1 fr;have X2:=I (X1.trans hx);have⟨⟨a0,a1,fa⟩,⟨b0,b1,fb⟩,r0,r1,fr⟩:=ej X2.o;clear hx;cases hb:z7 (u,v)
 ·have HR:=I (show cM (x,y) (u,v)=((0,0),false)by simp[cM,hb]);clear hb;go_wp2;rw[HR.o];refine Fn Yw rfl ⟨rfl,?_⟩;exact((HX.trans X2).setCell m9 _).setCell m9 _
 have⟨x1,x2,y1,y2⟩:=dW HA.o;have⟨u1,u2,v1,v2⟩:=dW hb;have q1:D5 (x*u):=en j0 j0;have⟨e1,g1⟩:=bM q1;have q2:D5 (y*v):=en j0 j0;have⟨e2,g2⟩:=bM q2;obtain⟨p,q,ok,D4⟩:∃p q ok,aN (x*u) (y*v)=((p,q),ok):=⟨_,_,_,rfl⟩;have EJ:=I D4;have HR:=I (show cM (x,y) (u,v)=((p,q),ok)by simp[cM,HA.o,hb,D4]);clear hb D4;go_wp2_with fail;refine(qq2 _ _ _).mono ?_;rw[EJ.o];rintro e w3 ⟨rfl,hx⟩;clear a0 a1 fa b0 b1 fb r0 r1 fr;have X3:=I (X2.trans hx);have⟨⟨a0,a1,fa⟩,⟨b0,b1,fb⟩,r0,r1,fr⟩:=ej X3.o;clear hx;go_wp2;rw[HR.o];refine Fn Yw rfl ⟨rfl,?_⟩;exact((HX.trans X3).setCell m9 _).setCell m9 _
 ):σ:=h
def wD(x y u v:Int)(w:J):
 f8 316 #[EF x y,EF u v] w (IN (cM (x,y) (u,v))):=by
 have qq0:=@cH;have qq1:=@hZ;have qq2:=@lL;exact sd
def xL(x y u v:Int)(w:J):
 f8 305 #[EF x y,EF u v] w (IN (cM (x,y) (u,v))):=by
 have qq0:=@cI;have qq1:=@KA;have qq2:=@lQ;exact sd
def YR(h:σ:=by
 have HX:=I (show C7 w (((w.alloc (QD #[U x,U y] 56)).alloc (QD #[U u,U v] 56)).alloc (QD #[U 0,U 0] 56))from(WU.trans WU).trans WU);(try unfold f8);go_in
 go_wp2_with fail;refine(qq0 x y _).mono ?_;rintro e w1 ⟨rfl,hx⟩;have⟨⟨a0,a1,fa⟩,⟨b0,b1,fb⟩,r0,r1,fr⟩:=ej hx;have X1:=I hx;clear hx;cases ha:z7 (x,y)
 ·have HR:=I (show F1 (x,y) (u,v)=((0,0),false)by simp[F1,ha]);clear ha;go_wp2;rw[HR.o];refine Fn Yw rfl ⟨rfl,?_⟩;exact((HX.trans X1).setCell m9 _).setCell m9 _
 have HA:=I ha;clear ha;go_wp2_with fail;refine(qq0 u v _).mono ?_;rintro e w2 ⟨rfl,hx⟩;clear a0 a1 fa b0 b1 fb r0 r1 fr;have X2:=I (X1.trans hx);have⟨⟨a0,a1,fa⟩,⟨b0,b1,fb⟩,r0,r1,fr⟩:=ej X2.o;clear hx;cases hb:z7 (u,v)
 ·have HR:=I (show F1 (x,y) (u,v)=((0,0),false)by simp[F1,hb]);clear hb;go_wp2;rw[HR.o];refine Fn Yw rfl ⟨rfl,?_⟩;exact((HX.trans X2).setCell m9 _).setCell m9 _
 have⟨x1,x2,y1,y2⟩:=dW HA.o;have⟨u1,u2,v1,v2⟩:=dW hb;have q1:D5 (x*v):=en j0 j0;have⟨e1,g1⟩:=bM q1;have q2:D5 (y*u):=en j0 j0;have⟨e2,g2⟩:=bM q2;obtain⟨p,q,ok,D4⟩:∃p q ok,aN (x*v) (y*u)=((p,q),ok):=⟨_,_,_,rfl⟩;have EJ:=I D4;have HR:=I (show F1 (x,y) (u,v)=((p,q),ok)by simp[F1,HA.o,hb,D4]);clear hb D4;go_wp2_with fail;refine(qq2 _ _ _).mono ?_;rw[EJ.o];rintro e w3 ⟨rfl,hx⟩;clear a0 a1 fa b0 b1 fb r0 r1 fr;have X3:=I (X2.trans hx);have⟨⟨a0,a1,fa⟩,⟨b0,b1,fb⟩,r0,r1,fr⟩:=ej X3.o;clear hx;go_wp2;rw[HR.o];refine Fn Yw rfl ⟨rfl,?_⟩;exact((HX.trans X3).setCell m9 _).setCell m9 _
 ):σ:=h
def wu(x y u v:Int)(w:J):
 f8 328 #[EF x y,EF u v] w (IN (F1 (x,y) (u,v))):=by
 have qq0:=@cH;have qq1:=@Te;have qq2:=@lL;exact YR
def xF(x y u v:Int)(w:J):
 f8 324 #[EF x y,EF u v] w (IN (F1 (x,y) (u,v))):=by
 have qq0:=@cI;have qq1:=@Hg;have qq2:=@lQ;exact YR
def kc(h:σ:=by
 go_wp2
 go_quiet (fail)
 go_wp2;go_ret;exact⟨au (by rw[HR.o,f7 j0,qq0 j0]),HX.trans (X2.trans (E7.ext ⟨_,rfl⟩))⟩
 ):σ:=h
def YO(h:σ:=by
 have HR:=I (show DM (x,y) (u,v)=0 by simp[DM,hb]);clear hb;go_wp2;go_ret;exact⟨au HR.symm,HX.trans X2.o⟩
 ):σ:=h
def Ze(h:σ:=by
 have HR:=I (show DM (x,y) (u,v)=0 by simp[DM,ha]);clear ha;go_wp2;go_ret;exact⟨au HR.symm,HX.trans X1.o⟩
 ):σ:=h
def Nq(h:σ:=by
 go_wp2
 go_quiet (fail)
 go_wp2;go_ret;exact⟨au (by rw[HR.o,f9 j0]),HX.trans (X2.trans (qq0 ⟨_,rfl⟩))⟩
 ):σ:=h
def gH(x y u v:Int)(w:J):
 f8 137 #[EF x y,EF u v] w (U (DM (x,y) (u,v))):=by
 have HX:b9 (C7 w ((w.alloc (QD #[U x,U y] 56)).alloc (QD #[U u,U v] 56))):=WU.trans WU;unfold f8;go_in
 go_wp2_with fail;refine IR (cH x y _) λw1 hx=>?_;have⟨⟨a0,a1,fa⟩,b0,b1,fb⟩:=SP hx;have X1:=I hx;clear hx;cases ha:z7 (x,y)
 ·exact Ze
 have HA:=I ha;clear ha;go_wp2_with fail;refine i7 (cH u v _) λw2 hx=>?_;clear a0 a1 fa b0 b1 fb;have X2:=I (X1.trans hx);have⟨⟨a0,a1,fa⟩,b0,b1,fb⟩:=SP X2.o;cases hb:z7 (u,v)
 ·exact YO
 have⟨x1,x2,y1,y2⟩:=dW HA.o;have⟨u1,u2,v1,v2⟩:=dW hb;have Z:D5 (x*v):=en j0 j0;have K:D5 (u*y):=en j0 j0;have⟨e1,g1⟩:=bM Z;have⟨e2,g2⟩:=bM K;have H:DM (x,y) (u,v)=(if x*v<u*y then -1 else if u*y<x*v then 1 else 0):=by simp[DM,HA.o,hb]
 have⟨P,G⟩:=e9 (x*v);have⟨Q,E⟩:=e9 (u*y);rw[<-G,<-E]at H;rw[<-G]at e1 g1;rw[<-E]at e2 g2;have HR:=I H;have hP':=G.symm;have hQ':=E.symm;clear hb H Z K G E;by_cases h1:P<Q
 ·have qq0:=@E7.ext;exact Nq
 by_cases h2:Q<P
 ·have qq0:=@f9;exact kc
 have qq0:=@f7;exact kc
def eK(x y u v:Int)(w:J):
 f8 187 #[EF x y,EF u v] w (U (DM (x,y) (u,v))):=by
 have HX:b9 (C7 w ((w.alloc (QD #[U x,U y] 56)).alloc (QD #[U u,U v] 56))):=WU.trans WU;unfold f8;go_in
 go_wp2_with fail;refine IR (cI x y _) λw1 hx=>?_;have⟨⟨a0,a1,fa⟩,b0,b1,fb⟩:=SP hx;have X1:=I hx;clear hx;cases ha:z7 (x,y)
 ·exact Ze
 have HA:=I ha;clear ha;go_wp2_with fail;refine i7 (cI u v _) λw2 hx=>?_;clear a0 a1 fa b0 b1 fb;have X2:=I (X1.trans hx);have⟨⟨a0,a1,fa⟩,b0,b1,fb⟩:=SP X2.o;cases hb:z7 (u,v)
 ·exact YO
 have⟨x1,x2,y1,y2⟩:=dW HA.o;have⟨u1,u2,v1,v2⟩:=dW hb;have Z:D5 (x*v):=en j0 j0;have K:D5 (u*y):=en j0 j0;have⟨e1,g1⟩:=bM Z;have⟨e2,g2⟩:=bM K;have H:DM (x,y) (u,v)=(if x*v<u*y then -1 else if u*y<x*v then 1 else 0):=by simp[DM,HA.o,hb]
 have⟨P,G⟩:=e9 (x*v);have⟨Q,E⟩:=e9 (u*y);rw[<-G,<-E]at H;rw[<-G]at e1 g1;rw[<-E]at e2 g2;have HR:=I H;have hP':=G.symm;have hQ':=E.symm;clear hb H Z K G E;by_cases h1:P<Q
 ·go_wp2;go_ret;exact⟨au (by rw[HR.o,f9 j0]),HX.trans X2.o⟩
 by_cases h2:Q<P
 ·go_wp2;go_ret;exact⟨au (by rw[HR.o,f7 j0,f9 j0]),HX.trans X2.o⟩
 go_wp2;go_ret;exact⟨au (by rw[HR.o,f7 j0,f7 j0]),HX.trans X2.o⟩
def qB(x y u v:Int)(w:J):
 f8 258 #[EF x y,EF u v] w (IN (D9 (x,y) (u,v))):=by
 have HX:b9 (C7 w (((w.alloc (QD #[U x,U y] 56)).alloc (QD #[U u,U v] 56)).alloc (QD #[U 0,U 0] 56))):=(WU.trans WU).trans WU;cases hb:z7 (u,v)
 ·have G:=I hb;have HR:=I (show D9 (x,y) (u,v)=((0,0),false)by simp[D9,hb]);clear hb;unfold f8;go_in
  go_wp2_with fail;refine IR (cI u v _) λK ha=>?_;rw[G.o];have⟨⟨a0,a1,fa⟩,⟨b0,b1,Z⟩,r0,r1,E⟩:=ej ha;have X1:=I ha;have qq0:=@results258;exact YD
 have G:=I hb;have⟨u1,u2,v1,v2⟩:=dW hb;obtain⟨p,q,ok,H⟩:∃p q ok,Ev (x,y) (-u,v)=((p,q),ok):=⟨_,_,_,rfl⟩;have EJ:=I H;have HR:=I (show D9 (x,y) (u,v)=((p,q),ok)by rw[<-yi];exact H);clear hb H;unfold f8;go_in
 go_wp2_with fail;refine IR (cI u v _) λK ha=>?_;rw[G.o];have⟨⟨a0,a1,fa⟩,⟨b0,b1,Z⟩,r0,r1,E⟩:=ej ha;have X1:=I ha;have Jv:=I (Zn X1).2.2;have hl:=In Jv.o;clear ha;go_wp2_with fail;refine i7 (iZ _ _ _ _ _) λw3 ha=>?_;rw[EJ.o];have hz:C7 w (K.setCell (O (w+1) 0) (U (-u))):=(HX.trans X1).setCell j7 _;have X3:=I (hz.trans ha);clear hz;have bR:w3.heap[w.heap.size+1+1]?=some (QD #[U 0,U 0] 56 (0,0)):=(ha.block _ m9).trans ((GE _ _ _ _ j7).trans Jv);clear a0 a1 fa b0 b1 Z r0 r1 E;have⟨r0,r1,E⟩:=bO bR;clear bR;go_wp2;rw[HR.o];refine Fn (by simp[results,results258,go_sem,r0,r1]<;>rfl) rfl ⟨rfl,?_⟩;exact(X3.setCell m9 _).setCell m9 _
section
variable{w0 w:J}{cb:Nat}{a':l9}{n' c':Nat}{C:o3}{base:Nat}{a:l9}{n cap:Nat}
end
def d9.Ie(w:J)(x:Int)(t:TypeId)(n:Nat)(E:n=w.heap.size):d9 (w.alloc (QD #[U x] t)) (some (O n 0)) 1 1 [x]:=by
 subst E;exact d9.one w x t
def K4{w:J}{x:Int}{t:TypeId}{n:Nat}(E:n=w.heap.size):d9 (w.alloc (QD #[U x] t)) (some (O n 0)) 1 1 [x]:=d9.Ie w x t n E
def r'.D2(w:J)(base n:Nat)(E:n=w.heap.size)(hb:base<=w.heap.size):r' (w.alloc (QD #[] 3)) base (EQ n 0 0) []:=by
 subst E;exact r'.made w base hb
end
section
variable{w W:J}{g n k:Nat}{f:Nat->Option (Int×Int)}{C:o3}{a:l9}
structure ah(w W:J)(g:Nat)(p q:Int):Prop where
 ext:C7 w W
 ge:w.heap.size<=g
 cell:W.heap[g]?=some (QD #[U p,U q] 56 (0,0))
def ah.lt{p q:Int}(h:ah w W g p q):g<W.heap.size:=In h.cell
def ah.grow{W':J}{p q:Int}(h:ah w W g p q)(hx:C7 W W'):ah w W' g p q :=
 ⟨h.ext.trans hx,h.ge,(hx.block _ h.lt).trans h.cell⟩
def ah.c0{p q:Int}(h:ah w W g p q):W.cell? (O g 0)=some (U p):=(bO h.cell).1
def ah.c1{p q:Int}(h:ah w W g p q):W.cell? (O g 1)=some (U q):=(bO h.cell).2.1
def ah.free{p q:Int}(h:ah w W g p q)(o:Nat):W.frozen? (O g o)=false:=(bO h.cell).2.2 o
def ah.new(h:C7 w W)(p q:Int):ah w (W.alloc (QD #[U p,U q] 56)) W p q :=
 ⟨h.trans WU,h.size,vC _ _⟩
def ah.new'(h:C7 w W)(p q:Int)(E:n=W.heap.size):ah w (W.alloc (QD #[U p,U q] 56)) n p q:=by
 subst E;exact ah.new h p q
def ah.put{p q:Int}(h:ah w W g p q)(p' q':Int):ah w ((W.setCell (O g 0) (U p')).setCell (O g 1) (U q')) g p' q' :=
 ⟨(h.ext.setCell (p:=(O g 0)) h.ge (U p')).setCell (p:=(O g 1)) h.ge (U q'),h.ge,by rw[cE _ _ _ _ _ _ (cE _ _ _ _ _ _ h.cell)];rfl⟩
def ah.DS{w':J}(h:C7 (w.alloc (QD #[U 0,U 0] 56)).drew w'):ah w w' w 0 0 :=
 ah.grow ⟨WU.trans cn,i8 _,vC w _⟩ h
def ah.DX{w':J}(h:C7 w W)(hx:C7 (W.alloc (QD #[U 0,U 0] 56)) w'):ah w w' W 0 0 :=
 ah.grow (ah.new h 0 0) hx
def LE(f:Nat->Option (Int×Int)):Nat->Option (l7)
 | 0=>some []
 | m+1=>(LE f m).bind λl=>(f m).map λx=>l++[x]
def ea{r:l7}{x:o4}(h:LE f k=some r)(hx:f k=some x):LE f (k+1)=some (r++[x]):=by simp[LE,h,hx]
def rU(h:LE f k=none):∀{n:Nat},k<=n->LE f n=none
 | n,hn=>by
   obtain⟨d,rfl⟩:∃d,n=k+d:=⟨n-k,by omega⟩;clear hn
   induction d with
   | zero=>exact h
   | succ d ih=>show(LE f (k+d)).bind _=none;rw[ih];rfl
def fs{r:l7}(h:LE f k=some r)(hx:f k=none)(hn:k<n):LE f n=none :=
 rU (k:=k+1) (by simp[LE,h,hx]) j0
def cX{f:Nat->Option (Int×Int)}:∀{k:Nat} {r:l7},LE f k=some r->JL r=k
 | 0,r,h=>by simp only[LE,bq]at h;rw[<-h];rfl
 | k+1,r,h=>by
   cases E:LE f k with
   | none=>simp[LE,E]at h
   | some l =>
     cases G:f k with
     | none=>simp[LE,E,G]at h
     | some x =>
       rw[ea E G]at h;simp only[bq]at h;rw[<-h,SW,cX E]
       rfl
def ir{f:Nat->Option (Int×Int)}:∀{k:Nat} {r:l7},LE f k=some r->∀i,i<k->f i=some (r[i]?.getD (0,0))
 | 0,r,h=>λi hi=>absurd hi j0
 | k+1,r,h=>λi hi=>by
   cases E:LE f k with
   | none=>simp[LE,E]at h
   | some l =>
     cases G:f k with
     | none=>simp[LE,E,G]at h
     | some x =>
       rw[ea E G]at h;simp only[bq]at h;subst h;have H:=cX E;by_cases Ng:i<k
       ·rw[tv j0];exact ir E i Ng
       obtain rfl:i=k:=j0
       rw[<-H,Wo,Nm,H,G]
def xC{f:Nat->Option (Int×Int)}{F:Nat->o4}:∀{k:Nat},(∀i,i<k->f i=some (F i))->LE f k=some ((List.range k).map F)
 | 0,_=>rfl
 | k+1,h=>by
   rw[ea (xC λi hi=>h i j0) (h k j0),rN,sr]
   rfl
def MD(A:l7)(k:o4)(B:l7)(i:Nat):Option (Int×Int) :=
 if(cM k (B[i]?.getD (0,0))).2=true/\(Ev (A[i]?.getD (0,0)) (cM k (B[i]?.getD (0,0))).1).2=true then some (Ev (A[i]?.getD (0,0)) (cM k (B[i]?.getD (0,0))).1).1 else none
def Gu(A:l7)(k:o4)(B:l7):Option (l7):=if JL A=JL B then LE (MD A k B) (JL A) else none
def aG(C:o3):l7:=C.map λc=>(c,1)
def fS(C:o3):JL (aG C)=JL C:=by simp[aG]
def oE(h:k<JL C):(aG C)[k]?.getD (0,0)=(C[k]?.getD 0,1):=by simp[aG,h]
def Ls(C:o3):Bool:=C.all λc=>A4 c (-1000000000) 1000000000
def PW(h:σ:=by
 have o7:C7 wr wr.drew:=C7.drew wr;have D0:C7 wr (wr.alloc (QD #[U 0,U 0] 56)).drew:=WU.trans cn;have o8:=I (λ(w':J) (h:C7 wr w')=>(an (h.o6 Qz) (an (h.o6 Qy) (an (h.o6 NM) (an (h.o6 NL) h)))))
 go_region_held3 (λw'=>w'.cell? (O w.heap.size 0)=some (U k1)/\w'.cell? (O w.heap.size 1)=some (U k2)/\w'.cell? (O bb (L8+k*2))=some (U bx)/\w'.cell? (O bb (L8+k*2+1))=some (U by')/\C7 wr w')
  (exact Hz)
  (first
    | ((with_reducible refine(qq0 k1 k2 bx by' _).mono ?_)
       rw[HM.o];rintro e w3 ⟨rfl,C6⟩
       first|(with_reducible have A1:=ah.grow A1 C6)|(with_reducible have A1:=ah.DS C6)|(with_reducible have A1:=ah.DX o7 C6)|skip
       first|(have IX:=A1.c0;have IW:=A1.c1;have Kf:=A1.free)|skip
       have o7:C7 wr w3:=ZC;have FB:=o7.size))
 all_goals(exact Jm)
 ):σ:=h
def Wp(h:σ:=by
 have o7:C7 wc wc.drew:=C7.drew wc;have D0:C7 wc (wc.alloc (QD #[U 0,U 0] 56)).drew:=WU.trans cn;have o8:=I (λ(w':J) (h:C7 wc w')=>(an (h.o6 Jf) (an (h.o6 Je) (an (h.o6 g0) (an (h.o6 g1) h)))))
 go_region_held3 (λw'=>w'.cell? (O ab (Lu+k*2))=some (U ax)/\w'.cell? (O ab (Lu+k*2+1))=some (U ay)/\w'.cell? (O g 0)=some (U p)/\w'.cell? (O g 1)=some (U q)/\C7 wc w')
  (exact Hz)
  (first
    | ((with_reducible refine(qq0 ax ay p q _).mono ?_)
       rw[GJ.o];rintro e w4 ⟨rfl,DP⟩
       first|(with_reducible have A1:=ah.grow A1 DP)|(with_reducible have A1:=ah.DS DP)|(with_reducible have A1:=ah.DX o7 DP)|skip
       first|(have IX:=A1.c0;have IW:=A1.c1;have Kf:=A1.free)|skip
       have o7:C7 wc w4:=Zi;have FB:=o7.size))
 all_goals(exact Jm)
 ):σ:=h
def Re(h:σ:=by
 obtain⟨rfl,rfl⟩:one=true/\two=true:=by simpa using NN
 have I7:=I (ea (x:=(p2,q2)) HR.o Qs);have Ft:=I (cX HR);have OM:=X2.size;rw[O6]at OM;clear NN
 go_wp2_with (first
  | (at_builtin;refine Ot p2 q2 Ec X2 WB λa2 n2 c2 w4 Hb X5 EI=>?_))
 refine er ?_;exact⟨k+1,a2,n2,c2,_,I (k8 HK.o),by go_num,rfl,I7,EI,X5⟩
 ):σ:=h
def WA(h:σ:=by
 exact⟨0,_,_,_,[],I j0,rfl,rfl,I rfl,I (by simpa using HO.o),I WU⟩
 ):σ:=h
def px{k1 k2:Int}{b:l9}{cap n' cap':Nat}{A B:l7}(h:i6 w a n cap A)(h':i6 w b n' cap' B)(hbig:n<=1048576):
 Calls prog 326 #[GI a n cap,EF k1 k2,GI b n' cap'] w λe w'=>(∃v,e=ar (.tuple #[v,bl (Gu A (k1,k2) B).isSome])/\WV w' w v ((Gu A (k1,k2) B).getD []))/\C7 w w':=by
 have HL:=I h.hlen;have OA:=I h'.hlen;have⟨r8,r9⟩:=h.aq9;have⟨WO,Wx⟩:=h'.aq9;refine t8 h h' (C7.alloc w (QD #[U k1,U k2] 56)) λHA HB' HX=>?_;clear h h';by_cases K:n=n'
 ·subst K;have HS:=I (show Gu A (k1,k2) B=LE (MD A (k1,k2) B) n by unfold Gu;rw[HL.o,OA.o,f9 rfl]);have HO:=I (WV.made (w.alloc (QD #[U k1,U k2] 56)) (w+1) j7);go_in
  go_wp2
  go_loopg [8,22] n (λgk o i wr=>∃(k:Nat) (a1:l9) (n1 p1:Nat) (r:l7),b9 (gk+k=n)/\i=U k/\o=GI a1 n1 p1/\b9 (LE (MD A (k1,k2) B) k=some r)/\b9 (WV wr (w+1) (GI a1 n1 p1) r)/\b9 (C7 (w.alloc (QD #[U k1,U k2] 56)) wr))
  ·exact WA
  obtain⟨k,a1,n1,p1,r,HK,rfl,rfl,HR,Z,G⟩:=hrel;have Ll:=G.size;rw[O6]at Ll;by_cases E:k<n
  ·have Qz:wr.cell? (O w 0)=some (U k1):=G.o6 j7;have Qy:wr.cell? (O w 1)=some (U k2):=G.o6 j7;have⟨ab,Lu,ax,ay,ha,SJ,Jf,Je⟩:=((HA.ext HX).ext G).at E;have⟨bb,L8,bx,by',hb,EX,NM,NL⟩:=((HB'.ext HX).ext G).at E;subst ha hb;have HAX:=I SJ;have EC:=I EX;obtain⟨p,q,one,hm⟩:∃p q ok,cM (k1,k2) (bx,by')=((p,q),ok):=⟨_,_,_,rfl⟩;have HM:=I hm;obtain⟨p2,q2,two,Nc⟩:∃u v ok,Ev (ax,ay) (p,q)=((u,v),ok):=⟨_,_,_,rfl⟩;have GJ:=I Nc;clear SJ EX hm Nc;go_upto_region 7 with fail
   go_cut [10,11] (λsx so wx=>∃g:Nat,sx=aP (some (O g 0))/\so=bl one/\b9 (ah wr wx g p q))
   case first =>
    have qq0:=@wD;exact PW
   obtain⟨g,rfl,rfl,H⟩:=hcut;have g0:=H.c0;have g1:=H.c1;replace Jf:=H.ext.o6 Jf;replace Je:=H.ext.o6 Je;clear Qz Qy NM NL;go_upto_region 8 with fail
   go_cut [12,13] (λsx so wx=>∃g2:Nat,sx=aP (some (O g2 0))/\so=bl two/\b9 (ah wc wx g2 p2 q2))
   case first =>
    have qq0:=@kv;exact Wp
   obtain⟨g2,rfl,rfl,Fy⟩:=hcut;have X2:=I ((G.trans H.ext).trans Fy.ext);have Ec:=I ((Z.ext H.ext).ext Fy.ext);have h0:=Fy.c0;have h1:=Fy.c1;have HF:=I (show MD A (k1,k2) B k=if(one&&two)=true then some (p2,q2) else none by unfold MD;rw[HAX.o,EC.o,HM.o];simp only;rw[GJ.o];simp only[eI]);clear Jf Je g0 g1;cases NN:(one&&two)
   ·have HN:b9 (LE (MD A (k1,k2) B) n=none):=fs HR.o (by rw[HF.o,NN];rfl) E;cases one
    case' true=>(have h2:two=false:=by simpa using NN);subst h2
    all_goals
     clear NN;go_wp2;refine Fn bt rfl ⟨⟨d6,by rw[HS.o,HN.o];rfl,by rw[HS.o,HN.o];exact qj⟩,HX.trans X2.o⟩
   exact Re
  have DV:k=n:=k8 HK.o;subst DV;go_wp2;refine Fn bt rfl ⟨⟨GI a1 n1 p1,by rw[HS.o,HR.o];rfl,by rw[HS.o,HR.o];exact Z.mono (b7 _)⟩,HX.trans G.o⟩
 have HN:=I (show Gu A (k1,k2) B=none by unfold Gu;rw[HL.o,OA.o,f7 K]);go_in
 go_wp2;refine Fn bt rfl ⟨⟨d6,by rw[HN.o];rfl,by rw[HN.o];exact qj⟩,HX⟩
def cO(n:Int)(w:J):f8 131 #[U n] w (EF n 1):=by
 have HX:=I (C7.alloc w (QD #[U n,U 1] 56));unfold f8;go_in
 go_wp2;have qq0:=@results131;exact bA
def cL(n:Int)(w:J):f8 97 #[U n] w (EF n 1):=by
 have HX:=I (C7.alloc w (QD #[U n,U 1] 56));unfold f8;go_in
 go_wp2;have qq0:=@results97;exact bA
def pN(h:k<JL C):aG (C.take k)++[(C[k]?.getD 0,1)]=aG (C.take (k+1)):=by
 rw[cW h];simp[aG]
def eS(C:o3):l7:=if Ls C=true then aG C else []
def Q'(h:σ:=by
 exact⟨0,_,_,_,I j0,rfl,rfl,I rfl,HO,I WU⟩
 ):σ:=h
def ww{cap:Nat}(h:d9 w a n cap C)(hbig:n<=1048576):
 Calls prog 313 #[GI a n cap] w λe w'=>(∃v,e=ar (.tuple #[v,bl (Ls C)])/\WV w' w v (eS C))/\C7 w w':=by
 have HL:=I h.hlen;have⟨r8,r9⟩:=h.aq9;have HC:=I h;clear h;have HO:=I (WV.made w w (i8 _));go_in
 go_wp2
 go_loopg [4,10] n (λgk o i wr=>∃(k:Nat) (K:l9) (H G:Nat),b9 (gk+k=n)/\i=U k/\o=GI K H G/\b9 (Ls (C.take k)=true)/\b9 (WV wr w (GI K H G) (aG (C.take k)))/\b9 (C7 w wr))
 ·exact Q'
 obtain⟨k,K,H,G,HK,rfl,rfl,HF,Z,A0⟩:=hrel;by_cases hlt:k<n
 ·have⟨b,off,ha,hc⟩:=(HC.ext A0).at hlt;subst ha;have⟨c,Oc⟩:=GT (C[k]?.getD 0);rw[<-Oc.o]at hc;have Ll:=A0.size;have FP:=I (show k<JL C by have:=HL.o;omega);cases E:A4 c (-1000000000) 1000000000
  ·have HN:=I (show Ls C=false by
    rw[<-N8];intro hh;have:=sJ (k:=k) hh FP.o;rw[<-Oc.o,E]at this;cases this)
   have HI:=I (av c (-1000000000) 1000000000 wr);rw[E]at HI;clear E;go_wp2_with fail;refine HI.mono ?_;rintro e w2 ⟨rfl,rfl⟩;go_wp2;refine Fn MO rfl ⟨⟨d6,by rw[HN.o],by unfold eS;rw[HN.o];exact qj⟩,A0⟩
  have HF2:=I (show Ls (C.take (k+1))=true by
   unfold Ls;rw[cW FP.o,tn];have:=HF.o;unfold Ls at this;rw[this,<-Oc.o];simp only[Zd,QV,E,Bool.and_self])
  have HI:=I (av c (-1000000000) 1000000000 wr);rw[E]at HI;clear E;go_wp2_with fail;refine HI.mono ?_;rintro e w2 ⟨rfl,rfl⟩;have TN:=I (show(aG (C.take k)).length=k by rw[fS,k6];have:=FP.o;omega)
  go_wp2_with (first
   | (go_at_call 131;refine i7 (cO c _) λw3 B7=>?_;have B9:=I (Z.ext B7);have KI:=B7.size)
   | (at_builtin;refine cG rfl _ _ rfl w (GI K H G) _ rfl (B9.ext WU) _ 1 _ [(c,1)] rfl (C2 j7) (by rw[TN.o];omega) m9 ?_;intro v2 w4 ho hg r7;obtain⟨a2,n2,c2,rfl,Hb⟩:=ho.var;have EI:=I ho;have X4:=I (aj ((A0.trans B7).trans WU) hg (λj hj=>(B9.lt j hj).1));clear ho hg r7))
  refine er ?_;exact⟨k+1,a2,n2,c2,I (k8 HK.o),by go_num,rfl,HF2,I (by have:=EI.o;rw[Oc.o,pN FP.o]at this;exact this),X4⟩
 have DV:k=n:=k8 HK.o;subst DV;have HT:b9 (C.take k=C):=bR b6;go_wp2;refine Fn MO rfl ⟨⟨GI K H G,?_,?_⟩,A0⟩
 ·have:=HF.o;rw[HT.o]at this;rw[this]
 have h1:=HF.o;have h2:=Z.o;rw[HT.o]at h1 h2;unfold eS;rw[f9 h1];exact h2
def jv{cap:Nat}(h:d9 w a n cap C)(E:n<=1048576):
 Calls prog 272 #[GI a n cap] w λe w'=>(∃v,e=ar v/\WV w' w v (eS C))/\C7 w w':=by
 have K:=I (ww h E);clear h;go_in
 go_wp2_with fail;refine PP K λw1 v ho G=>?_;have H:=I ho;clear ho;go_wp2;go_ret;exact⟨⟨v,rfl,H⟩,G⟩
end
section
variable{l r cost:l7}{k n m:Nat}{a b:o4}{d x D:Int}{T0:Nat->Nat->Rat}
def FM(l:l7):Bool:=l.all z7
def BM{p:o4->Bool}(h:k<JL l):(l.take (k+1)).all p=((l.take k).all p&&p (l[k]?.getD (0,0))):=by
 rw[es h];simp
def k4(h:σ:=by
 rw[PZ];exact⟨l[k],eN h,by rw[Id h]at hb;simpa using hb⟩
 ):σ:=h
def Ai{p:o4->Bool}(h:k<JL l)(hb:p (l[k]?.getD (0,0))=false):l.all p=false:=by
 exact k4
def N0(h:σ:=by
 exact⟨0,I j0,rfl,I rfl,I WF⟩
 ):σ:=h
def pq(h:σ:=by
 go_wp2;go_ret;exact⟨ag HF.symm,HX.trans C4⟩
 ):σ:=h
def Ob(h:σ:=by
 go_wp2_with fail;refine er ?_;exact⟨k+1,I (k8 HK.o),by go_num,HT,I (HX.trans C4)⟩
 ):σ:=h
def OB(h:σ:=by
 have HT:=I (show l.take k=l from bR o1);go_wp2;go_ret;exact⟨ag G0,HX⟩
 ):σ:=h
def jT{w:J}{a:l9}{cap:Nat}(h:i6 w a n cap l):
 f8 95 #[GI a n cap] w (bl (FM l)):=by
 have⟨r8,r9⟩:=h.aq9;have HL:=I h.hlen;have Z:=I h;clear h;unfold f8;go_in
 go_wp2
 go_loopg [3] n (λgk K wr=>∃k:Nat,b9 (gk+k=n)/\K=U k/\b9 ((l.take k).all z7=true)/\b9 (C7 w wr))
 ·exact N0
 obtain⟨k,HK,rfl,HA,HX⟩:=hrel;by_cases hlt:k<n
 ·obtain⟨b,off,x,y,rfl,E,D1,Eu⟩:=(Z.ext HX).at hlt;have G:=I (cI x y wr);cases hb:z7 (x,y)
  all_goals
   rw[hb]at G
  ·have HF:b9 (FM l=false):=Ai JO (by rw[E];exact hb);clear E hb;go_wp2_with fail;refine IR G λH C4=>?_;exact pq
  have HT:=I (show(l.take (k+1)).all z7=true by rw[BM JO,HA.o,E,hb];rfl);clear E hb;go_wp2_with fail;refine IR G λH C4=>?_;exact Ob
 exact OB
def C5(r:o4):o4:=(-r.1,r.2)
structure Tb  where
 rows:List (l7)
 basis:o3
 A6:Int
def Tb.row(t:Tb)(i:Nat):l7:=t.rows[i]?.getD []
def Tb.at(t:Tb)(i j:Nat):o4:=(t.row i)[j]?.getD (0,0)
variable{t:Tb}
def Ib(t:Tb):Bool :=
 A4 t.A6 0 1000&&(decide (JL t.basis=JL t.rows)&&(t.basis.all (λb=>A4 b 0 (t.A6+JL t.rows-1))&&t.rows.all (λr=>decide ((JL r:Int)=t.A6+JL t.rows+1))))
def NS(A:l7)(p:o4)(i:Nat):Option (Int×Int):=if(F1 (A[i]?.getD (0,0)) p).2=true then some (F1 (A[i]?.getD (0,0)) p).1 else none
def JM(A:l7)(p:o4):Option (l7):=LE (NS A p) A.length
def Vj(t:Tb)(row DU:Nat)(main:l7)(st:List (l7))(i:Nat):Option (List (l7)) :=
 if(i=row∨t.at i DU=(0,1)) then some st else(Gu (t.row i) (C5 (t.at i DU)) main).map λr=>st.set i r
def Gb(t:Tb)(row DU:Nat)(main:l7):Nat->Option (List (l7))
 | 0=>some (t.rows.set row main)
 | k+1=>(Gb t row DU main k).bind λst=>Vj t row DU main st k
def iH(t:Tb)(row DU:Nat):Option Tb :=
 (JM (t.row row) (t.at row DU)).bind λmain=>(Gb t row DU main (JL t.rows)).map λrs=>⟨rs,t.basis.set row (DU:Int),t.A6⟩
def fe(t:Tb)(row DU:Int):Bool:=Ib t&&(A4 row 0 (JL t.rows-1)&&A4 DU 0 (t.A6+JL t.rows-1))
def bW(t:Tb)(row DU:Int):Option Tb:=if fe t row DU=true then iH t row.toNat DU.toNat else none
def dT(t:Tb)(cost:l7):Nat->Option (l7)
 | 0=>some (cost++[(0,1)])
 | k+1=>(dT t cost k).bind λout=>Gu out (C5 (cost[(t.basis[k]?.getD 0).toNat]?.getD (0,0))) (t.row k)
def qS(t:Tb)(cost:l7):Bool:=Ib t&&(decide ((JL cost:Int)=t.A6+JL t.rows)&&FM cost)
def dC(t:Tb)(cost:l7):Option (l7):=if qS t cost=true then dT t cost (JL t.rows) else none
def GM(t:Tb):Nat->l7
 | 0=>List.replicate (t.A6.toNat+JL t.rows) (0,1)
 | k+1=>(GM t k).set (t.basis[k]?.getD 0).toNat (t.at k (t.A6.toNat+JL t.rows))
def Ga(t:Tb):l7:=if Ib t=true then GM t (JL t.rows) else []
def gD(c:o4):Bool:=decide (DM c (0,1)<0)
def bQ(costs:l7)(last:Int):Int:=if(JL costs:Int)<last then -1 else dg gD (costs.take last.toNat)
def eH(t:Tb)(DU:Nat)(st:Int×(Int×Int))(i:Nat):Int×(Int×Int) :=
 if DM (t.at i DU) (0,1)<=0 then st
 else if(F1 (t.at i (t.A6.toNat+JL t.rows)) (t.at i DU)).2=false then st
 else if st.1<0∨DM (F1 (t.at i (t.A6.toNat+JL t.rows)) (t.at i DU)).1 st.2<0∨(DM (F1 (t.at i (t.A6.toNat+JL t.rows)) (t.at i DU)).1 st.2=0/\t.basis[i]?.getD 0<t.basis[st.1.toNat]?.getD 0)
  then((i:Int),(F1 (t.at i (t.A6.toNat+JL t.rows)) (t.at i DU)).1) else st
def cU(t:Tb)(DU:Nat):Nat->Int×(Int×Int)
 | 0=>(-1,(0,0))
 | k+1=>eH t DU (cU t DU k) k
def dL(t:Tb)(DU:Int):Int:=if(Ib t&&A4 DU 0 (t.A6+JL t.rows-1))=true then(cU t DU.toNat (JL t.rows)).1 else -1
structure Ph  where
 t:Tb
 left:Nat
 costs:l7
 DU:Int
def bD(cost:l7):Nat->Tb->Option Ph
 | f,t=>match dC t cost with
   | none=>none
   | some cs =>
     if bQ cs t.A6<0 then some ⟨t,f,cs,-1⟩
     else if dL t (bQ cs t.A6)<0 then some ⟨t,f,cs,bQ cs t.A6⟩
     else match f with
      | 0=>none
      | f+1=>match bW t (dL t (bQ cs t.A6)) (bQ cs t.A6)with
        | none=>none
        | some t'=>bD cost f t'
def IS(c:o4):Bool:=decide (c≠(0,1))
def ju(n:Nat)(s:Tb×Nat)(k:Nat):Option (Tb×Nat) :=
 if s.1.basis[k]?.getD 0<n then some s
 else if dg IS ((s.1.row k).take n)<0 then some s
 else match s.2 with
  | 0=>none
  | f+1=>(bW s.1 k (dg IS ((s.1.row k).take n))).map λt=>(t,f)
def bP(n:Nat)(s:Tb×Nat):Nat->Option (Tb×Nat)
 | 0=>some s
 | k+1=>(bP n s k).bind λs'=>ju n s' k
def GS(b:Int):Int:=if b<0 then -1 else 1
def sH(m i:Nat):l7:=(List.range m).map λk=>if k=i then(1,1) else(0,1)
def dF(A:l8)(B:o3)(i:Nat):l7 :=
 ((A[i]?.getD []).map λx=>(GS (B[i]?.getD 0)*x,1))++sH (JL A) i++[(GS (B[i]?.getD 0)*B[i]?.getD 0,1)]
def cz(A:l8)(B:o3)(n:Nat):Tb:=⟨(List.range (JL A)).map (dF A B),(List.range (JL A)).map λi=>((n+i:Nat):Int),n⟩
def Gy(A B:l7):Nat->Option (Int×Int)
 | 0=>some (0,1)
 | k+1=>(Gy A B k).bind λs=>if(cM (A[k]?.getD (0,0)) (B[k]?.getD (0,0))).2=true/\(Ev s (cM (A[k]?.getD (0,0)) (B[k]?.getD (0,0))).1).2=true
     then some (Ev s (cM (A[k]?.getD (0,0)) (B[k]?.getD (0,0))).1).1 else none
def DZ(A B:l7):Option (Int×Int):=if JL A=JL B then Gy A B (JL A) else none
def Ej(A:l8)(B:o3)(C:l7):Bool :=
 decide (JL C<=70)&&(decide (JL A<=8)&&(decide (JL B=JL A)&&(FM C&&(A.all (λr=>decide (JL r=JL C)&&r.all (A4 · (-5000) 5000))&&B.all (A4 · (-5000) 5000)))))
def El(A:l8)(j:Nat):o3:=A.map λr=>r[j]?.getD 0
def J3(x:l7):Bool:=x.all λr=>z7 r&&decide (0<=r.1)
def em(A:l8)(x:l7)(B:o3):Bool:=(List.range (JL A)).all λi=>decide (DZ (aG (A[i]?.getD [])) x=some (B[i]?.getD 0,1))
def eO(A:l8)(B:o3)(n:Nat)(x:l7):Bool:=decide (JL x=n)&&(J3 x&&em A x B)
structure G9  where
 status:Int
 X:l7
 Y:l7
 IJ:l7
 value:o4
 Rw:Int
deriving DecidableEq
def bh(s:Int):G9:=⟨s,[],[],[],(0,0),0⟩
def az(A:l8)(Y C:l7)(j:Nat):Bool :=
 match DZ Y (aG (El A j))with
 | none=>false
 | some v=>(D9 (C[j]?.getD (0,0)) v).2&&decide (0<=(D9 (C[j]?.getD (0,0)) v).1.1)
def bL(A:l8)(Y C:l7)(j:Nat):Bool :=
 match DZ Y (aG (El A j))with
 | none=>false
 | some v=>decide (0<=DM (C[j]?.getD (0,0)) v)
def jP(B:o3)(C:l7)(r:G9):Bool :=
 match DZ C r.X,DZ r.Y (aG B)with
 | some x,some y=>decide (x=y)&&decide (x=r.value)
 | _,_=>false
def oN(A:l8)(B:o3)(n:Nat)(Y:l7):Bool :=
 (List.range n).all (λj=>match DZ Y (aG (El A j))with|none=>false|some v=>decide (v.1<=0))&&(match DZ Y (aG B)with|none=>false|some v=>decide (0<v.1))
def ZI(A:l8)(B:o3)(C:l7)(IJ:l7):Bool :=
 decide (JL IJ=JL C)&&(J3 IJ&&(em A IJ (List.replicate (JL B) 0)&&(match DZ C IJ with|none=>false|some v=>decide (v.1<0))))
def aQ(bound:l8->l7->l7->Nat->Bool)(A:l8)(B:o3)(C:l7)(r:G9):Bool :=
 if r.status=1 then eO A B (JL C) r.X&&(decide (JL r.Y=JL B)&&((List.range (JL C)).all (bound A r.Y C)&&jP B C r))
 else if r.status=2 then decide (JL r.Y=JL B)&&oN A B (JL C) r.Y
 else if r.status=3 then eO A B (JL C) r.X&&ZI A B C r.IJ
 else false
def He(b:Int)(y:o4):o4:=if b<0 then C5 y else y
def gP(B:o3)(base:o4)(cs:l7)(n i:Nat):Option (Int×Int) :=
 if(D9 base (cs[n+i]?.getD (0,0))).2=true then some (He (B[i]?.getD 0) (D9 base (cs[n+i]?.getD (0,0))).1) else none
def eM(B:o3)(cs:l7)(n i:Nat):o4:=He (B[i]?.getD 0) (C5 (cs[n+i]?.getD (0,0)))
def F6(t:Tb)(n DU:Nat):Nat->l7
 | 0=>(List.range n).map λj=>if j=DU then(1,1) else(0,1)
 | k+1=>if t.basis[k]?.getD 0<n then(F6 t n DU k).set (t.basis[k]?.getD 0).toNat (C5 (t.at k DU)) else F6 t n DU k
def eQ(n m:Nat):l7:=List.replicate n (0,1)++List.replicate m (1,1)
def dw(C:l7)(m:Nat):l7:=C++List.replicate m (0,1)
def Gi(A:l8)(B:o3)(C:l7):Option G9 :=
 (bD (eQ (JL C) (JL B)) 1000 (cz A B (JL C))).bind λp1 =>
   if(p1.costs[JL C+B.length]?.getD (0,0)).1<0 then
    (LE (gP B (1,1) p1.costs (JL C)) (JL B)).map λY=>⟨2,[],Y,[],(0,0),1000-p1.left⟩
   else(bP (JL C) (p1.t,p1.left) (JL B)).bind λs=>(bD (dw C (JL B)) s.2 s.1).map λp2 =>
    if 0<=p2.DU then⟨3,(Ga p2.t).take (JL C),[],F6 p2.t (JL C) p2.DU.toNat (JL B),(0,0),1000-p2.left⟩
    else⟨1,(Ga p2.t).take (JL C),(List.range (JL B)).map (eM B p2.costs (JL C)),[],C5 (p2.costs[JL C+B.length]?.getD (0,0)),1000-p2.left⟩
def bG(bound:l8->l7->l7->Nat->Bool)(A:l8)(B:o3)(C:l7):G9 :=
 if Ej A B C=true then
  match Gi A B C with
  | none=>bh 4
  | some r=>if aQ bound A B C r=true then r else bh 4
 else bh 0
def Fr(p:o4)(x D:Int):Prop:=z7 p=true/\0<D/\p.1*D=x*p.2
def kK{p:o4}(h:z7 p=true):gI p.1 p.2=1:=by
 simp only[z7,eI,ef]at h;exact h.2.2
def oT{p:o4}(h1:1<=p.2)(h2:p.2<=1000000000)(h3:-1000000000<=p.1)(h4:p.1<=1000000000)(h5:gI p.1 p.2=1):z7 p=true:=by
 simp only[z7,A4,eI,ef];omega
def kr(a b:Int):gI a b=1↔Nat.Coprime a.natAbs b.natAbs:=by unfold gI Int.gcd Nat.Coprime;omega
def wY{a b c:Int}(hb:0<b)(hd:0<d)(H:gI a b=1)(G:gI c d=1)(h:a*d=c*b):a=c/\b=d:=by
 rw[kr]at H G;have E:a.natAbs*d.natAbs=c.natAbs*b.natAbs:=by rw[<-WR,<-WR,h]
 have e1:b.natAbs∣d.natAbs:=Ww H.symm ⟨c.natAbs,by rw[E,X0]⟩;have Z:d.natAbs∣b.natAbs:=Ww G.symm ⟨a.natAbs,by rw[<-E,X0]⟩;have K:b=d:=by have:=Nat.dvd_antisymm e1 Z;omega
 subst K;exact⟨Hu j0 h,rfl⟩
def Fr.eq{p q:o4}{y E:Int}(h:Fr p x D)(k:Fr q y E)(e:x*E=y*D):p=q:=by
 obtain⟨K,h2,h3⟩:=h;obtain⟨k1,k2,k3⟩:=k;have hb:=(aU K).1;have kb:=(aU k1).1;have G:(p.1*q.2)*(D*E)=(q.1*p.2)*(D*E):=by grind
 have H:D*E≠0:=nr j0 j0;have:=wY j0 j0 (kK K) (kK k1) (Hu H G);exact Prod.ext this.1 this.2
def Fr.int(c:Int)(h:-1000000000<=c)(E:c<=1000000000):Fr (c,1) c 1 :=
 ⟨oT j7 j7 h E (by rw[kr];simp),by omega,rfl⟩
def Fr.self{p:o4}(h:z7 p=true):Fr p p.1 p.2:=⟨h,by have:=(aU h).1;omega,rfl⟩
def pU(n d:Int)(hd:0<d):1<=gI n d/\n=gI n d*n.tdiv (gI n d)/\d=gI n d*d.tdiv (gI n d)/\0<d.tdiv (gI n d):=by
 have hg:=nO n (show d≠0 by omega);have⟨k,E⟩:=sR n d;have⟨m,hm⟩:=oK n d;have H:n.tdiv (gI n d)=k:=by
    conv=>lhs;arg 1;rw[E]
    exact Yj _ j0
 have G:d.tdiv (gI n d)=m:=by
    conv=>lhs;arg 1;rw[hm]
    exact Yj _ j0
 rw[H,G];refine⟨hg,E,hm,?_⟩;rcases VC 0 m with h|h
 ·exact h
 exact Jx
def uI{n:Int}(hd:0<d)(hn:-1000000000000000000<=n/\n<=1000000000000000000)(hd':d<=1000000000000000000):aN n d=Gk (n.tdiv (gI n d),d.tdiv (gI n d)):=by
 unfold aN;rw[f7 (by simp[A4];omega),f7 j0]
def Bk{n:Int}(K:0<d)(hD:0<D)(hn:-1000000000000000000<=n/\n<=1000000000000000000)(H:d<=1000000000000000000)(hx:-1000000000000000000<=x/\x<=1000000000000000000)(Z:D<=1000000000000000000)(e:n*D=x*d):aN n d=aN x D:=by
 rw[uI K hn H,uI hD hx Z];have⟨g1,g2,g3,g4⟩:=pU n d K;have⟨k1,k2,k3,k4⟩:=pU x D hD;have E:(n.tdiv (gI n d)*D.tdiv (gI x D))*(gI n d*gI x D)=(x.tdiv (gI x D)*d.tdiv (gI n d))*(gI n d*gI x D):=by
  have a1:(n.tdiv (gI n d)*D.tdiv (gI x D))*(gI n d*gI x D)=(gI n d*n.tdiv (gI n d))*(gI x D*D.tdiv (gI x D)):=by grind
  have a2:(x.tdiv (gI x D)*d.tdiv (gI n d))*(gI n d*gI x D)=(gI x D*x.tdiv (gI x D))*(gI n d*d.tdiv (gI n d)):=by grind
  rw[a1,a2,<-g2,<-g3,<-k2,<-k3,e]
 have G:gI n d*gI x D≠0:=nr j0 j0;have:=wY g4 k4 (nN n d K) (nN x D hD) (Hu G E);rw[this.1,this.2]
def mJ{n:Int}(E:0<d)(h:(aN n d).2=true):Fr (aN n d).1 n d:=by
 refine⟨jy h,E,?_⟩;unfold aN at h⊢;split at h
 ·simp at h
 next h0 =>
 rw[f7 h0];split at h
 ·omega
 next h1 =>
 rw[f7 h1];unfold Gk at h⊢;split at h
 ·next h2 =>
  rw[f9 h2];have⟨g1,G,g3,g4⟩:=pU n d E;simp only;generalize n.tdiv (gI n d)=k at *;generalize d.tdiv (gI n d)=m at *;generalize gI n d=g at *;subst G;grind
 simp at h
def qs{n:Int}(hd:0<d)(Z:-1000000000000000000<=n/\n<=1000000000000000000)(E:d<=1000000000000000000)(H:0<D)(G:D<=1000000000)(hx:-1000000000<=x/\x<=1000000000)(e:n*D=x*d):
 ∃r,aN n d=(r,true)/\Fr r x D:=by
 have h1:=Bk hd H Z E j0 j0 e;have K:=Vc (n:=x) (d:=D) j0 G hx.1 hx.2;exact⟨(aN x D).1,by rw[h1,<-K],mJ H K⟩
def YH{p q:Int}(h:-1000000000<=p/\p<=1000000000)(k:-1000000000<=q/\q<=1000000000):-1000000000000000000<=p*q/\p*q<=1000000000000000000:=Vv h.1 h.2 k.1 k.2
def Fr.add{p q:o4}{y E z F:Int}(h:Fr p x D)(k:Fr q y E)(hF:0<F)(G:F<=1000000000)(hz:-1000000000<=z/\z<=1000000000)(hs:-1000000000000000000<=p.1*q.2+q.1*p.2/\p.1*q.2+q.1*p.2<=1000000000000000000)(e:(x*E+y*D)*F=z*(D*E)):∃r,Ev p q=(r,true)/\Fr r z F:=by
 obtain⟨K,h2,h3⟩:=h;obtain⟨k1,k2,k3⟩:=k;have hb:=aU K;have kb:=aU k1;have Z:0<p.2*q.2:=Int.mul_pos j0 j0;have H:D*E≠0:=nr j0 j0;unfold Ev;rw[f9 (by rw[K,k1];rfl)];refine qs Z hs (YH ⟨by omega,hb.2.1⟩ ⟨by omega,kb.2.1⟩).2 hF G hz ?_;refine Hu H ?_;have:(p.1*q.2+q.1*p.2)*F*(D*E)=((p.1*D)*(q.2*E)+(q.1*E)*(p.2*D))*F:=by grind
 rw[this,h3,k3];have:(x*p.2*(q.2*E)+y*q.2*(p.2*D))*F=((x*E+y*D)*F)*(p.2*q.2):=by grind
 rw[this,e];grind
def Fr.size{p:o4}(h:Fr p x D):p.2<=D/\p.1.natAbs<=x.natAbs:=by
 obtain⟨G,h2,H⟩:=h;have hb:=aU G;have hc:=kK G;rw[kr]at hc;have E:p.1.natAbs*D.natAbs=x.natAbs*p.2.natAbs:=by rw[<-WR,<-WR,H]
 have e1:p.2.natAbs∣D.natAbs:=Ww hc.symm ⟨x.natAbs,by rw[E,X0]⟩;have Z:=Nat.le_of_dvd j0 e1;refine⟨by omega,?_⟩;have K:p.1.natAbs*p.2.natAbs<=x.natAbs*p.2.natAbs:=by rw[<-E];exact Nat.mul_le_mul_left _ Z
 exact Nat.le_of_mul_le_mul_right K j0
def val(r:o4):Rat:=(r.1:Rat)/(r.2:Rat)
def fF(h:d≠0):(d:Rat)≠0:=by exact_mod_cast h
def Uu{r:o4}{n:Int}(h:Fr r n d):val r=(n:Rat)/(d:Rat):=by
 obtain⟨G,h2,E⟩:=h;have hb:=(aU G).1;have e:(r.1:Rat)*(d:Rat)=(n:Rat)*(r.2:Rat):=by exact_mod_cast E
 have a:=fF (show d≠0 by omega);have b:=fF (show r.2≠0 by omega);unfold val
 grind
def Af{p q:o4}(G:z7 p=true)(E:z7 q=true)(h:val p=val q):p=q:=by
 have hb:=(aU G).1;have kb:=(aU E).1;have a:=fF (show p.2≠0 by omega);have b:=fF (show q.2≠0 by omega);have e:(p.1:Rat)*(q.2:Rat)=(q.1:Rat)*(p.2:Rat):=by unfold val at h;grind
 have e':p.1*q.2=q.1*p.2:=by exact_mod_cast e
 have:=wY j0 j0 (kK G) (kK E) e';exact Prod.ext this.1 this.2
theorem oB{p q:o4}(G:z7 p=true)(E:z7 q=true):0<=DM p q↔val q<=val p:=by
 have hb:=(aU G).1;have kb:=(aU E).1;have a:(0:Rat)<(p.2:Rat):=by exact_mod_cast (show 0<p.2 by omega)
 have b:(0:Rat)<(q.2:Rat):=by exact_mod_cast (show 0<q.2 by omega)
 have e:0<=DM p q↔q.1*p.2<=p.1*q.2:=by
  unfold DM;rw[f9 (by rw[G,E];rfl)]
  split
  ·omega
  split<;>omega
 rw[e];have e2:q.1*p.2<=p.1*q.2↔(q.1:Rat)*p.2<=(p.1:Rat)*q.2:=by
  constructor
  ·intro h;exact_mod_cast h
  intro h;exact_mod_cast h
 rw[e2];have x1:(p.1:Rat)=val p*p.2:=by unfold val;grind
 have Z:(q.1:Rat)=val q*q.2:=by unfold val;grind
 have Tt:(0:Rat)<(p.2:Rat)*q.2:=Rat.mul_pos a b;have K:(q.1:Rat)*p.2=val q*((p.2:Rat)*q.2):=by rw[Z];grind
 have H:(p.1:Rat)*q.2=val p*((p.2:Rat)*q.2):=by rw[x1];grind
 rw[K,H];exact⟨λh=>Rat.le_of_mul_le_mul_right h Tt,λh=>Rat.mul_le_mul_of_nonneg_right h (by grind)⟩
theorem iO{p:o4}(G:z7 p=true):0<=p.1↔0<=val p:=by
 have hb:=(aU G).1;have a:(0:Rat)<(p.2:Rat):=by exact_mod_cast (show 0<p.2 by omega)
 have E:(p.1:Rat)=val p*p.2:=by unfold val;grind
 have e:0<=p.1↔(0:Rat)*p.2<=val p*p.2:=by
  rw[<-E];constructor
  ·intro h;have:(0:Rat)<=(p.1:Rat):=by exact_mod_cast h
   grind
  intro h;have:(0:Rat)<=(p.1:Rat):=by grind
  exact_mod_cast this
 rw[e];exact⟨λh=>Rat.le_of_mul_le_mul_right h a,λh=>Rat.mul_le_mul_of_nonneg_right h (by grind)⟩
def fz(x:Int):val (x,1)=(x:Rat):=by unfold val;grind
def is(r:o4):val (C5 r)=- val r:=by
 unfold val C5;have:((-r.1:Int):Rat)=- (r.1:Rat):=by exact_mod_cast rfl
 simp only[this];grind
def eu(r:o4):z7 (C5 r)=z7 r:=kL r.1 r.2
def tl(n b:Int):A4 (-n) (-b) b=A4 n (-b) b:=by
 unfold A4;rw[yy];simp;omega
def xz(n d:Int):aN (-n) (-d)=aN n d:=by
 unfold aN;have K:=tl n 1000000000000000000;have H:=tl d 1000000000000000000;rw[ke,oL,K,H];by_cases G:d=0
 ·subst G;simp
 have:-d≠0:=j0;simp only[G,this,false_or];split
 ·rfl
 by_cases E:d<0
 ·rw[f7 j0,f9 E];simp[LX,TM]
 rw[f9 j0,f7 E];simp[LX,TM]
def uJ(n d:Int):aN (-n) d=(C5 (aN n d).1,(aN n d).2):=by
 unfold aN;have E:=tl n 1000000000000000000;rw[ke,E];have hc:∀a b:Int,Gk (-a,b)=(C5 (Gk (a,b)).1,(Gk (a,b)).2):=by
  intro a b;unfold Gk;rw[kL];split<;>rfl
 split
 ·rfl
 split
 ·rw[LX,hc]
 rw[LX,hc]
def oC{n:Int}(h:(aN n d).2=true):d≠0/\z7 (aN n d).1=true/\val (aN n d).1=(n:Rat)/(d:Rat):=by
 have E:d≠0:=by
  intro G;subst G;simp[aN]at h
 refine⟨E,jy h,?_⟩;rcases Int.lt_or_gt_of_ne E with hlt|LW
 ·have e:=xz n d;rw[<-e]at h⊢;have:=Uu (mJ j0 h);rw[this];have a:=fF E;have K:((-n:Int):Rat)=- (n:Rat):=by exact_mod_cast rfl
  have H:((-d:Int):Rat)=- (d:Rat):=by exact_mod_cast rfl
  rw[K,H];grind
 exact Uu (mJ LW h)
def fl{a b:Bool}(h:(a&&b)=true):a=true/\b=true:=by simpa using h
def oU(h:(Ev a b).2=true):z7 a=true/\z7 b=true/\z7 (Ev a b).1=true/\val (Ev a b).1=val a+val b:=by
 unfold Ev at h⊢;split at h
 ·next h1 =>
  rw[f9 h1];have⟨E,hb⟩:=fl h1;have⟨h2,H,G⟩:=oC h;refine⟨E,hb,H,?_⟩;rw[G];have e1:=fF (show a.2≠0 by have:=(aU E).1;omega);have e2:=fF (show b.2≠0 by have:=(aU hb).1;omega);unfold val;simp only[Rat.intCast_add,RB]
  grind
 simp at h
def oV(h:(D9 a b).2=true):z7 a=true/\z7 b=true/\z7 (D9 a b).1=true/\val (D9 a b).1=val a-val b:=by
 rw[<-yi]at h⊢;have⟨K,E,H,G⟩:=oU h;rw[kL]at E;refine⟨K,E,H,?_⟩;rw[G];have:=is b;unfold C5 at this;rw[this];grind
def Ag(h:(cM a b).2=true):z7 a=true/\z7 b=true/\z7 (cM a b).1=true/\val (cM a b).1=val a*val b:=by
 unfold cM at h⊢;split at h
 ·next h1 =>
  rw[f9 h1];have⟨E,hb⟩:=fl h1;have⟨h2,H,G⟩:=oC h;refine⟨E,hb,H,?_⟩;rw[G];have e1:=fF (show a.2≠0 by have:=(aU E).1;omega);have e2:=fF (show b.2≠0 by have:=(aU hb).1;omega);unfold val;simp only[RB]
  grind
 simp at h
def Zv(h:(F1 a b).2=true):z7 a=true/\z7 b=true/\z7 (F1 a b).1=true/\val b≠0/\val (F1 a b).1=val a/val b:=by
 unfold F1 at h⊢;split at h
 ·next h1 =>
  rw[f9 h1];have⟨E,hb⟩:=fl h1;have⟨G,K,H⟩:=oC h;have e1:=fF (show a.2≠0 by have:=(aU E).1;omega);have e2:=fF (show b.2≠0 by have:=(aU hb).1;omega);have e3:=fF (show b.1≠0 by intro Z;rw[Z]at G;simp at G);refine⟨E,hb,K,?_,?_⟩
  ·unfold val;grind
  rw[H];unfold val;simp only[RB]
  grind
 simp at h
def CJ(a b:o4):cM a b=cM b a:=by
 unfold cM;rw[Zr,TG a.1,TG a.2]
def Vw(a b:o4):cM a (C5 b)=(C5 (cM a b).1,(cM a b).2):=by
 unfold cM;rw[eu];split
 ·have:a.1*(C5 b).1=-(a.1*b.1):=by unfold C5;simp only;grind
  rw[this,uJ];rfl
 rfl
def Yb(a b:o4):Ev (C5 a) (C5 b)=(C5 (Ev a b).1,(Ev a b).2):=by
 unfold Ev;rw[eu,eu];split
 ·have:(C5 a).1*(C5 b).2+(C5 b).1*(C5 a).2=-(a.1*b.2+b.1*a.2):=by unfold C5;simp only;grind
  rw[this,uJ];rfl
 rfl
def A7(f:Nat->Rat):Nat->Rat
 | 0=>0
 | k+1=>A7 f k+f k
def kF(f g:Nat->Rat)(c:Rat):∀m,A7 (λk=>f k+c*g k) m=A7 f m+c*A7 g m
 | 0=>by simp[A7];grind
 | m+1=>by simp only[A7,kF f g c m];grind
def bX{f g:Nat->Rat}:∀{m},(∀k,k<m->f k=g k)->A7 f m=A7 g m
 | 0,_=>rfl
 | m+1,h=>by simp only[A7,bX (m:=m) (λk hk=>h k j0),h m j0]
def fK{f:Nat->Rat}:∀{m},(∀k,k<m->f k=0)->A7 f m=0
 | 0,_=>rfl
 | m+1,h=>by simp only[A7,fK (m:=m) (λk hk=>h k j0),h m j0];grind
def ym{f:Nat->Rat}{i:Nat}:∀{m},i<m->(∀k,k<m->k≠i->f k=0)->A7 f m=f i
 | 0,hi,_=>absurd hi j0
 | m+1,hi,h=>by
   by_cases E:i=m
   ·subst E;simp only[A7];rw[fK (λk G=>h k j0 j0)];grind
   simp only[A7];rw[ym (m:=m) j0 (λk G H=>h k j0 H),h m j0 j0];grind
def FC(n m:Nat)(T0:Nat->Nat->Rat)(c f:Nat->Rat):Prop:=∀j,j<n+m+1->f j-c j=A7 (λk=>(f (n+k)-c (n+k))*T0 k j) m
def FC.add{c f g h:Nat->Rat}{k:Rat}(H:FC n m T0 c f)(hg:FC n m T0 (λ_=>0) g)(G:∀j,j<n+m+1->h j=f j+k*g j):FC n m T0 c h:=by
 intro j E;have Z:=H j E;have K:=hg j E;rw[G j E];have e:A7 (λi=>(h (n+i)-c (n+i))*T0 i j) m=A7 (λi=>(f (n+i)-c (n+i))*T0 i j+k*((g (n+i)-0)*T0 i j)) m :=
  bX λi hi=>by rw[G (n+i) j0];grind
 rw[e,kF,<-Z,<-K];grind
def FC.scale{g h:Nat->Rat}{k:Rat}(hg:FC n m T0 (λ_=>0) g)(G:∀j,j<n+m+1->h j=k*g j):FC n m T0 (λ_=>0) h:=by
 have H:FC n m T0 (λ_=>0) (λ_=>0):=by
  intro j E;rw[fK (λk hk=>by grind)];grind
 exact FC.add H hg (k:=k) (λj E=>by rw[G j E];grind)
def B4(r:l7)(j:Nat):Rat:=val (r[j]?.getD (0,0))
def mE(N:Nat)(r:l7):Prop:=JL r=N/\∀j,j<N->z7 (r[j]?.getD (0,0))=true
def uS{A B:l7}{k:o4}(h:Gu A k B=some r):JL A=JL B/\JL r=JL A/\∀j,j<JL A->z7 (r[j]?.getD (0,0))=true/\B4 r j=B4 A j+val k*B4 B j:=by
 unfold Gu at h;split at h
 ·next hl =>
  refine⟨hl,cX h,λj G=>?_⟩;have hs:=ir h j G;unfold MD at hs;split at hs
  ·next h2 =>
   simp only[bq]at hs;obtain⟨K,H⟩:=h2;obtain⟨_,_,_,E⟩:=Ag K;obtain⟨_,_,a3,Z⟩:=oU H;rw[<-hs];refine⟨a3,?_⟩;unfold B4;rw[<-hs,Z,E]
  cases hs
 cases h
def Ca{A:l7}{p:o4}(h:JM A p=some r):JL r=JL A/\∀j,j<JL A->z7 (r[j]?.getD (0,0))=true/\val p≠0/\B4 r j=B4 A j/val p:=by
 refine⟨cX h,λj E=>?_⟩;have hs:=ir h j E;unfold NS at hs;split at hs
 ·next h2 =>
  simp only[bq]at hs;obtain⟨_,_,K,H,G⟩:=Zv h2;rw[<-hs];refine⟨K,H,?_⟩;unfold B4;rw[<-hs,G]
 cases hs
structure EY(n m:Nat)(T0:Nat->Nat->Rat)(t:Tb):Prop where
 A6:t.A6=n
 len:t.rows.length=m
 Ji:t.basis.length=m
 bas:∀b∈t.basis,0<=b/\b<n+m
 row:∀i,i<m->mE (n+m+1) (t.row i)
 rel:∀i,i<m->FC n m T0 (λ_=>0) (B4 (t.row i))
def EY.ok(h:EY n m T0 t)(hn:n<=1000):Ib t=true:=by
 unfold Ib;have hc:=h.A6;have E:=h.len;simp only[eI,A4,ef,gy];refine⟨by omega,by rw[h.Ji,E],λb hb=>?_,λr hr=>?_⟩
 ·have:=h.bas b hb;omega
 obtain⟨i,hi,rfl⟩:=Yi.1 hr;have:=(h.row i j0).1;unfold Tb.row at this;rw[Id hi,Nm]at this;omega
def zU{rs:List (l7)}{i:Nat}(hi:i<JL rs):(rs.set i r)[k]?.getD []=if k=i then r else rs[k]?.getD []:=by
 by_cases h:k=i
 ·subst h;rw[f9 rfl];simp[hi]
 rw[f7 h,sq (λe=>h e.symm)]
def uF{n m:Nat}{T0:Nat->Nat->Rat}{t:Tb}(h:EY n m T0 t){row DU:Nat}(hr:row<m){main:l7}(Ol:mE (n+m+1) main)(Tn:FC n m T0 (λ_=>0) (B4 main)):
 ∀{k:Nat} {st:List (l7)},k<=m->Gb t row DU main k=some st->JL st=m/\∀i,i<m->mE (n+m+1) (st[i]?.getD [])/\FC n m T0 (λ_=>0) (B4 (st[i]?.getD []))
 | 0,st,hk,e=>by
   simp only[Gb,bq]at e;subst e;refine⟨by rw[k7,h.len],λi hi=>?_⟩;rw[zU (by rw[h.len];exact hr)]
   split
   ·exact⟨Ol,Tn⟩
   exact⟨h.row i hi,h.rel i hi⟩
 | k+1,st,hk,e=>by
   simp only[Gb]at e;cases Z:Gb t row DU main k with
   | none=>rw[Z]at e;cases e
   | some s0 =>
     rw[Z]at e;simp only[mr]at e;have⟨G,hs⟩:=uF h hr Ol Tn j0 Z;unfold Vj at e
     split at e
     ·simp only[bq]at e;subst e;exact⟨G,hs⟩
     cases K:Gu (t.row k) (C5 (t.at k DU)) main with
     | none=>rw[K]at e;cases e
     | some r =>
       rw[K]at e;simp only[yl,bq]at e;subst e;have⟨s1,s2,s3⟩:=uS K;have E:=(h.row k j0).1;refine⟨by rw[k7,G],λi hi=>?_⟩;rw[zU (by rw[G];omega)]
       split
       ·refine⟨⟨by rw[s2,E],λj H=>(s3 j (by rw[E];exact H)).1⟩,?_⟩;exact FC.add (h.rel k j0) Tn (k:=val (C5 (t.at k DU))) (λj H=>(s3 j (by rw[E];exact H)).2)
       exact hs i hi
def gS{t':Tb}(h:EY n m T0 t){row DU:Int}(e:bW t row DU=some t'):EY n m T0 t':=by
 unfold bW at e;split at e
 ·next ha =>
  unfold fe at ha;simp only[eI,A4,ef]at ha;have hc:=h.A6;have hl:=h.len;have E:row.toNat<m:=j0;have Lp:DU.toNat<n+m:=j0;unfold iH at e;cases K:JM (t.row row.toNat) (t.at row.toNat DU.toNat)with
  | none=>rw[K]at e;cases e
  | some main =>
    rw[K]at e;simp only[mr]at e;cases H:Gb t row.toNat DU.toNat main (JL t.rows) with
    | none=>rw[H]at e;cases e
    | some rs =>
      rw[H]at e;simp only[yl,bq]at e;subst e;have⟨d1,d2⟩:=Ca K;have Z:=(h.row _ E).1;have Ol:mE (n+m+1) main:=⟨by rw[d1,Z],λj G=>(d2 j (by rw[Z];exact G)).1⟩
      have Tn:FC n m T0 (λ_=>0) (B4 main):=FC.scale (h.rel _ E) (k:=1/val (t.at row.toNat DU.toNat)) (λj G=>by
       have:=(d2 j (by rw[Z];exact G)).2
       rw[this.2];have:=this.1;grind)
      have⟨p1,p2⟩:=uF h E Ol Tn j0 H;exact⟨hc,p1,by simp[h.Ji],λb hb=>by
       rcases List.mem_or_eq_of_mem_set hb with h1|h1
       ·exact h.bas b h1
       omega,λi hi=>(p2 i hi).1,λi hi=>(p2 i hi).2⟩
 cases e
def qR{n m:Nat}{T0:Nat->Nat->Rat}{t:Tb}(h:EY n m T0 t){cost:l7}(H:JL cost=n+m)(hv:∀j,j<n+m->z7 (cost[j]?.getD (0,0))=true):
 ∀{k:Nat} {G:l7},k<=m->dT t cost k=some G->mE (n+m+1) G/\FC n m T0 (B4 (cost++[(0,1)])) (B4 G)
 | 0,G,hk,e=>by
   simp only[dT,bq]at e;subst e;refine⟨⟨by simp[H],λj E=>?_⟩,?_⟩
   ·by_cases SE:j<n+m
    ·rw[tv j0];exact hv j SE
    obtain rfl:j=n+m:=j0
    rw[<-H,Wo,Nm];rfl
   intro j E;rw[fK (λk hk=>by grind)];grind
 | k+1,G,hk,e=>by
   simp only[dT]at e;cases Z:dT t cost k with
   | none=>rw[Z]at e;cases e
   | some c0 =>
     rw[Z]at e;simp only[mr]at e;have⟨⟨K,h2⟩,h3⟩:=qR h H hv j0 Z;have⟨s1,s2,s3⟩:=uS e;exact⟨⟨by rw[s2,K],λj E=>(s3 j (by rw[K];exact E)).1⟩,FC.add h3 (h.rel k j0) (λj E=>(s3 j (by rw[K];exact E)).2)⟩
def fi(h:EY n m T0 t){E:l7}(e:dC t cost=some E):mE (n+m+1) E/\FC n m T0 (B4 (cost++[(0,1)])) (B4 E):=by
 unfold dC at e;split at e
 ·next ho =>
  unfold qS FM at ho;simp only[eI,ef,gy]at ho;have hc:=h.A6;have G:=h.len;have hlen:JL cost=n+m:=j0;rw[G]at e;exact qR h hlen (λj hj=>by rw[Id j0];exact ho.2.2 _ (eN _)) (i8 _) e
 cases e
def eE:∀{f:Nat} {t:Tb} {p:Ph},EY n m T0 t->bD cost f t=some p->EY n m T0 p.t/\dC p.t cost=some p.costs/\p.left<=f:=by
 intro f
 induction f with
 | zero =>
   intro t p h e;unfold bD at e;cases E:dC t cost with
   | none=>rw[E]at e;cases e
   | some cs =>
     rw[E]at e;simp only at e;split at e
     ·simp only[bq]at e;subst e;exact⟨h,E,i8 _⟩
     split at e
     ·simp only[bq]at e;subst e;exact⟨h,E,i8 _⟩
     cases e
 | succ f ih =>
   intro t p h e;unfold bD at e;cases E:dC t cost with
   | none=>rw[E]at e;cases e
   | some cs =>
     rw[E]at e;simp only at e;split at e
     ·simp only[bq]at e;subst e;exact⟨h,E,i8 _⟩
     split at e
     ·simp only[bq]at e;subst e;exact⟨h,E,i8 _⟩
     cases G:bW t (dL t (bQ cs t.A6)) (bQ cs t.A6)with
     | none=>rw[G]at e;cases e
     | some t' =>
       rw[G]at e;have⟨a,b,c⟩:=ih (gS h G) e;exact⟨a,b,by omega⟩
def gO{n m:Nat}{T0:Nat->Nat->Rat}{n':Nat}{s:Tb×Nat}(h:EY n m T0 s.1):∀{k:Nat} {s':Tb×Nat},bP n' s k=some s'->EY n m T0 s'.1/\s'.2<=s.2
 | 0,s',e=>by simp only[bP,bq]at e;subst e;exact⟨h,i8 _⟩
 | k+1,s',e=>by
   simp only[bP]at e;cases G:bP n' s k with
   | none=>rw[G]at e;cases e
   | some s1 =>
     rw[G]at e;simp only[mr]at e;have⟨E,H⟩:=gO h G;unfold ju at e
     split at e
     ·simp only[bq]at e;subst e;exact⟨E,H⟩
     split at e
     ·simp only[bq]at e;subst e;exact⟨E,H⟩
     split at e
     ·cases e
     next f hf =>
     rw[Sc]at e;obtain⟨t',K,rfl⟩:=e;exact⟨gS E K,by show f<=s.2;omega⟩
