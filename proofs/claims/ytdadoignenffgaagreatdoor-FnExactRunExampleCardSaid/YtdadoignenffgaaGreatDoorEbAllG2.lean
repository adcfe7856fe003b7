import Derived.Test.YtdadoignenffgaaGreatDoorEbAllG1
import Derived.Test.YtdadoignenffgaaGreatDoorEbAllG0
import Derived.Deep.RegionLaw
set_option linter.unusedVariables false
set_option linter.unusedSimpArgs false
namespace Go.Proofs.YtdadoignenffgaaGreatDoor
variable{w:World}{base n:Nat}{v:Value}{l:j4}{d x y:Int}
set_option maxHeartbeats 16000000
open Go.RowKit
def Cm(l:j4):List Value:=l.flatMap fun p=>[Value.int .i64 p.1,Value.int .i64 p.2]
theorem uJ(l G:j4):Cm (l++G)=Cm l++Cm G:=by simp[Cm]
theorem tm:∀(l:j4),∀u∈Cm l,u.oneCell'=true
 | [],u,h=>by simp[Cm]at h
 | p::l,u,h=>by
   simp only[Cm,aar,aa',aaL,aaz,adg]at h
   rcases h with(rfl|rfl)|h
   ·rfl
   ·rfl
   ·exact tm l u h
def o0(w:World)(base:Nat)(v:Value)(l:j4):Prop:=w.ownsRow base 62 2 v l.length (Cm l)
theorem o0.form(h:o0 w base v l):∃a cap,v=.slice a l.length cap/\l.length<=cap/\cap<=9223372036854775807:=by
 rcases h.2 with⟨rfl,h0⟩|⟨g,cap,cur,rfl,_,_,h1,h2,_⟩
 ·exact⟨none,0,by rw[h0],by omega,by omega⟩
 ·exact⟨_,cap,rfl,h1,by simpa[maxLen]using h2⟩
theorem o0.var(h:o0 w base v l):∃a n cap,v=.slice a n cap/\b7 (l.length=n):=by
 obtain⟨a,cap,e,_⟩:=h.form;exact⟨a,_,cap,e,rfl⟩
theorem o0.zj{a:j6}{cap:Nat}(h:o0 w base (.slice a n cap) l):Rats w a n cap l:=by
 rcases h.2 with⟨he,h0⟩|⟨g,cap',cur,he,_,hg,h1,h2,hs,ht⟩
 ·simp only[C']at he;obtain⟨rfl,rfl,rfl⟩:=he;exact⟨h0,ao _,by omega,fun k hk=>absurd hk e7⟩
 ·simp only[C']at he;obtain⟨rfl,rfl,rfl⟩:=he;refine⟨rfl,h1,by simpa[maxLen]using h2,fun k hk=>⟨g,0,rfl,fun k hk=>?_⟩⟩;rw[Mf,tn w g _ cur _ (0,0) hg,tn w g _ cur _ (0,0) hg];obtain⟨q1,q2⟩:=pD l k hk;change(Cm l)[k*2]?=_ at q1;change(Cm l)[k*2+1]?=_ at q2;rw[<-ht,aao,hI e7]at q1 q2;exact⟨by simpa using q1,by simpa using q2⟩
theorem o0.lt(h:o0 w base v l):∀k,v.ownBlock=some k->base<=k/\k<w.heap.size:=abQ h
theorem o0.keep{w':World}(h:o0 w base v l)(hk:∀k,v.ownBlock=some k->w'.heap[k]?=w.heap[k]?):o0 w' base v l:=by
 refine⟨h.1,?_⟩
 rcases h.2 with hn|⟨g,cap,cur,rfl,hb,G,rest⟩
 ·exact .inl hn
 ·exact .inr ⟨g,cap,cur,rfl,hb,(hk g rfl).trans G,rest⟩
theorem o0.ext{w':World}(h:o0 w base v l)(hx:Ext w w'):o0 w' base v l:=h.keep fun k hk=>hx.block k (h.lt k hk).2
theorem o0.on(h:o0 w base v l):On base w (fun W=>o0 W base v l):=fun w2 h2=>h.keep fun k hk=>h2 k (h.lt k hk).1 (h.lt k hk).2
theorem o0.mono{base':Nat}(h:o0 w base v l)(hb:base'<=base):o0 w base' v l:=by
 refine⟨h.1,?_⟩
 rcases h.2 with hn|⟨g,cap,cur,rfl,Bg,rest⟩
 ·exact .inl hn
 ·exact .inr ⟨g,cap,cur,rfl,by omega,rest⟩
theorem o0.nil(w:World)(base:Nat):o0 w base (.slice none 0 0) []:=aaC w base _ 2
section
variable{P:Program}{w:World}{ops:Array Oper}{rest:List Oper}{o:Oper}{a:Act}{Q:Exit->Act->World->Prop}
theorem dr{K:Act->World->Prop}(s x:Operand)(ho:o.op=.call { callee:=.builtin .append,args:=#[s,x],argTypes:=#[35,35] })
 (base:Nat) (v:Value) (l:j4) (hs:a.eval s=v) (U:o0 w base v l) (O:j6) (m c:Nat) (G:j4) (hx:a.eval x=.slice O m c) (C7:Rats w O m c G) (hb:l.length+m<=1099511627776) (I:base<=w.heap.size)
 (h:∀J w',o0 w' base J (l++G)->w.grownBy w' v.ownBlock->Cx w v J->K (a.put o.dst J) w'):o.wp Tryz.prog a w K Q:=by
 obtain⟨i,hi,AU,Z,El⟩:=adf Tryz.Rd;cases O with
 | none =>
   have hm:m=0:=by
    rcases acW m with h0|h0
    ·exact h0
    ·obtain⟨b,off,e,_⟩:=C7.cell 0 h0;cases e
   subst hm;have hl:G=[]:=Lj C7.hlen;subst hl;refine fN w s x 35 ho base 62 i 2 ade hi v l.length _ hs U c hx ?_;exact h v w (by simpa using U) (ac4 _ _) (Cx.refl _ _)
 | some ad =>
   refine eP w s x 35 ho base 62 i (.agg #[.int .i64 0,.int .i64 0]) 2 16 ade hi AU Z El rfl (by decide) v l.length (Cm l) hs U ad m c (Cm G) hx (by have:=mV G;have:=C7.hlen;unfold Cm;omega) ?_ (tm G) (by simp[maxLen];omega) e7 I ?_
   ·intro j u hu;have Ca:j<G.length*2:=by
     have:=(RI.1 hu).1;have h2:=mV G;unfold Cm at this;omega
    have hml:=C7.hlen;obtain⟨b,off,e,hc⟩:=C7.cell (j/2) e7;simp only[bA]at e;subst e;obtain⟨c1,c2⟩:=hc (j/2) e7;obtain⟨q1,q2⟩:=pD G (j/2) e7;change(Cm G)[j/2*2]?=_ at q1;change(Cm G)[j/2*2+1]?=_ at q2;have hj:j=j/2*2∨j=j/2*2+1:=by omega
    have ha:∀k,(⟨b,off,none⟩:Addr).add k=⟨b,off+k,none⟩:=fun k=>by unfold Addr.add;split<;>simp_all
    rw[ha]
    rcases hj with hj|hj
    ·rw[hj]at hu⊢;rw[q1]at hu;rw[c1,<-hu]
    ·rw[hj]at hu⊢;rw[q2]at hu;rw[<-Nat.add_assoc,c2,<-hu]
   ·intro J w' h1 h2 h3;refine h J w' ?_ h2 h3;unfold o0;rw[pk,C7.hlen,uJ];exact h1
theorem aM(O:o.guard=none)(s x:Operand)(ho:o.op=.call { callee:=.builtin .append,args:=#[s,x],argTypes:=#[35,35] })
 (base:Nat) (v:Value) (l:j4) (hs:a.eval s=v) (U:o0 w base v l) (K:j6) (m c:Nat) (J:j4) (hx:a.eval x=.slice K m c) (C7:Rats w K m c J) (hb:l.length+m<=1099511627776) (G:base<=w.heap.size)
 (h:∀I w',o0 w' base I (l++J)->w.grownBy w' v.ownBlock->Cx w v I->wpList Tryz.prog ops Q rest (a.put o.dst I) w'):wpList Tryz.prog ops Q (o::rest) a w :=
 adm O fun _ hK=>dr s x ho base v l hs U K m c J hx C7 hb G fun I w' h1 h2 h3=>hK _ _ (h I w' h1 h2 h3)
end
theorem o0.made(w:World)(base:Nat)(hb:base<=w.heap.size):o0 (w.alloc (.cells #[] 62)) base (.slice (some ⟨w.heap.size,0,none⟩) 0 0) [] :=
 aaY w #[] 0 hb e7 rfl
theorem Rats.one(w:World)(x y:Int)(t:TypeId):Rats (w.alloc (.cells #[.int .i64 x,.int .i64 y] t)) (some ⟨w.heap.size,0,none⟩) 1 1 [(x,y)] :=
 ⟨rfl,ao _,by omega,fun k hk=>⟨_,0,rfl,fun k hk=>by
  obtain rfl:k=0:=by omega
  simp⟩⟩
theorem Rats.one'(w:World)(x y:Int)(t:TypeId)(n:Nat)(hn:n=w.heap.size):Rats (w.alloc (.cells #[.int .i64 x,.int .i64 y] t)) (some ⟨n,0,none⟩) 1 1 [(x,y)]:=by
 subst hn;exact Rats.one w x y t
theorem o0.set{g cap:Nat}(h:o0 w base (.slice (some ⟨g,0,none⟩) n cap) l){k:Nat}(hk:k<l.length)(x y:Int):
 o0 ((w.setCell ⟨g,k*2,none⟩ (.int .i64 x)).setCell ⟨g,k*2+1,none⟩ (.int .i64 y)) base (.slice (some ⟨g,0,none⟩) n cap) (l.set k (x,y)):=by
 obtain⟨a',c',he,_⟩:=o0.form h;simp only[C']at he;obtain⟨_,rfl,_⟩:=he;have h1:=(aaH h (k*2) (.int .i64 x)).1;have h2:=(aaH h1 (k*2+1) (.int .i64 y)).1;unfold o0;rw[H4];have e:=rW l k x y hk;change _=Cm (l.set k (x,y))at e;rw[<-e];exact h2
theorem o0.block{a:j6}{cap:Nat}(h:o0 w base (.slice a n cap) l){k:Nat}(hk:k<n):∃g,a=some ⟨g,0,none⟩/\base<=g/\(∀j,w.frozen? ⟨g,j,none⟩=false)/\g<w.heap.size:=by
 rcases h.2 with⟨he,h0⟩|⟨g,cap',cur,he,hb,hg,_⟩
 ·simp only[C']at he;omega
 ·simp only[C']at he;obtain⟨rfl,_⟩:=he;exact⟨g,rfl,hb,fun j=>sd w g j cur _ hg,mr hg⟩
def gI(a b:Int):Int:=(Int.gcd a b:Int)
theorem uX(a b:Int):gI b (a.tmod b)=gI a b:=by
 unfold gI Int.gcd;rw[acu,Nat.gcd_comm b.natAbs,<-Nat.gcd_rec,Nat.gcd_comm]
theorem pF(a:Int):gI a 0=(a.natAbs:Int):=by simp[gI]
theorem iK(a b:Int):gI (-a) b=gI a b:=by simp[gI,Int.gcd]
theorem lP(a b:Int):gI a (-b)=gI a b:=by simp[gI,Int.gcd]
theorem kX(a:Int){b:Int}(h:b≠0):1<=gI a b:=by
 unfold gI;have:0<Int.gcd a b:=Int.gcd_pos_of_ne_zero_right a h;omega
theorem qr(a b:Int):0<=gI a b:=by unfold gI;omega
theorem La(a:Int){b:Int}(h:b≠0):gI a b<=b.natAbs:=by
 unfold gI Int.gcd
 exact_mod_cast Nat.gcd_le_right _ e7
theorem pE(a b:Int):gI a b∣a:=Int.gcd_dvd_left ..
theorem lO(a b:Int):gI a b∣b:=Int.gcd_dvd_right ..
def o9(p:j8):Bool:=r9 p.2 1 1000000000&&(r9 p.1 (-1000000000) 1000000000&&decide (gI p.1 p.2=1))
theorem aQ{p:j8}(h:o9 p=true):1<=p.2/\p.2<=1000000000/\-1000000000<=p.1/\p.1<=1000000000:=by
 simp only[o9,r9,xf,sw]at h;omega
theorem jq(x y:Int):o9 (-x,y)=o9 (x,y):=by
 have h1:r9 (-x) (-1000000000) 1000000000=r9 x (-1000000000) 1000000000:=by
  unfold r9;have e1:decide (-1000000000<=-x)=decide (x<=1000000000):=by by_cases h:x<=1000000000<;>simp[h]<;>omega
  have e2:decide (-x<=1000000000)=decide (-1000000000<=x):=by by_cases h:-1000000000<=x<;>simp[h]<;>omega
  rw[e1,e2,ad3]
 simp only[o9,iK,h1]
def Bf(p:j8):(Int×Int)×Bool:=if o9 p=true then(p,true) else((0,0),false)
def aI(n d:Int):(Int×Int)×Bool :=
 if d=0∨r9 n (-1000000000000000000) 1000000000000000000=false∨r9 d (-1000000000000000000) 1000000000000000000=false then((0,0),false)
 else if d<0 then Bf (n.tdiv (-gI n d),d.tdiv (-gI n d)) else Bf (n.tdiv (gI n d),d.tdiv (gI n d))
theorem rP{p:j8}(h:(Bf p).2=true):o9 (Bf p).1=true:=by
 unfold Bf at h⊢
 split at h
 ·next h1=>rw[hI h1];exact h1
 ·simp at h
theorem jB{n:Int}(h:(aI n d).2=true):o9 (aI n d).1=true:=by
 unfold aI at h⊢
 split at h
 ·simp at h
 ·next h1 =>
  rw[hD h1]
  split at h
  ·next h2=>rw[hI h2];exact rP h
  ·next h2=>rw[hD h2];exact rP h
theorem Nl{n:Int}(h:(aI n d).2=false):(aI n d).1=(0,0):=by
 unfold aI Bf at h⊢
 split at h
 ·next h1=>rw[hI h1]
 ·next h1 =>
  rw[hD h1]
  split at h
  ·next h2 =>
   rw[hI h2]
   split at h
   ·simp at h
   ·next h3=>rw[hD h3]
  ·next h2 =>
   rw[hD h2]
   split at h
   ·simp at h
   ·next h3=>rw[hD h3]
theorem kW(n d:Int)(hd:0<d):gI (n.tdiv (gI n d)) (d.tdiv (gI n d))=1:=by
 have hg:=kX n (show d≠0 by omega);obtain⟨k,hk⟩:=pE n d;obtain⟨m,hm⟩:=lO n d;have h1:n.tdiv (gI n d)=k:=by
    conv=>lhs;arg 1;rw[hk]
    exact aaV _ e7
 have h2:d.tdiv (gI n d)=m:=by
    conv=>lhs;arg 1;rw[hm]
    exact aaV _ e7
 rw[h1,h2];have h3:gI (gI n d*k) (gI n d*m)=gI n d:=by rw[<-hk,<-hm]
 have h4:gI (gI n d*k) (gI n d*m)=gI n d*gI k m:=by
  show((Int.gcd _ _:Nat):Int)=_;rw[Int.gcd_mul_left];have:((gI n d).natAbs:Int)=gI n d:=by omega
  rw[acv,this]
  rfl
 rw[h3]at h4;have h5:gI n d*1=gI n d*gI k m:=by omega
 have:=Int.eq_of_mul_eq_mul_left e7 h5;omega
theorem nW(n g:Int)(hg:1<=g):(n.tdiv g).natAbs<=n.natAbs:=by
 rw[adC];exact adD _ _
theorem Nk{n:Int}(hd:1<=d)(hd':d<=1000000000)(h:-1000000000<=n)(h':n<=1000000000):(aI n d).2=true:=by
 have hg:=kX n (show d≠0 by omega);have I1:=La n (show d≠0 by omega);unfold aI;rw[hD (by simp[r9];omega),hD e7];unfold Bf;have h1:=nW n (gI n d) hg;have h2:=nW d (gI n d) hg;have h3:1<=d.tdiv (gI n d):=by
  obtain⟨m,hm⟩:=lO n d;have h2:d.tdiv (gI n d)=m:=by
     conv=>lhs;arg 1;rw[hm]
     exact aaV _ e7
  rw[h2]
  rcases adh 0 m with h|h
  ·omega
  ·have:gI n d*m<=0:=Int.mul_nonpos_of_nonneg_of_nonpos e7 h;omega
 rw[hI];simp only[o9,r9,kW n d e7,xf,sw,zz];omega
def Ab(a b:j8):(Int×Int)×Bool:=if(o9 a&&o9 b)=true then aI (a.1*b.2+b.1*a.2) (a.2*b.2) else((0,0),false)
def zI(a b:j8):(Int×Int)×Bool:=if(o9 a&&o9 b)=true then aI (a.1*b.2-b.1*a.2) (a.2*b.2) else((0,0),false)
def mulR(a b:j8):(Int×Int)×Bool:=if(o9 a&&o9 b)=true then aI (a.1*b.1) (a.2*b.2) else((0,0),false)
def AW(a b:j8):(Int×Int)×Bool:=if(o9 a&&o9 b)=true then aI (a.1*b.2) (a.2*b.1) else((0,0),false)
def zV(a b:j8):Int:=if(o9 a&&o9 b)=true then(if a.1*b.2<b.1*a.2 then -1 else if b.1*a.2<a.1*b.2 then 1 else 0) else 0
theorem tY(a b:j8):Ab a (-b.1,b.2)=zI a b:=by
 unfold Ab zI;rw[jq,Int.neg_mul,<-Int.sub_eq_add_neg]
theorem NC(h1:-1000000000<=x)(h2:x<=1000000000)(h3:-1000000000<=y)(h4:y<=1000000000):-1000000000000000000<=x*y/\x*y<=1000000000000000000:=by
 have hx:x.natAbs<=1000000000:=by omega
 have hy:y.natAbs<=1000000000:=by omega
 have h:(x*y).natAbs<=1000000000*1000000000:=by
  rw[aaO];exact Y4 hx hy
 omega
set_option maxRecDepth 100000
def zB(a:Int):Prop:=-1000000000000000000<=a/\a<=1000000000000000000
theorem vH(p:Int){q:Int}(h:q≠0):(p.tmod q).natAbs<q.natAbs:=by
 rw[acu];exact Nat.mod_lt _ e7
theorem vG(p:Int){q:Int}(h:q≠0)(hq:zB q):zB (p.tmod q):=by
 have:=vH p h;unfold zB at *
 revert this
 generalize p.tmod q=r;intro this;omega
theorem ki(a b:Int)(w:World)(ha:zB a)(hb:zB b):
 Calls Tryz.prog 136 #[.int .i64 a,.int .i64 b] w fun e w'=>e=.returned (.int .i64 (gI a b))/\Bj w w':=by
 go_enter Tryz.func136,Tryz.ntmps136
 go_wp2
 go_loopw [0,1] (fun x y wr=>∃p q:Int,x=.int .i64 p/\y=.int .i64 q/\b7 (gI p q=gI a b)/\b7 (zB p)/\b7 (zB q)/\Bj w wr) (fun _ y _=>(intOf y).natAbs)
 case atStart=>exact⟨a,b,rfl,rfl,ae rfl,ae ha,ae hb,Bj.refl _⟩
 case round =>
  obtain⟨p,q,rfl,rfl,HG,HP,HQ,hx⟩:=hrel;obtain⟨G9,Ux⟩:=HP.o;obtain⟨C4,Dt⟩:=HQ.o;by_cases hq:q=0
  ·subst hq
   go_wp2
   all_goals
    go_ret;refine⟨ap ?_,hx⟩;have:=HG.o;rw[pF]at this;omega
  ·have hqb:(q != 0)=true:=by simpa using hq
   have hqb':(q == 0)=false:=by simpa using hq
   have ht:=vH p hq;have HT:=ae ht;have G:=ae hq
   go_wp2
   go_quiet (fail)
   go_wp2
   go_roundw
   case rel=>exact⟨q,p.tmod q,rfl,by go_num,ae (by rw[uX];exact HG.o),HQ,ae (vG p G.o HQ.o),hx.trans ⟨_,rfl⟩⟩
   case measure=>have h:=HT.o;rw[acu]at h;simp[intOf,acu];omega
theorem pX(a b:Int)(w:World)(ha:zB a)(hb:zB b):
 Calls Tryz.prog 102 #[.int .i64 a,.int .i64 b] w fun e w'=>e=.returned (.int .i64 (gI a b))/\Bj w w':=by
 have ha':=ha;have I:=hb;obtain⟨Mq,Mp⟩:=ha';obtain⟨AS,AD⟩:=I;by_cases h1:a<0
 all_goals
  by_cases h2:b<0
  all_goals
   go_enter Tryz.func102,Tryz.ntmps102
   go_wp2
   go_loop [0,1,5] (fun x y z=>∃p q:Int,x=.int .i64 p/\y=.int .i64 q/\0<=p/\0<=q/\b7 (gI p q=gI a b)/\b7 (zB p)/\b7 (zB q)) (fun _ y _=>(intOf y).natAbs)
   case atStart =>
    first
     | exact⟨_,_,rfl,rfl,by omega,by omega,ae rfl,ae ha,ae hb⟩
     | exact⟨-a,_,by go_num,rfl,by omega,by omega,ae (iK _ _),ae ⟨by omega,by omega⟩,ae hb⟩
     | exact⟨_,-b,rfl,by go_num,by omega,by omega,ae (lP _ _),ae ha,ae ⟨by omega,by omega⟩⟩
     | exact⟨-a,-b,by go_num,by go_num,by omega,by omega,ae ((iK _ _).trans (lP _ _)),ae ⟨by omega,by omega⟩,ae ⟨by omega,by omega⟩⟩
   case round =>
    obtain⟨p,q,rfl,rfl,F7,hq0,HG,HP,HQ⟩:=hrel;by_cases hq:q=0
    ·subst hq
     go_wp2
     go_ret;refine⟨ap ?_,Bj.refl _⟩;have:=HG.o;rw[pF]at this;omega
    ·have hqb':(q == 0)=false:=by simpa using hq
     have CQ:0<q:=by omega
     have HT:=ae (acX p CQ);have J4:=ae (adE p hq);have G:=ae hq;have HM:=ae (abe (b:=q) F7)
     go_wp2
     go_round
     case rel=>exact⟨q,p % q,rfl,by go_num,by omega,J4.o,ae (by rw[<-HM.o,uX];exact HG.o),HQ,ae (by rw[<-HM.o];exact vG p G.o HQ.o)⟩
     case measure=>have:=HT.o;have:=J4.o;simp[intOf];omega
abbrev Aj(x y:Int):Value:=.agg #[.int .i64 x,.int .i64 y]
abbrev ER(r:(Int×Int)×Bool):Value:=.tuple #[.agg #[.int .i64 r.1.1,.int .i64 r.1.2],.bool r.2]
theorem gS{a:Int}(h:zB a):zB (-a):=by unfold zB at *;omega
theorem oS(n:Int){g:Int}(hg:1<=g)(hn:zB n):zB (n.tdiv g):=by
 have:=nW n g hg;unfold zB at *
 revert this
 generalize n.tdiv g=r;intro this;omega
theorem bH{a:Int}(h:zB a):IntKind.i64.wrap a=a/\wrap64 a=a:=by
 unfold zB at h;have:wrap64 a=a:=by unfold wrap64;omega
 exact⟨by rw[cn];omega,this⟩
theorem av(x y:Int)(w:World):
 Calls Tryz.prog 131 #[Aj x y] w fun e w'=>e=.returned (.bool (o9 (x,y)))/\Ext w w':=by
 have HX:=ae (Ext.alloc w (.cells #[.int .i64 x,.int .i64 y] 62));cases h1:r9 y 1 1000000000
 ·have H1:=ae h1;clear h1;go_enter aeo,ad4
  go_wp2_with fail;refine(aq _ _ _ _).mono ?_;rw[H1.o];rintro e w1 ⟨rfl,rfl⟩
  go_wp2
  go_ret;exact⟨ag (by simp[o9,H1.o]),HX.o⟩
 ·have H1:=ae h1;have hy:zB y:=by simp only[r9,xf,sw]at h1;exact⟨by omega,by omega⟩
  clear h1;cases h2:r9 x (-1000000000) 1000000000
  ·have H2:=ae h2;clear h2;go_enter aeo,ad4
   go_wp2_with fail;refine(aq _ _ _ _).mono ?_;rw[H1.o];rintro e w1 ⟨rfl,rfl⟩;go_wp2_with fail;refine(aq _ _ _ _).mono ?_;rw[H2.o];rintro e w1 ⟨rfl,rfl⟩
   go_wp2
   go_ret;exact⟨ag (by simp[o9,H2.o]),HX.o⟩
  ·have H2:=ae h2;have hx:zB x:=by simp only[r9,xf,sw]at h2;exact⟨by omega,by omega⟩
   clear h2;have HC:=ae (ki x y (w.alloc (.cells #[.int .i64 x,.int .i64 y] 62)) hx hy);go_enter aeo,ad4
   go_wp2_with fail;refine(aq _ _ _ _).mono ?_;rw[H1.o];rintro e w1 ⟨rfl,rfl⟩;go_wp2_with fail;refine(aq _ _ _ _).mono ?_;rw[H2.o];rintro e w1 ⟨rfl,rfl⟩;go_wp2_with fail;refine HC.o.mono ?_;rintro e w1 ⟨rfl,hd⟩
   go_wp2
   go_ret;exact⟨ag (by simp only[o9,H1.o,H2.o];by_cases h:gI x y=1<;>simp[h]),HX.o.trans hd.ext⟩
theorem aH(x y:Int)(w:World):
 Calls Tryz.prog 103 #[Aj x y] w fun e w'=>e=.returned (.bool (o9 (x,y)))/\Ext w w':=by
 have HX:=ae (Ext.alloc w (.cells #[.int .i64 x,.int .i64 y] 62));cases h1:r9 y 1 1000000000
 ·have H1:=ae h1;clear h1;go_enter aep,ad5
  go_wp2_with fail;refine(aZ _ _ _ _).mono ?_;rw[H1.o];rintro e w1 ⟨rfl,rfl⟩
  go_wp2
  go_ret;exact⟨ag (by simp[o9,H1.o]),HX.o⟩
 ·have H1:=ae h1;have hy:zB y:=by simp only[r9,xf,sw]at h1;exact⟨by omega,by omega⟩
  clear h1;cases h2:r9 x (-1000000000) 1000000000
  ·have H2:=ae h2;clear h2;go_enter aep,ad5
   go_wp2_with fail;refine(aZ _ _ _ _).mono ?_;rw[H1.o];rintro e w1 ⟨rfl,rfl⟩;go_wp2_with fail;refine(aZ _ _ _ _).mono ?_;rw[H2.o];rintro e w1 ⟨rfl,rfl⟩
   go_wp2
   go_ret;exact⟨ag (by simp[o9,H2.o]),HX.o⟩
  ·have H2:=ae h2;have hx:zB x:=by simp only[r9,xf,sw]at h2;exact⟨by omega,by omega⟩
   clear h2;have HC:=ae (pX x y (w.alloc (.cells #[.int .i64 x,.int .i64 y] 62)) hx hy);go_enter aep,ad5
   go_wp2_with fail;refine(aZ _ _ _ _).mono ?_;rw[H1.o];rintro e w1 ⟨rfl,rfl⟩;go_wp2_with fail;refine(aZ _ _ _ _).mono ?_;rw[H2.o];rintro e w1 ⟨rfl,rfl⟩;go_wp2_with fail;refine HC.o.mono ?_;rintro e w1 ⟨rfl,hd⟩
   go_wp2
   go_ret;exact⟨ag (by simp only[o9,H1.o,H2.o];by_cases h:gI x y=1<;>simp[h]),HX.o.trans hd.ext⟩
theorem jN(n d:Int)(w:World):
 Calls Tryz.prog 123 #[.int .i64 n,.int .i64 d] w fun e w'=>e=.returned (ER (aI n d))/\Ext w w':=by
 have HX:=ae (Ext.alloc w (.cells #[.int .i64 0,.int .i64 0] 62));by_cases h0:d=0
 ·have HR:=ae (show aI n d=((0,0),false)by unfold aI;rw[hI (.inl h0)]);subst h0;go_enter acB,acm
  go_wp2
  rw[HR.o];refine bR (v:=.tuple #[.agg #[.int .i64 0,.int .i64 0],.bool false]) (by simp[results,abc,go_sem]) rfl ⟨rfl,HX.o⟩
 have h0b:(d == 0)=false:=by simpa using h0
 cases h1:r9 n (-1000000000000000000) 1000000000000000000
 ·have H1:=ae h1;clear h1;have HR:=ae (show aI n d=((0,0),false)by unfold aI;rw[hI (.inr (.inl H1.o))]);go_enter acB,acm
  go_wp2_with fail;refine(aq _ _ _ _).mono ?_;rw[H1.o];rintro e w1 ⟨rfl,rfl⟩
  go_wp2
  rw[HR.o];refine bR (v:=.tuple #[.agg #[.int .i64 0,.int .i64 0],.bool false]) (by simp[results,abc,go_sem]) rfl ⟨rfl,HX.o⟩
 have H1:=ae h1;have hn:zB n:=by simp only[r9,xf,sw]at h1;exact⟨by omega,by omega⟩
 clear h1;cases h2:r9 d (-1000000000000000000) 1000000000000000000
 ·have H2:=ae h2;clear h2;have HR:=ae (show aI n d=((0,0),false)by unfold aI;rw[hI (.inr (.inr H2.o))]);go_enter acB,acm
  go_wp2_with fail;refine(aq _ _ _ _).mono ?_;rw[H1.o];rintro e w1 ⟨rfl,rfl⟩;go_wp2_with fail;refine(aq _ _ _ _).mono ?_;rw[H2.o];rintro e w1 ⟨rfl,rfl⟩
  go_wp2
  rw[HR.o];refine bR (v:=.tuple #[.agg #[.int .i64 0,.int .i64 0],.bool false]) (by simp[results,abc,go_sem]) rfl ⟨rfl,HX.o⟩
 have H2:=ae h2;have hd:zB d:=by simp only[r9,xf,sw]at h2;exact⟨by omega,by omega⟩
 clear h2;have DY:=kX n h0;have J:=La n h0;have hq:=oS n DY hn;have I:=oS d DY hd;by_cases h3:d<0
 ·have HC:=ae (ki n d (w.alloc (.cells #[.int .i64 0,.int .i64 0] 62)) hn hd);obtain⟨g,hg⟩:=b9 (gI n d);rw[<-hg]at DY J HC hq I;have HG:=ae hg;have U:g<=1000000000000000000:=by obtain⟨_,_⟩:=hd;omega
  have Hz:¬g=0:=by omega
  have YW:(-g == 0)=false:=by simp;omega
  obtain⟨B1,O⟩:=hn;obtain⟨Ir,K⟩:=hd;obtain⟨q1,C4⟩:=b9 (-(n.tdiv g));obtain⟨q2,Dt⟩:=b9 (-(d.tdiv g));have HR:=ae (show aI n d=Bf (q1,q2)by unfold aI;rw[hD (by simp[h0,H1.o,H2.o]),hI h3,<-HG.o,aaW,aaW,C4,Dt]);obtain⟨e1,e2⟩:=bH (gS hq);obtain⟨e3,e4⟩:=bH (gS I);rw[<-C4]at e1 e2;rw[<-Dt]at e3 e4;have m1:(-n).tdiv g=q1:=by rw[aa6,C4]
  have m2:(-d).tdiv g=q2:=by rw[aa6,Dt]
  have m3:n.tdiv (-g)=q1:=by rw[aaW,C4]
  have m4:d.tdiv (-g)=q2:=by rw[aaW,Dt]
  have Rv:=C4.symm;have Oh:=Dt.symm;clear hq I hg J C4 Dt;cases hv:o9 (q1,q2)
  all_goals
   go_enter acB,acm
   go_wp2_with fail;refine(aq _ _ _ _).mono ?_;rw[H1.o];rintro e w1 ⟨rfl,rfl⟩;go_wp2_with fail;refine(aq _ _ _ _).mono ?_;rw[H2.o];rintro e w1 ⟨rfl,rfl⟩;go_wp2_with fail;refine HC.o.mono ?_;rintro e w1 ⟨rfl,hd⟩;have G:w1.heap[w.heap.size]?=some (.cells #[.int .i64 0,.int .i64 0] 62 (0,0)):=(hd.ext.block _ e8).trans (L' _ _);have HB:=ae G;have LT:=ae (mr G);have X1:=ae (HX.o.trans hd.ext);clear hd G
   go_wp2
   go_region_law (fail)
   have X2:=ae ((X1.o.trans (Ext.alloc w1 (.cells #[.int .i64 q1,.int .i64 q2] 62))).trans (Ext.drew _));have HV:=ae (av q1 q2 ((w1.alloc (.cells #[.int .i64 q1,.int .i64 q2] 62)).drew));go_wp2_with fail;refine HV.o.mono ?_;rw[hv];rintro e w2 ⟨rfl,hx⟩;have lt:=LT.o;have G:w2.heap[w.heap.size]?=some (.cells #[.int .i64 0,.int .i64 0] 62 (0,0)):=(hx.block _ (by simp;omega)).trans ((aO w1 (.cells #[.int .i64 q1,.int .i64 q2] 62) _ lt).trans HB.o);have hC:w2.heap[w1.heap.size]?=some (.cells #[.int .i64 q1,.int .i64 q2] 62 (0,0)):=(hx.block _ e8).trans (L' w1 (.cells #[.int .i64 q1,.int .i64 q2] 62));have b0:w2.cell? ⟨w.heap.size,0,none⟩=some (.int .i64 0):=by rw[tn _ _ _ _ _ _ G];rfl
   have b1:w2.cell? ⟨w.heap.size,1,none⟩=some (.int .i64 0):=by rw[tn _ _ _ _ _ _ G];rfl
   have c0:w2.cell? ⟨w1.heap.size,0,none⟩=some (.int .i64 q1):=by rw[tn _ _ _ _ _ _ hC];rfl
   have c1:w2.cell? ⟨w1.heap.size,1,none⟩=some (.int .i64 q2):=by rw[tn _ _ _ _ _ _ hC];rfl
   have fb:∀o,w2.frozen? ⟨w.heap.size,o,none⟩=false:=fun o=>sd _ _ _ _ _ G
   have X3:=ae (X2.o.trans hx);clear hx G hC lt
   go_wp2
   rw[HR.o]
  ·refine bR (v:=.tuple #[.agg #[.int .i64 0,.int .i64 0],.bool false]) (by simp[results,abc,go_sem,b0,b1]) rfl ⟨by simp[Bf,hv],?_⟩;exact(X3.o.setCell e8 _).setCell e8 _
  ·refine bR (v:=.tuple #[.agg #[.int .i64 q1,.int .i64 q2],.bool true]) (by simp[results,abc,go_sem,b0,b1]) rfl ⟨by simp[Bf,hv],?_⟩;exact(X3.o.setCell e8 _).setCell e8 _
 ·have HC:=ae (ki n d (w.alloc (.cells #[.int .i64 0,.int .i64 0] 62)) hn hd);obtain⟨g,hg⟩:=b9 (gI n d);rw[<-hg]at DY J HC hq I;have HG:=ae hg;have U:g<=1000000000000000000:=by obtain⟨_,_⟩:=hd;omega
  have Hz:¬g=0:=by omega
  obtain⟨B1,O⟩:=hn;obtain⟨Ir,K⟩:=hd;obtain⟨q1,C4⟩:=b9 (n.tdiv g);obtain⟨q2,Dt⟩:=b9 (d.tdiv g);have HR:=ae (show aI n d=Bf (q1,q2)by unfold aI;rw[hD (by simp[h0,H1.o,H2.o]),hD h3,<-HG.o,C4,Dt]);have hm:d.tdiv g=d/g:=aaM e7;obtain⟨e1,e2⟩:=bH hq;obtain⟨e3,e4⟩:=bH I;rw[<-C4]at e1 e2;rw[<-Dt]at e3 e4;have Rv:=C4.symm;have Oh:=Dt.symm;have hq3':d/g=q2:=by rw[<-hm,Dt]
  clear hq I hg J C4 Dt hm;cases hv:o9 (q1,q2)
  all_goals
   go_enter acB,acm
   go_wp2_with fail;refine(aq _ _ _ _).mono ?_;rw[H1.o];rintro e w1 ⟨rfl,rfl⟩;go_wp2_with fail;refine(aq _ _ _ _).mono ?_;rw[H2.o];rintro e w1 ⟨rfl,rfl⟩;go_wp2_with fail;refine HC.o.mono ?_;rintro e w1 ⟨rfl,hd⟩;have G:w1.heap[w.heap.size]?=some (.cells #[.int .i64 0,.int .i64 0] 62 (0,0)):=(hd.ext.block _ e8).trans (L' _ _);have HB:=ae G;have LT:=ae (mr G);have X1:=ae (HX.o.trans hd.ext);clear hd G
   go_wp2
   go_region_law (fail)
   have X2:=ae ((X1.o.trans (Ext.alloc w1 (.cells #[.int .i64 q1,.int .i64 q2] 62))).trans (Ext.drew _));have HV:=ae (av q1 q2 ((w1.alloc (.cells #[.int .i64 q1,.int .i64 q2] 62)).drew));go_wp2_with fail;refine HV.o.mono ?_;rw[hv];rintro e w2 ⟨rfl,hx⟩;have lt:=LT.o;have G:w2.heap[w.heap.size]?=some (.cells #[.int .i64 0,.int .i64 0] 62 (0,0)):=(hx.block _ (by simp;omega)).trans ((aO w1 (.cells #[.int .i64 q1,.int .i64 q2] 62) _ lt).trans HB.o);have hC:w2.heap[w1.heap.size]?=some (.cells #[.int .i64 q1,.int .i64 q2] 62 (0,0)):=(hx.block _ e8).trans (L' w1 (.cells #[.int .i64 q1,.int .i64 q2] 62));have b0:w2.cell? ⟨w.heap.size,0,none⟩=some (.int .i64 0):=by rw[tn _ _ _ _ _ _ G];rfl
   have b1:w2.cell? ⟨w.heap.size,1,none⟩=some (.int .i64 0):=by rw[tn _ _ _ _ _ _ G];rfl
   have c0:w2.cell? ⟨w1.heap.size,0,none⟩=some (.int .i64 q1):=by rw[tn _ _ _ _ _ _ hC];rfl
   have c1:w2.cell? ⟨w1.heap.size,1,none⟩=some (.int .i64 q2):=by rw[tn _ _ _ _ _ _ hC];rfl
   have fb:∀o,w2.frozen? ⟨w.heap.size,o,none⟩=false:=fun o=>sd _ _ _ _ _ G
   have X3:=ae (X2.o.trans hx);clear hx G hC lt
   go_wp2
   rw[HR.o]
  ·refine bR (v:=.tuple #[.agg #[.int .i64 0,.int .i64 0],.bool false]) (by simp[results,abc,go_sem,b0,b1]) rfl ⟨by simp[Bf,hv],?_⟩;exact(X3.o.setCell e8 _).setCell e8 _
  ·refine bR (v:=.tuple #[.agg #[.int .i64 q1,.int .i64 q2],.bool true]) (by simp[results,abc,go_sem,b0,b1]) rfl ⟨by simp[Bf,hv],?_⟩;exact(X3.o.setCell e8 _).setCell e8 _
theorem lT(n d:Int)(w:World):
 Calls Tryz.prog 44 #[.int .i64 n,.int .i64 d] w fun e w'=>e=.returned (ER (aI n d))/\Ext w w':=by
 have HX:=ae (Ext.alloc w (.cells #[.int .i64 0,.int .i64 0] 62));by_cases h0:d=0
 ·have HR:=ae (show aI n d=((0,0),false)by unfold aI;rw[hI (.inl h0)]);subst h0;go_enter acT,acC
  go_wp2
  rw[HR.o];refine bR (v:=.tuple #[.agg #[.int .i64 0,.int .i64 0],.bool false]) (by simp[results,abm,go_sem]) rfl ⟨rfl,HX.o⟩
 have h0b:(d == 0)=false:=by simpa using h0
 cases h1:r9 n (-1000000000000000000) 1000000000000000000
 ·have H1:=ae h1;clear h1;have HR:=ae (show aI n d=((0,0),false)by unfold aI;rw[hI (.inr (.inl H1.o))]);go_enter acT,acC
  go_wp2_with fail;refine(aZ _ _ _ _).mono ?_;rw[H1.o];rintro e w1 ⟨rfl,rfl⟩
  go_wp2
  rw[HR.o];refine bR (v:=.tuple #[.agg #[.int .i64 0,.int .i64 0],.bool false]) (by simp[results,abm,go_sem]) rfl ⟨rfl,HX.o⟩
 have H1:=ae h1;have hn:zB n:=by simp only[r9,xf,sw]at h1;exact⟨by omega,by omega⟩
 clear h1;cases h2:r9 d (-1000000000000000000) 1000000000000000000
 ·have H2:=ae h2;clear h2;have HR:=ae (show aI n d=((0,0),false)by unfold aI;rw[hI (.inr (.inr H2.o))]);go_enter acT,acC
  go_wp2_with fail;refine(aZ _ _ _ _).mono ?_;rw[H1.o];rintro e w1 ⟨rfl,rfl⟩;go_wp2_with fail;refine(aZ _ _ _ _).mono ?_;rw[H2.o];rintro e w1 ⟨rfl,rfl⟩
  go_wp2
  rw[HR.o];refine bR (v:=.tuple #[.agg #[.int .i64 0,.int .i64 0],.bool false]) (by simp[results,abm,go_sem]) rfl ⟨rfl,HX.o⟩
 have H2:=ae h2;have hd:zB d:=by simp only[r9,xf,sw]at h2;exact⟨by omega,by omega⟩
 clear h2;have DY:=kX n h0;have J:=La n h0;have hq:=oS n DY hn;have I:=oS d DY hd;by_cases h3:d<0
 ·have HC:=ae (pX (-n) (-d) (w.alloc (.cells #[.int .i64 0,.int .i64 0] 62)) (gS hn) (gS hd));rw[iK,lP]at HC;obtain⟨g,hg⟩:=b9 (gI n d);rw[<-hg]at DY J HC hq I;have HG:=ae hg;have U:g<=1000000000000000000:=by obtain⟨_,_⟩:=hd;omega
  have Hz:¬g=0:=by omega
  have YW:(-g == 0)=false:=by simp;omega
  obtain⟨B1,O⟩:=hn;obtain⟨Ir,K⟩:=hd;obtain⟨q1,C4⟩:=b9 (-(n.tdiv g));obtain⟨q2,Dt⟩:=b9 (-(d.tdiv g));have HR:=ae (show aI n d=Bf (q1,q2)by unfold aI;rw[hD (by simp[h0,H1.o,H2.o]),hI h3,<-HG.o,aaW,aaW,C4,Dt]);obtain⟨e1,e2⟩:=bH (gS hq);obtain⟨e3,e4⟩:=bH (gS I);rw[<-C4]at e1 e2;rw[<-Dt]at e3 e4;have m1:(-n).tdiv g=q1:=by rw[aa6,C4]
  have m2:(-d).tdiv g=q2:=by rw[aa6,Dt]
  have m3:n.tdiv (-g)=q1:=by rw[aaW,C4]
  have m4:d.tdiv (-g)=q2:=by rw[aaW,Dt]
  have Rv:=C4.symm;have Oh:=Dt.symm;clear hq I hg J C4 Dt;cases hv:o9 (q1,q2)
  all_goals
   go_enter acT,acC
   go_wp2_with fail;refine(aZ _ _ _ _).mono ?_;rw[H1.o];rintro e w1 ⟨rfl,rfl⟩;go_wp2_with fail;refine(aZ _ _ _ _).mono ?_;rw[H2.o];rintro e w1 ⟨rfl,rfl⟩;go_wp2_with fail;refine HC.o.mono ?_;rintro e w1 ⟨rfl,hd⟩;have G:w1.heap[w.heap.size]?=some (.cells #[.int .i64 0,.int .i64 0] 62 (0,0)):=(hd.ext.block _ e8).trans (L' _ _);have HB:=ae G;have LT:=ae (mr G);have X1:=ae (HX.o.trans hd.ext);clear hd G
   go_wp2
   go_region_law (fail)
   have X2:=ae ((X1.o.trans (Ext.alloc w1 (.cells #[.int .i64 q1,.int .i64 q2] 62))).trans (Ext.drew _));have HV:=ae (aH q1 q2 ((w1.alloc (.cells #[.int .i64 q1,.int .i64 q2] 62)).drew));go_wp2_with fail;refine HV.o.mono ?_;rw[hv];rintro e w2 ⟨rfl,hx⟩;have lt:=LT.o;have G:w2.heap[w.heap.size]?=some (.cells #[.int .i64 0,.int .i64 0] 62 (0,0)):=(hx.block _ (by simp;omega)).trans ((aO w1 (.cells #[.int .i64 q1,.int .i64 q2] 62) _ lt).trans HB.o);have hC:w2.heap[w1.heap.size]?=some (.cells #[.int .i64 q1,.int .i64 q2] 62 (0,0)):=(hx.block _ e8).trans (L' w1 (.cells #[.int .i64 q1,.int .i64 q2] 62));have b0:w2.cell? ⟨w.heap.size,0,none⟩=some (.int .i64 0):=by rw[tn _ _ _ _ _ _ G];rfl
   have b1:w2.cell? ⟨w.heap.size,1,none⟩=some (.int .i64 0):=by rw[tn _ _ _ _ _ _ G];rfl
   have c0:w2.cell? ⟨w1.heap.size,0,none⟩=some (.int .i64 q1):=by rw[tn _ _ _ _ _ _ hC];rfl
   have c1:w2.cell? ⟨w1.heap.size,1,none⟩=some (.int .i64 q2):=by rw[tn _ _ _ _ _ _ hC];rfl
   have fb:∀o,w2.frozen? ⟨w.heap.size,o,none⟩=false:=fun o=>sd _ _ _ _ _ G
   have X3:=ae (X2.o.trans hx);clear hx G hC lt
   go_wp2
   rw[HR.o]
  ·refine bR (v:=.tuple #[.agg #[.int .i64 0,.int .i64 0],.bool false]) (by simp[results,abm,go_sem,b0,b1]) rfl ⟨by simp[Bf,hv],?_⟩;exact(X3.o.setCell e8 _).setCell e8 _
  ·refine bR (v:=.tuple #[.agg #[.int .i64 q1,.int .i64 q2],.bool true]) (by simp[results,abm,go_sem,b0,b1]) rfl ⟨by simp[Bf,hv],?_⟩;exact(X3.o.setCell e8 _).setCell e8 _
 ·have HC:=ae (pX n d (w.alloc (.cells #[.int .i64 0,.int .i64 0] 62)) hn hd);obtain⟨g,hg⟩:=b9 (gI n d);rw[<-hg]at DY J HC hq I;have HG:=ae hg;have U:g<=1000000000000000000:=by obtain⟨_,_⟩:=hd;omega
  have Hz:¬g=0:=by omega
  obtain⟨B1,O⟩:=hn;obtain⟨Ir,K⟩:=hd;obtain⟨q1,C4⟩:=b9 (n.tdiv g);obtain⟨q2,Dt⟩:=b9 (d.tdiv g);have HR:=ae (show aI n d=Bf (q1,q2)by unfold aI;rw[hD (by simp[h0,H1.o,H2.o]),hD h3,<-HG.o,C4,Dt]);have hm:d.tdiv g=d/g:=aaM e7;obtain⟨e1,e2⟩:=bH hq;obtain⟨e3,e4⟩:=bH I;rw[<-C4]at e1 e2;rw[<-Dt]at e3 e4;have Rv:=C4.symm;have Oh:=Dt.symm;have hq3':d/g=q2:=by rw[<-hm,Dt]
  clear hq I hg J C4 Dt hm;cases hv:o9 (q1,q2)
  all_goals
   go_enter acT,acC
   go_wp2_with fail;refine(aZ _ _ _ _).mono ?_;rw[H1.o];rintro e w1 ⟨rfl,rfl⟩;go_wp2_with fail;refine(aZ _ _ _ _).mono ?_;rw[H2.o];rintro e w1 ⟨rfl,rfl⟩;go_wp2_with fail;refine HC.o.mono ?_;rintro e w1 ⟨rfl,hd⟩;have G:w1.heap[w.heap.size]?=some (.cells #[.int .i64 0,.int .i64 0] 62 (0,0)):=(hd.ext.block _ e8).trans (L' _ _);have HB:=ae G;have LT:=ae (mr G);have X1:=ae (HX.o.trans hd.ext);clear hd G
   go_wp2
   go_region_law (fail)
   have X2:=ae ((X1.o.trans (Ext.alloc w1 (.cells #[.int .i64 q1,.int .i64 q2] 62))).trans (Ext.drew _));have HV:=ae (aH q1 q2 ((w1.alloc (.cells #[.int .i64 q1,.int .i64 q2] 62)).drew));go_wp2_with fail;refine HV.o.mono ?_;rw[hv];rintro e w2 ⟨rfl,hx⟩;have lt:=LT.o;have G:w2.heap[w.heap.size]?=some (.cells #[.int .i64 0,.int .i64 0] 62 (0,0)):=(hx.block _ (by simp;omega)).trans ((aO w1 (.cells #[.int .i64 q1,.int .i64 q2] 62) _ lt).trans HB.o);have hC:w2.heap[w1.heap.size]?=some (.cells #[.int .i64 q1,.int .i64 q2] 62 (0,0)):=(hx.block _ e8).trans (L' w1 (.cells #[.int .i64 q1,.int .i64 q2] 62));have b0:w2.cell? ⟨w.heap.size,0,none⟩=some (.int .i64 0):=by rw[tn _ _ _ _ _ _ G];rfl
   have b1:w2.cell? ⟨w.heap.size,1,none⟩=some (.int .i64 0):=by rw[tn _ _ _ _ _ _ G];rfl
   have c0:w2.cell? ⟨w1.heap.size,0,none⟩=some (.int .i64 q1):=by rw[tn _ _ _ _ _ _ hC];rfl
   have c1:w2.cell? ⟨w1.heap.size,1,none⟩=some (.int .i64 q2):=by rw[tn _ _ _ _ _ _ hC];rfl
   have fb:∀o,w2.frozen? ⟨w.heap.size,o,none⟩=false:=fun o=>sd _ _ _ _ _ G
   have X3:=ae (X2.o.trans hx);clear hx G hC lt
   go_wp2
   rw[HR.o]
  ·refine bR (v:=.tuple #[.agg #[.int .i64 0,.int .i64 0],.bool false]) (by simp[results,abm,go_sem,b0,b1]) rfl ⟨by simp[Bf,hv],?_⟩;exact(X3.o.setCell e8 _).setCell e8 _
  ·refine bR (v:=.tuple #[.agg #[.int .i64 q1,.int .i64 q2],.bool true]) (by simp[results,abm,go_sem,b0,b1]) rfl ⟨by simp[Bf,hv],?_⟩;exact(X3.o.setCell e8 _).setCell e8 _
theorem Ae{W:World}{a b c:Obj}(hx:Ext (((w.alloc a).alloc b).alloc c) W):W.heap[w.heap.size]?=some a/\W.heap[w.heap.size+1]?=some b/\W.heap[w.heap.size+1+1]?=some c :=
 ⟨(hx.block _ (by simp;omega)).trans (by rw[aO _ _ _ (by simp;omega),aO _ _ _ e8];exact ai _ _ _ rfl),
  (hx.block _ e8).trans (by rw[aO _ _ _ e8];exact ai _ _ _ e8),(hx.block _ e8).trans (ai _ _ _ e8)⟩
theorem Dd{W:World}{a b:Obj}(hx:Ext ((w.alloc a).alloc b) W):W.heap[w.heap.size]?=some a/\W.heap[w.heap.size+1]?=some b :=
 ⟨(hx.block _ (by simp;omega)).trans (by rw[aO _ _ _ e8];exact ai _ _ _ rfl),(hx.block _ e8).trans (ai _ _ _ e8)⟩
theorem aj{b:Nat}{t:TypeId}(h:w.heap[b]?=some (.cells #[.int .i64 x,.int .i64 y] t (0,0))):w.cell? ⟨b,0,none⟩=some (.int .i64 x)/\w.cell? ⟨b,1,none⟩=some (.int .i64 y)/\∀o,w.frozen? ⟨b,o,none⟩=false :=
 ⟨by rw[tn _ _ _ _ _ _ h];rfl,by rw[tn _ _ _ _ _ _ h];rfl,fun o=>sd _ _ _ _ _ h⟩
theorem dF(h:o9 (x,y)=true):-1000000000<=x/\x<=1000000000/\-1000000000<=y/\y<=1000000000:=by have:=aQ h;simp only at this;omega
theorem dQ(h:-1000000000<=x/\x<=1000000000)(h':-1000000000<=y/\y<=1000000000):zB (x*y):=NC h.1 h.2 h'.1 h'.2
theorem kh(x y u v:Int)(w:World):
 Calls Tryz.prog 76 #[Aj x y,Aj u v] w fun e w'=>e=.returned (ER (Ab (x,y) (u,v)))/\Ext w w':=by
 have HX:=ae (show Ext w (((w.alloc (.cells #[.int .i64 x,.int .i64 y] 62)).alloc (.cells #[.int .i64 u,.int .i64 v] 62)).alloc (.cells #[.int .i64 0,.int .i64 0] 62))from((Ext.alloc _ _).trans (Ext.alloc _ _)).trans (Ext.alloc _ _));cases ha:o9 (x,y)
 ·have HA:=ae ha;have HR:=ae (show Ab (x,y) (u,v)=((0,0),false)by simp[Ab,ha]);clear ha;go_enter aeP,aeq
  go_wp2_with fail;refine(av x y _).mono ?_;rw[HA.o];rintro e w1 ⟨rfl,hx⟩;obtain⟨J,I,G⟩:=Ae hx;obtain⟨a0,a1,U⟩:=aj J;obtain⟨b0,b1,fb⟩:=aj I;obtain⟨K,r1,O⟩:=aj G;have X1:=ae hx;clear hx J I G
  go_wp2
  rw[HR.o];refine bR (v:=.tuple #[.agg #[.int .i64 0,.int .i64 0],.bool false]) (by simp[results,adY,go_sem,K,r1]) rfl ⟨rfl,?_⟩;exact((HX.o.trans X1.o).setCell (by simp;omega) _).setCell (by simp;omega) _
 cases hb:o9 (u,v)
 ·have HA:=ae ha;have HB:=ae hb;have HR:=ae (show Ab (x,y) (u,v)=((0,0),false)by simp[Ab,hb]);clear ha hb;go_enter aeP,aeq
  go_wp2_with fail;refine(av x y _).mono ?_;rw[HA.o];rintro e w1 ⟨rfl,hx⟩;obtain⟨J,I,G⟩:=Ae hx;obtain⟨a0,a1,U⟩:=aj J;obtain⟨b0,b1,fb⟩:=aj I;obtain⟨K,r1,O⟩:=aj G;have X1:=ae hx;clear hx J I G;go_wp2_with fail;refine(av u v _).mono ?_;rw[HB.o];rintro e w2 ⟨rfl,hx⟩;clear a0 a1 U b0 b1 fb K r1 O;have X2:=ae (X1.o.trans hx);obtain⟨J,I,G⟩:=Ae X2.o;obtain⟨a0,a1,U⟩:=aj J;obtain⟨b0,b1,fb⟩:=aj I;obtain⟨K,r1,O⟩:=aj G;clear hx J I G
  go_wp2
  rw[HR.o];refine bR (v:=.tuple #[.agg #[.int .i64 0,.int .i64 0],.bool false]) (by simp[results,adY,go_sem,K,r1]) rfl ⟨rfl,?_⟩;exact((HX.o.trans X2.o).setCell (by simp;omega) _).setCell (by simp;omega) _
 have HA:=ae ha;have HB:=ae hb;obtain⟨x1,x2,y1,y2⟩:=dF ha;obtain⟨u1,u2,v1,v2⟩:=dF hb;have q1:zB (x*v):=dQ e7 e7;obtain⟨e1,g1⟩:=bH q1;have q2:zB (u*y):=dQ e7 e7;obtain⟨e2,g2⟩:=bH q2;have q3:zB (y*v):=dQ e7 e7;obtain⟨e3,g3⟩:=bH q3;have e4:IntKind.i64.wrap (x*v+u*y)=x*v+u*y:=by rw[cn];unfold zB at *;omega
 have g4:wrap64 (x*v+u*y)=x*v+u*y:=by unfold wrap64;unfold zB at *;omega
 obtain⟨p,q,ok,Z⟩:∃p q ok,aI (x*v+u*y) (y*v)=((p,q),ok):=⟨_,_,_,rfl⟩;have Ay:=ae Z;have HR:=ae (show Ab (x,y) (u,v)=((p,q),ok)by simp[Ab,ha,hb,Z]);clear ha hb Z
 ·go_enter aeP,aeq
  go_wp2_with fail;refine(av x y _).mono ?_;rw[HA.o];rintro e w1 ⟨rfl,hx⟩;obtain⟨J,I,G⟩:=Ae hx;obtain⟨a0,a1,U⟩:=aj J;obtain⟨b0,b1,fb⟩:=aj I;obtain⟨K,r1,O⟩:=aj G;have X1:=ae hx;clear hx J I G;go_wp2_with fail;refine(av u v _).mono ?_;rw[HB.o];rintro e w2 ⟨rfl,hx⟩;clear a0 a1 U b0 b1 fb K r1 O;have X2:=ae (X1.o.trans hx);obtain⟨J,I,G⟩:=Ae X2.o;obtain⟨a0,a1,U⟩:=aj J;obtain⟨b0,b1,fb⟩:=aj I;obtain⟨K,r1,O⟩:=aj G;clear hx J I G;go_wp2_with fail;refine(jN _ _ _).mono ?_;rw[Ay.o];rintro e w3 ⟨rfl,hx⟩;clear a0 a1 U b0 b1 fb K r1 O;have X3:=ae (X2.o.trans hx);obtain⟨J,I,G⟩:=Ae X3.o;obtain⟨a0,a1,U⟩:=aj J;obtain⟨b0,b1,fb⟩:=aj I;obtain⟨K,r1,O⟩:=aj G;clear hx J I G
  go_wp2
  rw[HR.o];refine bR (v:=.tuple #[.agg #[.int .i64 p,.int .i64 q],.bool ok]) (by simp[results,adY,go_sem,K,r1]) rfl ⟨rfl,?_⟩;exact((HX.o.trans X3.o).setCell (by simp;omega) _).setCell (by simp;omega) _
theorem je(x y u v:Int)(w:World):
 Calls Tryz.prog 48 #[Aj x y,Aj u v] w fun e w'=>e=.returned (ER (Ab (x,y) (u,v)))/\Ext w w':=by
 have HX:=ae (show Ext w (((w.alloc (.cells #[.int .i64 x,.int .i64 y] 62)).alloc (.cells #[.int .i64 u,.int .i64 v] 62)).alloc (.cells #[.int .i64 0,.int .i64 0] 62))from((Ext.alloc _ _).trans (Ext.alloc _ _)).trans (Ext.alloc _ _));cases ha:o9 (x,y)
 ·have HA:=ae ha;have HR:=ae (show Ab (x,y) (u,v)=((0,0),false)by simp[Ab,ha]);clear ha;go_enter aeQ,aer
  go_wp2_with fail;refine(aH x y _).mono ?_;rw[HA.o];rintro e w1 ⟨rfl,hx⟩;obtain⟨J,I,G⟩:=Ae hx;obtain⟨a0,a1,U⟩:=aj J;obtain⟨b0,b1,fb⟩:=aj I;obtain⟨K,r1,O⟩:=aj G;have X1:=ae hx;clear hx J I G
  go_wp2
  rw[HR.o];refine bR (v:=.tuple #[.agg #[.int .i64 0,.int .i64 0],.bool false]) (by simp[results,adZ,go_sem,K,r1]) rfl ⟨rfl,?_⟩;exact((HX.o.trans X1.o).setCell (by simp;omega) _).setCell (by simp;omega) _
 cases hb:o9 (u,v)
 ·have HA:=ae ha;have HB:=ae hb;have HR:=ae (show Ab (x,y) (u,v)=((0,0),false)by simp[Ab,hb]);clear ha hb;go_enter aeQ,aer
  go_wp2_with fail;refine(aH x y _).mono ?_;rw[HA.o];rintro e w1 ⟨rfl,hx⟩;obtain⟨J,I,G⟩:=Ae hx;obtain⟨a0,a1,U⟩:=aj J;obtain⟨b0,b1,fb⟩:=aj I;obtain⟨K,r1,O⟩:=aj G;have X1:=ae hx;clear hx J I G;go_wp2_with fail;refine(aH u v _).mono ?_;rw[HB.o];rintro e w2 ⟨rfl,hx⟩;clear a0 a1 U b0 b1 fb K r1 O;have X2:=ae (X1.o.trans hx);obtain⟨J,I,G⟩:=Ae X2.o;obtain⟨a0,a1,U⟩:=aj J;obtain⟨b0,b1,fb⟩:=aj I;obtain⟨K,r1,O⟩:=aj G;clear hx J I G
  go_wp2
  rw[HR.o];refine bR (v:=.tuple #[.agg #[.int .i64 0,.int .i64 0],.bool false]) (by simp[results,adZ,go_sem,K,r1]) rfl ⟨rfl,?_⟩;exact((HX.o.trans X2.o).setCell (by simp;omega) _).setCell (by simp;omega) _
 have HA:=ae ha;have HB:=ae hb;obtain⟨x1,x2,y1,y2⟩:=dF ha;obtain⟨u1,u2,v1,v2⟩:=dF hb;have q1:zB (x*v):=dQ e7 e7;obtain⟨e1,g1⟩:=bH q1;have q2:zB (u*y):=dQ e7 e7;obtain⟨e2,g2⟩:=bH q2;have q3:zB (y*v):=dQ e7 e7;obtain⟨e3,g3⟩:=bH q3;have e4:IntKind.i64.wrap (x*v+u*y)=x*v+u*y:=by rw[cn];unfold zB at *;omega
 have g4:wrap64 (x*v+u*y)=x*v+u*y:=by unfold wrap64;unfold zB at *;omega
 obtain⟨p,q,ok,Z⟩:∃p q ok,aI (x*v+u*y) (y*v)=((p,q),ok):=⟨_,_,_,rfl⟩;have Ay:=ae Z;have HR:=ae (show Ab (x,y) (u,v)=((p,q),ok)by simp[Ab,ha,hb,Z]);clear ha hb Z
 ·go_enter aeQ,aer
  go_wp2_with fail;refine(aH x y _).mono ?_;rw[HA.o];rintro e w1 ⟨rfl,hx⟩;obtain⟨J,I,G⟩:=Ae hx;obtain⟨a0,a1,U⟩:=aj J;obtain⟨b0,b1,fb⟩:=aj I;obtain⟨K,r1,O⟩:=aj G;have X1:=ae hx;clear hx J I G;go_wp2_with fail;refine(aH u v _).mono ?_;rw[HB.o];rintro e w2 ⟨rfl,hx⟩;clear a0 a1 U b0 b1 fb K r1 O;have X2:=ae (X1.o.trans hx);obtain⟨J,I,G⟩:=Ae X2.o;obtain⟨a0,a1,U⟩:=aj J;obtain⟨b0,b1,fb⟩:=aj I;obtain⟨K,r1,O⟩:=aj G;clear hx J I G;go_wp2_with fail;refine(lT _ _ _).mono ?_;rw[Ay.o];rintro e w3 ⟨rfl,hx⟩;clear a0 a1 U b0 b1 fb K r1 O;have X3:=ae (X2.o.trans hx);obtain⟨J,I,G⟩:=Ae X3.o;obtain⟨a0,a1,U⟩:=aj J;obtain⟨b0,b1,fb⟩:=aj I;obtain⟨K,r1,O⟩:=aj G;clear hx J I G
  go_wp2
  rw[HR.o];refine bR (v:=.tuple #[.agg #[.int .i64 p,.int .i64 q],.bool ok]) (by simp[results,adZ,go_sem,K,r1]) rfl ⟨rfl,?_⟩;exact((HX.o.trans X3.o).setCell (by simp;omega) _).setCell (by simp;omega) _
theorem nl(x y u v:Int)(w:World):
 Calls Tryz.prog 138 #[Aj x y,Aj u v] w fun e w'=>e=.returned (ER (zI (x,y) (u,v)))/\Ext w w':=by
 have HX:=ae (show Ext w (((w.alloc (.cells #[.int .i64 x,.int .i64 y] 62)).alloc (.cells #[.int .i64 u,.int .i64 v] 62)).alloc (.cells #[.int .i64 0,.int .i64 0] 62))from((Ext.alloc _ _).trans (Ext.alloc _ _)).trans (Ext.alloc _ _));cases ha:o9 (x,y)
 ·have HA:=ae ha;have HR:=ae (show zI (x,y) (u,v)=((0,0),false)by simp[zI,ha]);clear ha;go_enter aes,ad6
  go_wp2_with fail;refine(av x y _).mono ?_;rw[HA.o];rintro e w1 ⟨rfl,hx⟩;obtain⟨J,I,G⟩:=Ae hx;obtain⟨a0,a1,U⟩:=aj J;obtain⟨b0,b1,fb⟩:=aj I;obtain⟨K,r1,O⟩:=aj G;have X1:=ae hx;clear hx J I G
  go_wp2
  rw[HR.o];refine bR (v:=.tuple #[.agg #[.int .i64 0,.int .i64 0],.bool false]) (by simp[results,adI,go_sem,K,r1]) rfl ⟨rfl,?_⟩;exact((HX.o.trans X1.o).setCell (by simp;omega) _).setCell (by simp;omega) _
 cases hb:o9 (u,v)
 ·have HA:=ae ha;have HB:=ae hb;have HR:=ae (show zI (x,y) (u,v)=((0,0),false)by simp[zI,hb]);clear ha hb;go_enter aes,ad6
  go_wp2_with fail;refine(av x y _).mono ?_;rw[HA.o];rintro e w1 ⟨rfl,hx⟩;obtain⟨J,I,G⟩:=Ae hx;obtain⟨a0,a1,U⟩:=aj J;obtain⟨b0,b1,fb⟩:=aj I;obtain⟨K,r1,O⟩:=aj G;have X1:=ae hx;clear hx J I G;go_wp2_with fail;refine(av u v _).mono ?_;rw[HB.o];rintro e w2 ⟨rfl,hx⟩;clear a0 a1 U b0 b1 fb K r1 O;have X2:=ae (X1.o.trans hx);obtain⟨J,I,G⟩:=Ae X2.o;obtain⟨a0,a1,U⟩:=aj J;obtain⟨b0,b1,fb⟩:=aj I;obtain⟨K,r1,O⟩:=aj G;clear hx J I G
  go_wp2
  rw[HR.o];refine bR (v:=.tuple #[.agg #[.int .i64 0,.int .i64 0],.bool false]) (by simp[results,adI,go_sem,K,r1]) rfl ⟨rfl,?_⟩;exact((HX.o.trans X2.o).setCell (by simp;omega) _).setCell (by simp;omega) _
 have HA:=ae ha;have HB:=ae hb;obtain⟨x1,x2,y1,y2⟩:=dF ha;obtain⟨u1,u2,v1,v2⟩:=dF hb;have q1:zB (x*v):=dQ e7 e7;obtain⟨e1,g1⟩:=bH q1;have q2:zB (u*y):=dQ e7 e7;obtain⟨e2,g2⟩:=bH q2;have q3:zB (y*v):=dQ e7 e7;obtain⟨e3,g3⟩:=bH q3;have e4:IntKind.i64.wrap (x*v-u*y)=x*v-u*y:=by rw[cn];unfold zB at *;omega
 have g4:wrap64 (x*v-u*y)=x*v-u*y:=by unfold wrap64;unfold zB at *;omega
 obtain⟨p,q,ok,Z⟩:∃p q ok,aI (x*v-u*y) (y*v)=((p,q),ok):=⟨_,_,_,rfl⟩;have Ay:=ae Z;have HR:=ae (show zI (x,y) (u,v)=((p,q),ok)by simp[zI,ha,hb,Z]);clear ha hb Z
 ·go_enter aes,ad6
  go_wp2_with fail;refine(av x y _).mono ?_;rw[HA.o];rintro e w1 ⟨rfl,hx⟩;obtain⟨J,I,G⟩:=Ae hx;obtain⟨a0,a1,U⟩:=aj J;obtain⟨b0,b1,fb⟩:=aj I;obtain⟨K,r1,O⟩:=aj G;have X1:=ae hx;clear hx J I G;go_wp2_with fail;refine(av u v _).mono ?_;rw[HB.o];rintro e w2 ⟨rfl,hx⟩;clear a0 a1 U b0 b1 fb K r1 O;have X2:=ae (X1.o.trans hx);obtain⟨J,I,G⟩:=Ae X2.o;obtain⟨a0,a1,U⟩:=aj J;obtain⟨b0,b1,fb⟩:=aj I;obtain⟨K,r1,O⟩:=aj G;clear hx J I G;go_wp2_with fail;refine(jN _ _ _).mono ?_;rw[Ay.o];rintro e w3 ⟨rfl,hx⟩;clear a0 a1 U b0 b1 fb K r1 O;have X3:=ae (X2.o.trans hx);obtain⟨J,I,G⟩:=Ae X3.o;obtain⟨a0,a1,U⟩:=aj J;obtain⟨b0,b1,fb⟩:=aj I;obtain⟨K,r1,O⟩:=aj G;clear hx J I G
  go_wp2
  rw[HR.o];refine bR (v:=.tuple #[.agg #[.int .i64 p,.int .i64 q],.bool ok]) (by simp[results,adI,go_sem,K,r1]) rfl ⟨rfl,?_⟩;exact((HX.o.trans X3.o).setCell (by simp;omega) _).setCell (by simp;omega) _
theorem sz(x y u v:Int)(w:World):
 Calls Tryz.prog 237 #[Aj x y,Aj u v] w fun e w'=>e=.returned (ER (mulR (x,y) (u,v)))/\Ext w w':=by
 have HX:=ae (show Ext w (((w.alloc (.cells #[.int .i64 x,.int .i64 y] 62)).alloc (.cells #[.int .i64 u,.int .i64 v] 62)).alloc (.cells #[.int .i64 0,.int .i64 0] 62))from((Ext.alloc _ _).trans (Ext.alloc _ _)).trans (Ext.alloc _ _));cases ha:o9 (x,y)
 ·have HA:=ae ha;have HR:=ae (show mulR (x,y) (u,v)=((0,0),false)by simp[mulR,ha]);clear ha;go_enter aet,ad7
  go_wp2_with fail;refine(av x y _).mono ?_;rw[HA.o];rintro e w1 ⟨rfl,hx⟩;obtain⟨J,I,G⟩:=Ae hx;obtain⟨a0,a1,U⟩:=aj J;obtain⟨b0,b1,fb⟩:=aj I;obtain⟨K,r1,O⟩:=aj G;have X1:=ae hx;clear hx J I G
  go_wp2
  rw[HR.o];refine bR (v:=.tuple #[.agg #[.int .i64 0,.int .i64 0],.bool false]) (by simp[results,adJ,go_sem,K,r1]) rfl ⟨rfl,?_⟩;exact((HX.o.trans X1.o).setCell (by simp;omega) _).setCell (by simp;omega) _
 cases hb:o9 (u,v)
 ·have HA:=ae ha;have HB:=ae hb;have HR:=ae (show mulR (x,y) (u,v)=((0,0),false)by simp[mulR,hb]);clear ha hb;go_enter aet,ad7
  go_wp2_with fail;refine(av x y _).mono ?_;rw[HA.o];rintro e w1 ⟨rfl,hx⟩;obtain⟨J,I,G⟩:=Ae hx;obtain⟨a0,a1,U⟩:=aj J;obtain⟨b0,b1,fb⟩:=aj I;obtain⟨K,r1,O⟩:=aj G;have X1:=ae hx;clear hx J I G;go_wp2_with fail;refine(av u v _).mono ?_;rw[HB.o];rintro e w2 ⟨rfl,hx⟩;clear a0 a1 U b0 b1 fb K r1 O;have X2:=ae (X1.o.trans hx);obtain⟨J,I,G⟩:=Ae X2.o;obtain⟨a0,a1,U⟩:=aj J;obtain⟨b0,b1,fb⟩:=aj I;obtain⟨K,r1,O⟩:=aj G;clear hx J I G
  go_wp2
  rw[HR.o];refine bR (v:=.tuple #[.agg #[.int .i64 0,.int .i64 0],.bool false]) (by simp[results,adJ,go_sem,K,r1]) rfl ⟨rfl,?_⟩;exact((HX.o.trans X2.o).setCell (by simp;omega) _).setCell (by simp;omega) _
 have HA:=ae ha;have HB:=ae hb;obtain⟨x1,x2,y1,y2⟩:=dF ha;obtain⟨u1,u2,v1,v2⟩:=dF hb;have q1:zB (x*u):=dQ e7 e7;obtain⟨e1,g1⟩:=bH q1;have q2:zB (y*v):=dQ e7 e7;obtain⟨e2,g2⟩:=bH q2;obtain⟨p,q,ok,Z⟩:∃p q ok,aI (x*u) (y*v)=((p,q),ok):=⟨_,_,_,rfl⟩;have Ay:=ae Z;have HR:=ae (show mulR (x,y) (u,v)=((p,q),ok)by simp[mulR,ha,hb,Z]);clear ha hb Z
 ·go_enter aet,ad7
  go_wp2_with fail;refine(av x y _).mono ?_;rw[HA.o];rintro e w1 ⟨rfl,hx⟩;obtain⟨J,I,G⟩:=Ae hx;obtain⟨a0,a1,U⟩:=aj J;obtain⟨b0,b1,fb⟩:=aj I;obtain⟨K,r1,O⟩:=aj G;have X1:=ae hx;clear hx J I G;go_wp2_with fail;refine(av u v _).mono ?_;rw[HB.o];rintro e w2 ⟨rfl,hx⟩;clear a0 a1 U b0 b1 fb K r1 O;have X2:=ae (X1.o.trans hx);obtain⟨J,I,G⟩:=Ae X2.o;obtain⟨a0,a1,U⟩:=aj J;obtain⟨b0,b1,fb⟩:=aj I;obtain⟨K,r1,O⟩:=aj G;clear hx J I G;go_wp2_with fail;refine(jN _ _ _).mono ?_;rw[Ay.o];rintro e w3 ⟨rfl,hx⟩;clear a0 a1 U b0 b1 fb K r1 O;have X3:=ae (X2.o.trans hx);obtain⟨J,I,G⟩:=Ae X3.o;obtain⟨a0,a1,U⟩:=aj J;obtain⟨b0,b1,fb⟩:=aj I;obtain⟨K,r1,O⟩:=aj G;clear hx J I G
  go_wp2
  rw[HR.o];refine bR (v:=.tuple #[.agg #[.int .i64 p,.int .i64 q],.bool ok]) (by simp[results,adJ,go_sem,K,r1]) rfl ⟨rfl,?_⟩;exact((HX.o.trans X3.o).setCell (by simp;omega) _).setCell (by simp;omega) _
theorem tH(x y u v:Int)(w:World):
 Calls Tryz.prog 223 #[Aj x y,Aj u v] w fun e w'=>e=.returned (ER (mulR (x,y) (u,v)))/\Ext w w':=by
 have HX:=ae (show Ext w (((w.alloc (.cells #[.int .i64 x,.int .i64 y] 62)).alloc (.cells #[.int .i64 u,.int .i64 v] 62)).alloc (.cells #[.int .i64 0,.int .i64 0] 62))from((Ext.alloc _ _).trans (Ext.alloc _ _)).trans (Ext.alloc _ _));cases ha:o9 (x,y)
 ·have HA:=ae ha;have HR:=ae (show mulR (x,y) (u,v)=((0,0),false)by simp[mulR,ha]);clear ha;go_enter aeu,ad8
  go_wp2_with fail;refine(aH x y _).mono ?_;rw[HA.o];rintro e w1 ⟨rfl,hx⟩;obtain⟨J,I,G⟩:=Ae hx;obtain⟨a0,a1,U⟩:=aj J;obtain⟨b0,b1,fb⟩:=aj I;obtain⟨K,r1,O⟩:=aj G;have X1:=ae hx;clear hx J I G
  go_wp2
  rw[HR.o];refine bR (v:=.tuple #[.agg #[.int .i64 0,.int .i64 0],.bool false]) (by simp[results,adK,go_sem,K,r1]) rfl ⟨rfl,?_⟩;exact((HX.o.trans X1.o).setCell (by simp;omega) _).setCell (by simp;omega) _
 cases hb:o9 (u,v)
 ·have HA:=ae ha;have HB:=ae hb;have HR:=ae (show mulR (x,y) (u,v)=((0,0),false)by simp[mulR,hb]);clear ha hb;go_enter aeu,ad8
  go_wp2_with fail;refine(aH x y _).mono ?_;rw[HA.o];rintro e w1 ⟨rfl,hx⟩;obtain⟨J,I,G⟩:=Ae hx;obtain⟨a0,a1,U⟩:=aj J;obtain⟨b0,b1,fb⟩:=aj I;obtain⟨K,r1,O⟩:=aj G;have X1:=ae hx;clear hx J I G;go_wp2_with fail;refine(aH u v _).mono ?_;rw[HB.o];rintro e w2 ⟨rfl,hx⟩;clear a0 a1 U b0 b1 fb K r1 O;have X2:=ae (X1.o.trans hx);obtain⟨J,I,G⟩:=Ae X2.o;obtain⟨a0,a1,U⟩:=aj J;obtain⟨b0,b1,fb⟩:=aj I;obtain⟨K,r1,O⟩:=aj G;clear hx J I G
  go_wp2
  rw[HR.o];refine bR (v:=.tuple #[.agg #[.int .i64 0,.int .i64 0],.bool false]) (by simp[results,adK,go_sem,K,r1]) rfl ⟨rfl,?_⟩;exact((HX.o.trans X2.o).setCell (by simp;omega) _).setCell (by simp;omega) _
 have HA:=ae ha;have HB:=ae hb;obtain⟨x1,x2,y1,y2⟩:=dF ha;obtain⟨u1,u2,v1,v2⟩:=dF hb;have q1:zB (x*u):=dQ e7 e7;obtain⟨e1,g1⟩:=bH q1;have q2:zB (y*v):=dQ e7 e7;obtain⟨e2,g2⟩:=bH q2;obtain⟨p,q,ok,Z⟩:∃p q ok,aI (x*u) (y*v)=((p,q),ok):=⟨_,_,_,rfl⟩;have Ay:=ae Z;have HR:=ae (show mulR (x,y) (u,v)=((p,q),ok)by simp[mulR,ha,hb,Z]);clear ha hb Z
 ·go_enter aeu,ad8
  go_wp2_with fail;refine(aH x y _).mono ?_;rw[HA.o];rintro e w1 ⟨rfl,hx⟩;obtain⟨J,I,G⟩:=Ae hx;obtain⟨a0,a1,U⟩:=aj J;obtain⟨b0,b1,fb⟩:=aj I;obtain⟨K,r1,O⟩:=aj G;have X1:=ae hx;clear hx J I G;go_wp2_with fail;refine(aH u v _).mono ?_;rw[HB.o];rintro e w2 ⟨rfl,hx⟩;clear a0 a1 U b0 b1 fb K r1 O;have X2:=ae (X1.o.trans hx);obtain⟨J,I,G⟩:=Ae X2.o;obtain⟨a0,a1,U⟩:=aj J;obtain⟨b0,b1,fb⟩:=aj I;obtain⟨K,r1,O⟩:=aj G;clear hx J I G;go_wp2_with fail;refine(lT _ _ _).mono ?_;rw[Ay.o];rintro e w3 ⟨rfl,hx⟩;clear a0 a1 U b0 b1 fb K r1 O;have X3:=ae (X2.o.trans hx);obtain⟨J,I,G⟩:=Ae X3.o;obtain⟨a0,a1,U⟩:=aj J;obtain⟨b0,b1,fb⟩:=aj I;obtain⟨K,r1,O⟩:=aj G;clear hx J I G
  go_wp2
  rw[HR.o];refine bR (v:=.tuple #[.agg #[.int .i64 p,.int .i64 q],.bool ok]) (by simp[results,adK,go_sem,K,r1]) rfl ⟨rfl,?_⟩;exact((HX.o.trans X3.o).setCell (by simp;omega) _).setCell (by simp;omega) _
theorem sl(x y u v:Int)(w:World):
 Calls Tryz.prog 253 #[Aj x y,Aj u v] w fun e w'=>e=.returned (ER (AW (x,y) (u,v)))/\Ext w w':=by
 have HX:=ae (show Ext w (((w.alloc (.cells #[.int .i64 x,.int .i64 y] 62)).alloc (.cells #[.int .i64 u,.int .i64 v] 62)).alloc (.cells #[.int .i64 0,.int .i64 0] 62))from((Ext.alloc _ _).trans (Ext.alloc _ _)).trans (Ext.alloc _ _));cases ha:o9 (x,y)
 ·have HA:=ae ha;have HR:=ae (show AW (x,y) (u,v)=((0,0),false)by simp[AW,ha]);clear ha;go_enter aev,ad9
  go_wp2_with fail;refine(av x y _).mono ?_;rw[HA.o];rintro e w1 ⟨rfl,hx⟩;obtain⟨J,I,G⟩:=Ae hx;obtain⟨a0,a1,U⟩:=aj J;obtain⟨b0,b1,fb⟩:=aj I;obtain⟨K,r1,O⟩:=aj G;have X1:=ae hx;clear hx J I G
  go_wp2
  rw[HR.o];refine bR (v:=.tuple #[.agg #[.int .i64 0,.int .i64 0],.bool false]) (by simp[results,adL,go_sem,K,r1]) rfl ⟨rfl,?_⟩;exact((HX.o.trans X1.o).setCell (by simp;omega) _).setCell (by simp;omega) _
 cases hb:o9 (u,v)
 ·have HA:=ae ha;have HB:=ae hb;have HR:=ae (show AW (x,y) (u,v)=((0,0),false)by simp[AW,hb]);clear ha hb;go_enter aev,ad9
  go_wp2_with fail;refine(av x y _).mono ?_;rw[HA.o];rintro e w1 ⟨rfl,hx⟩;obtain⟨J,I,G⟩:=Ae hx;obtain⟨a0,a1,U⟩:=aj J;obtain⟨b0,b1,fb⟩:=aj I;obtain⟨K,r1,O⟩:=aj G;have X1:=ae hx;clear hx J I G;go_wp2_with fail;refine(av u v _).mono ?_;rw[HB.o];rintro e w2 ⟨rfl,hx⟩;clear a0 a1 U b0 b1 fb K r1 O;have X2:=ae (X1.o.trans hx);obtain⟨J,I,G⟩:=Ae X2.o;obtain⟨a0,a1,U⟩:=aj J;obtain⟨b0,b1,fb⟩:=aj I;obtain⟨K,r1,O⟩:=aj G;clear hx J I G
  go_wp2
  rw[HR.o];refine bR (v:=.tuple #[.agg #[.int .i64 0,.int .i64 0],.bool false]) (by simp[results,adL,go_sem,K,r1]) rfl ⟨rfl,?_⟩;exact((HX.o.trans X2.o).setCell (by simp;omega) _).setCell (by simp;omega) _
 have HA:=ae ha;have HB:=ae hb;obtain⟨x1,x2,y1,y2⟩:=dF ha;obtain⟨u1,u2,v1,v2⟩:=dF hb;have q1:zB (x*v):=dQ e7 e7;obtain⟨e1,g1⟩:=bH q1;have q2:zB (y*u):=dQ e7 e7;obtain⟨e2,g2⟩:=bH q2;obtain⟨p,q,ok,Z⟩:∃p q ok,aI (x*v) (y*u)=((p,q),ok):=⟨_,_,_,rfl⟩;have Ay:=ae Z;have HR:=ae (show AW (x,y) (u,v)=((p,q),ok)by simp[AW,ha,hb,Z]);clear ha hb Z
 ·go_enter aev,ad9
  go_wp2_with fail;refine(av x y _).mono ?_;rw[HA.o];rintro e w1 ⟨rfl,hx⟩;obtain⟨J,I,G⟩:=Ae hx;obtain⟨a0,a1,U⟩:=aj J;obtain⟨b0,b1,fb⟩:=aj I;obtain⟨K,r1,O⟩:=aj G;have X1:=ae hx;clear hx J I G;go_wp2_with fail;refine(av u v _).mono ?_;rw[HB.o];rintro e w2 ⟨rfl,hx⟩;clear a0 a1 U b0 b1 fb K r1 O;have X2:=ae (X1.o.trans hx);obtain⟨J,I,G⟩:=Ae X2.o;obtain⟨a0,a1,U⟩:=aj J;obtain⟨b0,b1,fb⟩:=aj I;obtain⟨K,r1,O⟩:=aj G;clear hx J I G;go_wp2_with fail;refine(jN _ _ _).mono ?_;rw[Ay.o];rintro e w3 ⟨rfl,hx⟩;clear a0 a1 U b0 b1 fb K r1 O;have X3:=ae (X2.o.trans hx);obtain⟨J,I,G⟩:=Ae X3.o;obtain⟨a0,a1,U⟩:=aj J;obtain⟨b0,b1,fb⟩:=aj I;obtain⟨K,r1,O⟩:=aj G;clear hx J I G
  go_wp2
  rw[HR.o];refine bR (v:=.tuple #[.agg #[.int .i64 p,.int .i64 q],.bool ok]) (by simp[results,adL,go_sem,K,r1]) rfl ⟨rfl,?_⟩;exact((HX.o.trans X3.o).setCell (by simp;omega) _).setCell (by simp;omega) _
theorem tC(x y u v:Int)(w:World):
 Calls Tryz.prog 242 #[Aj x y,Aj u v] w fun e w'=>e=.returned (ER (AW (x,y) (u,v)))/\Ext w w':=by
 have HX:=ae (show Ext w (((w.alloc (.cells #[.int .i64 x,.int .i64 y] 62)).alloc (.cells #[.int .i64 u,.int .i64 v] 62)).alloc (.cells #[.int .i64 0,.int .i64 0] 62))from((Ext.alloc _ _).trans (Ext.alloc _ _)).trans (Ext.alloc _ _));cases ha:o9 (x,y)
 ·have HA:=ae ha;have HR:=ae (show AW (x,y) (u,v)=((0,0),false)by simp[AW,ha]);clear ha;go_enter aew,ad'
  go_wp2_with fail;refine(aH x y _).mono ?_;rw[HA.o];rintro e w1 ⟨rfl,hx⟩;obtain⟨J,I,G⟩:=Ae hx;obtain⟨a0,a1,U⟩:=aj J;obtain⟨b0,b1,fb⟩:=aj I;obtain⟨K,r1,O⟩:=aj G;have X1:=ae hx;clear hx J I G
  go_wp2
  rw[HR.o];refine bR (v:=.tuple #[.agg #[.int .i64 0,.int .i64 0],.bool false]) (by simp[results,adM,go_sem,K,r1]) rfl ⟨rfl,?_⟩;exact((HX.o.trans X1.o).setCell (by simp;omega) _).setCell (by simp;omega) _
 cases hb:o9 (u,v)
 ·have HA:=ae ha;have HB:=ae hb;have HR:=ae (show AW (x,y) (u,v)=((0,0),false)by simp[AW,hb]);clear ha hb;go_enter aew,ad'
  go_wp2_with fail;refine(aH x y _).mono ?_;rw[HA.o];rintro e w1 ⟨rfl,hx⟩;obtain⟨J,I,G⟩:=Ae hx;obtain⟨a0,a1,U⟩:=aj J;obtain⟨b0,b1,fb⟩:=aj I;obtain⟨K,r1,O⟩:=aj G;have X1:=ae hx;clear hx J I G;go_wp2_with fail;refine(aH u v _).mono ?_;rw[HB.o];rintro e w2 ⟨rfl,hx⟩;clear a0 a1 U b0 b1 fb K r1 O;have X2:=ae (X1.o.trans hx);obtain⟨J,I,G⟩:=Ae X2.o;obtain⟨a0,a1,U⟩:=aj J;obtain⟨b0,b1,fb⟩:=aj I;obtain⟨K,r1,O⟩:=aj G;clear hx J I G
  go_wp2
  rw[HR.o];refine bR (v:=.tuple #[.agg #[.int .i64 0,.int .i64 0],.bool false]) (by simp[results,adM,go_sem,K,r1]) rfl ⟨rfl,?_⟩;exact((HX.o.trans X2.o).setCell (by simp;omega) _).setCell (by simp;omega) _
 have HA:=ae ha;have HB:=ae hb;obtain⟨x1,x2,y1,y2⟩:=dF ha;obtain⟨u1,u2,v1,v2⟩:=dF hb;have q1:zB (x*v):=dQ e7 e7;obtain⟨e1,g1⟩:=bH q1;have q2:zB (y*u):=dQ e7 e7;obtain⟨e2,g2⟩:=bH q2;obtain⟨p,q,ok,Z⟩:∃p q ok,aI (x*v) (y*u)=((p,q),ok):=⟨_,_,_,rfl⟩;have Ay:=ae Z;have HR:=ae (show AW (x,y) (u,v)=((p,q),ok)by simp[AW,ha,hb,Z]);clear ha hb Z
 ·go_enter aew,ad'
  go_wp2_with fail;refine(aH x y _).mono ?_;rw[HA.o];rintro e w1 ⟨rfl,hx⟩;obtain⟨J,I,G⟩:=Ae hx;obtain⟨a0,a1,U⟩:=aj J;obtain⟨b0,b1,fb⟩:=aj I;obtain⟨K,r1,O⟩:=aj G;have X1:=ae hx;clear hx J I G;go_wp2_with fail;refine(aH u v _).mono ?_;rw[HB.o];rintro e w2 ⟨rfl,hx⟩;clear a0 a1 U b0 b1 fb K r1 O;have X2:=ae (X1.o.trans hx);obtain⟨J,I,G⟩:=Ae X2.o;obtain⟨a0,a1,U⟩:=aj J;obtain⟨b0,b1,fb⟩:=aj I;obtain⟨K,r1,O⟩:=aj G;clear hx J I G;go_wp2_with fail;refine(lT _ _ _).mono ?_;rw[Ay.o];rintro e w3 ⟨rfl,hx⟩;clear a0 a1 U b0 b1 fb K r1 O;have X3:=ae (X2.o.trans hx);obtain⟨J,I,G⟩:=Ae X3.o;obtain⟨a0,a1,U⟩:=aj J;obtain⟨b0,b1,fb⟩:=aj I;obtain⟨K,r1,O⟩:=aj G;clear hx J I G
  go_wp2
  rw[HR.o];refine bR (v:=.tuple #[.agg #[.int .i64 p,.int .i64 q],.bool ok]) (by simp[results,adM,go_sem,K,r1]) rfl ⟨rfl,?_⟩;exact((HX.o.trans X3.o).setCell (by simp;omega) _).setCell (by simp;omega) _
theorem iX(x y u v:Int)(w:World):
 Calls Tryz.prog 73 #[Aj x y,Aj u v] w fun e w'=>e=.returned (.int .i64 (zV (x,y) (u,v)))/\Ext w w':=by
 have HX:=ae (show Ext w ((w.alloc (.cells #[.int .i64 x,.int .i64 y] 62)).alloc (.cells #[.int .i64 u,.int .i64 v] 62))from(Ext.alloc _ _).trans (Ext.alloc _ _));cases ha:o9 (x,y)
 ·have HA:=ae ha;have HR:=ae (show zV (x,y) (u,v)=0 by simp[zV,ha]);clear ha;go_enter acU,acD
  go_wp2_with fail;refine(av x y _).mono ?_;rw[HA.o];rintro e w1 ⟨rfl,hx⟩;obtain⟨I,G⟩:=Dd hx;obtain⟨a0,a1,J⟩:=aj I;obtain⟨b0,b1,fb⟩:=aj G;have X1:=ae hx;clear hx I G
  go_wp2
  go_ret;exact⟨ap HR.o.symm,HX.o.trans X1.o⟩
 cases hb:o9 (u,v)
 ·have HA:=ae ha;have HB:=ae hb;have HR:=ae (show zV (x,y) (u,v)=0 by simp[zV,hb]);clear ha hb;go_enter acU,acD
  go_wp2_with fail;refine(av x y _).mono ?_;rw[HA.o];rintro e w1 ⟨rfl,hx⟩;obtain⟨I,G⟩:=Dd hx;obtain⟨a0,a1,J⟩:=aj I;obtain⟨b0,b1,fb⟩:=aj G;have X1:=ae hx;clear hx I G;go_wp2_with fail;refine(av u v _).mono ?_;rw[HB.o];rintro e w2 ⟨rfl,hx⟩;clear a0 a1 J b0 b1 fb;have X2:=ae (X1.o.trans hx);obtain⟨I,G⟩:=Dd X2.o;obtain⟨a0,a1,J⟩:=aj I;obtain⟨b0,b1,fb⟩:=aj G;clear hx I G
  go_wp2
  go_ret;exact⟨ap HR.o.symm,HX.o.trans X2.o⟩
 have HA:=ae ha;have HB:=ae hb;obtain⟨x1,x2,y1,y2⟩:=dF ha;obtain⟨u1,u2,v1,v2⟩:=dF hb;have q1:zB (x*v):=dQ e7 e7;have q2:zB (u*y):=dQ e7 e7;obtain⟨e1,g1⟩:=bH q1;obtain⟨e2,g2⟩:=bH q2;have U:zV (x,y) (u,v)=(if x*v<u*y then -1 else if u*y<x*v then 1 else 0):=by simp[zV,ha,hb]
 obtain⟨P,O⟩:=b9 (x*v);obtain⟨Q,K⟩:=b9 (u*y);rw[<-O,<-K]at U;rw[<-O]at e1 g1;rw[<-K]at e2 g2;have HR:=ae U;have hP':=O.symm;have hQ':=K.symm;clear ha hb U q1 q2 O K;by_cases h1:P<Q
 ·go_enter acU,acD
  go_wp2_with fail;refine(av x y _).mono ?_;rw[HA.o];rintro e w1 ⟨rfl,hx⟩;obtain⟨I,G⟩:=Dd hx;obtain⟨a0,a1,J⟩:=aj I;obtain⟨b0,b1,fb⟩:=aj G;have X1:=ae hx;clear hx I G;go_wp2_with fail;refine(av u v _).mono ?_;rw[HB.o];rintro e w2 ⟨rfl,hx⟩;clear a0 a1 J b0 b1 fb;have X2:=ae (X1.o.trans hx);obtain⟨I,G⟩:=Dd X2.o;obtain⟨a0,a1,J⟩:=aj I;obtain⟨b0,b1,fb⟩:=aj G;clear hx I G
  go_wp2
  go_quiet (fail)
  go_wp2
  go_ret;exact⟨ap (by rw[HR.o,hI e7]),HX.o.trans (X2.o.trans (Bj.ext ⟨_,rfl⟩))⟩
 by_cases h2:Q<P
 ·go_enter acU,acD
  go_wp2_with fail;refine(av x y _).mono ?_;rw[HA.o];rintro e w1 ⟨rfl,hx⟩;obtain⟨I,G⟩:=Dd hx;obtain⟨a0,a1,J⟩:=aj I;obtain⟨b0,b1,fb⟩:=aj G;have X1:=ae hx;clear hx I G;go_wp2_with fail;refine(av u v _).mono ?_;rw[HB.o];rintro e w2 ⟨rfl,hx⟩;clear a0 a1 J b0 b1 fb;have X2:=ae (X1.o.trans hx);obtain⟨I,G⟩:=Dd X2.o;obtain⟨a0,a1,J⟩:=aj I;obtain⟨b0,b1,fb⟩:=aj G;clear hx I G
  go_wp2
  go_quiet (fail)
  go_wp2
  go_ret;exact⟨ap (by rw[HR.o,hD e7,hI e7]),HX.o.trans (X2.o.trans (Bj.ext ⟨_,rfl⟩))⟩
 ·go_enter acU,acD
  go_wp2_with fail;refine(av x y _).mono ?_;rw[HA.o];rintro e w1 ⟨rfl,hx⟩;obtain⟨I,G⟩:=Dd hx;obtain⟨a0,a1,J⟩:=aj I;obtain⟨b0,b1,fb⟩:=aj G;have X1:=ae hx;clear hx I G;go_wp2_with fail;refine(av u v _).mono ?_;rw[HB.o];rintro e w2 ⟨rfl,hx⟩;clear a0 a1 J b0 b1 fb;have X2:=ae (X1.o.trans hx);obtain⟨I,G⟩:=Dd X2.o;obtain⟨a0,a1,J⟩:=aj I;obtain⟨b0,b1,fb⟩:=aj G;clear hx I G
  go_wp2
  go_quiet (fail)
  go_wp2
  go_ret;exact⟨ap (by rw[HR.o,hD e7,hD e7]),HX.o.trans (X2.o.trans (Bj.ext ⟨_,rfl⟩))⟩
theorem jf(x y u v:Int)(w:World):
 Calls Tryz.prog 219 #[Aj x y,Aj u v] w fun e w'=>e=.returned (.int .i64 (zV (x,y) (u,v)))/\Ext w w':=by
 have HX:=ae (show Ext w ((w.alloc (.cells #[.int .i64 x,.int .i64 y] 62)).alloc (.cells #[.int .i64 u,.int .i64 v] 62))from(Ext.alloc _ _).trans (Ext.alloc _ _));cases ha:o9 (x,y)
 ·have HA:=ae ha;have HR:=ae (show zV (x,y) (u,v)=0 by simp[zV,ha]);clear ha;go_enter acE,acn
  go_wp2_with fail;refine(aH x y _).mono ?_;rw[HA.o];rintro e w1 ⟨rfl,hx⟩;obtain⟨I,G⟩:=Dd hx;obtain⟨a0,a1,J⟩:=aj I;obtain⟨b0,b1,fb⟩:=aj G;have X1:=ae hx;clear hx I G
  go_wp2
  go_ret;exact⟨ap HR.o.symm,HX.o.trans X1.o⟩
 cases hb:o9 (u,v)
 ·have HA:=ae ha;have HB:=ae hb;have HR:=ae (show zV (x,y) (u,v)=0 by simp[zV,hb]);clear ha hb;go_enter acE,acn
  go_wp2_with fail;refine(aH x y _).mono ?_;rw[HA.o];rintro e w1 ⟨rfl,hx⟩;obtain⟨I,G⟩:=Dd hx;obtain⟨a0,a1,J⟩:=aj I;obtain⟨b0,b1,fb⟩:=aj G;have X1:=ae hx;clear hx I G;go_wp2_with fail;refine(aH u v _).mono ?_;rw[HB.o];rintro e w2 ⟨rfl,hx⟩;clear a0 a1 J b0 b1 fb;have X2:=ae (X1.o.trans hx);obtain⟨I,G⟩:=Dd X2.o;obtain⟨a0,a1,J⟩:=aj I;obtain⟨b0,b1,fb⟩:=aj G;clear hx I G
  go_wp2
  go_ret;exact⟨ap HR.o.symm,HX.o.trans X2.o⟩
 have HA:=ae ha;have HB:=ae hb;obtain⟨x1,x2,y1,y2⟩:=dF ha;obtain⟨u1,u2,v1,v2⟩:=dF hb;have q1:zB (x*v):=dQ e7 e7;have q2:zB (u*y):=dQ e7 e7;obtain⟨e1,g1⟩:=bH q1;obtain⟨e2,g2⟩:=bH q2;have U:zV (x,y) (u,v)=(if x*v<u*y then -1 else if u*y<x*v then 1 else 0):=by simp[zV,ha,hb]
 obtain⟨P,O⟩:=b9 (x*v);obtain⟨Q,K⟩:=b9 (u*y);rw[<-O,<-K]at U;rw[<-O]at e1 g1;rw[<-K]at e2 g2;have HR:=ae U;have hP':=O.symm;have hQ':=K.symm;clear ha hb U q1 q2 O K;by_cases h1:P<Q
 ·go_enter acE,acn
  go_wp2_with fail;refine(aH x y _).mono ?_;rw[HA.o];rintro e w1 ⟨rfl,hx⟩;obtain⟨I,G⟩:=Dd hx;obtain⟨a0,a1,J⟩:=aj I;obtain⟨b0,b1,fb⟩:=aj G;have X1:=ae hx;clear hx I G;go_wp2_with fail;refine(aH u v _).mono ?_;rw[HB.o];rintro e w2 ⟨rfl,hx⟩;clear a0 a1 J b0 b1 fb;have X2:=ae (X1.o.trans hx);obtain⟨I,G⟩:=Dd X2.o;obtain⟨a0,a1,J⟩:=aj I;obtain⟨b0,b1,fb⟩:=aj G;clear hx I G
  go_wp2
  go_ret;exact⟨ap (by rw[HR.o,hI e7]),HX.o.trans X2.o⟩
 by_cases h2:Q<P
 ·go_enter acE,acn
  go_wp2_with fail;refine(aH x y _).mono ?_;rw[HA.o];rintro e w1 ⟨rfl,hx⟩;obtain⟨I,G⟩:=Dd hx;obtain⟨a0,a1,J⟩:=aj I;obtain⟨b0,b1,fb⟩:=aj G;have X1:=ae hx;clear hx I G;go_wp2_with fail;refine(aH u v _).mono ?_;rw[HB.o];rintro e w2 ⟨rfl,hx⟩;clear a0 a1 J b0 b1 fb;have X2:=ae (X1.o.trans hx);obtain⟨I,G⟩:=Dd X2.o;obtain⟨a0,a1,J⟩:=aj I;obtain⟨b0,b1,fb⟩:=aj G;clear hx I G
  go_wp2
  go_ret;exact⟨ap (by rw[HR.o,hD e7,hI e7]),HX.o.trans X2.o⟩
 ·go_enter acE,acn
  go_wp2_with fail;refine(aH x y _).mono ?_;rw[HA.o];rintro e w1 ⟨rfl,hx⟩;obtain⟨I,G⟩:=Dd hx;obtain⟨a0,a1,J⟩:=aj I;obtain⟨b0,b1,fb⟩:=aj G;have X1:=ae hx;clear hx I G;go_wp2_with fail;refine(aH u v _).mono ?_;rw[HB.o];rintro e w2 ⟨rfl,hx⟩;clear a0 a1 J b0 b1 fb;have X2:=ae (X1.o.trans hx);obtain⟨I,G⟩:=Dd X2.o;obtain⟨a0,a1,J⟩:=aj I;obtain⟨b0,b1,fb⟩:=aj G;clear hx I G
  go_wp2
  go_ret;exact⟨ap (by rw[HR.o,hD e7,hD e7]),HX.o.trans X2.o⟩
theorem tJ(x y u v:Int)(w:World):
 Calls Tryz.prog 180 #[Aj x y,Aj u v] w fun e w'=>e=.returned (ER (zI (x,y) (u,v)))/\Ext w w':=by
 have HX:=ae (show Ext w (((w.alloc (.cells #[.int .i64 x,.int .i64 y] 62)).alloc (.cells #[.int .i64 u,.int .i64 v] 62)).alloc (.cells #[.int .i64 0,.int .i64 0] 62))from((Ext.alloc _ _).trans (Ext.alloc _ _)).trans (Ext.alloc _ _));cases hb:o9 (u,v)
 ·have HB:=ae hb;have HR:=ae (show zI (x,y) (u,v)=((0,0),false)by simp[zI,hb]);clear hb;go_enter Tryz.func180,Tryz.ntmps180
  go_wp2_with fail;refine(aH u v _).mono ?_;rw[HB.o];rintro e w1 ⟨rfl,hx⟩;obtain⟨I,K,G⟩:=Ae hx;obtain⟨a0,a1,Z⟩:=aj I;obtain⟨b0,b1,fb⟩:=aj K;obtain⟨J,r1,U⟩:=aj G;have X1:=ae hx;clear hx I K G
  go_wp2
  rw[HR.o];refine bR (v:=.tuple #[.agg #[.int .i64 0,.int .i64 0],.bool false]) (by simp[results,Tryz.results180,go_sem,J,r1]) rfl ⟨rfl,?_⟩;exact((HX.o.trans X1.o).setCell (by simp;omega) _).setCell (by simp;omega) _
 ·have HB:=ae hb;obtain⟨u1,u2,v1,v2⟩:=dF hb;obtain⟨p,q,ok,O⟩:∃p q ok,Ab (x,y) (-u,v)=((p,q),ok):=⟨_,_,_,rfl⟩;have Ay:=ae O;have HR:=ae (show zI (x,y) (u,v)=((p,q),ok)by rw[<-tY];exact O);clear hb O;go_enter Tryz.func180,Tryz.ntmps180
  go_wp2_with fail;refine(aH u v _).mono ?_;rw[HB.o];rintro e w1 ⟨rfl,hx⟩;obtain⟨I,K,G⟩:=Ae hx;obtain⟨a0,a1,Z⟩:=aj I;obtain⟨b0,b1,fb⟩:=aj K;obtain⟨J,r1,U⟩:=aj G;have X1:=ae hx;have HBA:=ae I;have DB:=ae G;have hl:=mr G;clear hx I K G;go_wp2_with fail;refine(je _ _ _ _ _).mono ?_;rw[Ay.o];rintro e w3 ⟨rfl,hx⟩;have hz:Ext w (w1.setCell ⟨w.heap.size+1,0,none⟩ (.int .i64 (-u))):=(HX.o.trans X1.o).setCell e8 _;have X3:=ae (hz.trans hx);clear hz;have G:w3.heap[w.heap.size+1+1]?=some (.cells #[.int .i64 0,.int .i64 0] 62 (0,0)):=(hx.block _ (by simp;omega)).trans ((bB _ _ _ _ e8).trans DB.o);clear a0 a1 Z b0 b1 fb J r1 U;obtain⟨J,r1,U⟩:=aj G;clear hx G
  go_wp2
  rw[HR.o];refine bR (v:=.tuple #[.agg #[.int .i64 p,.int .i64 q],.bool ok]) (by simp[results,Tryz.results180,go_sem,J,r1]) rfl ⟨rfl,?_⟩;exact(X3.o.setCell (by simp;omega) _).setCell (by simp;omega) _
