import Derived.Test.YtdadoignenffgaaGreatDoorSvAllG3
import Derived.Test.YtdadoignenffgaaGreatDoorSvAllG0
import Derived.Test.YtdadoignenffgaaGreatDoorSvAllG5
import Derived.Lib.Join
import Derived.Deep.DeepCutAuto
import Derived.Deep.Cut
import Derived.Deep.RegionHeld3
import Derived.Outline
set_option linter.unusedVariables false
set_option linter.unusedSimpArgs false
namespace Go.Proofs.YtdadoignenffgaaGreatDoor
variable{α:Type}{w w':World}{a:j6}{n k base' base bytes:Nat}{v:Value}{d:Int}
set_option maxHeartbeats 16000000
open Go.RowKit
structure Enc(α:Type) where
 enc:α->List Value
 c:Nat
 hc:∀x,(enc x).length=c
 pos:0<c
 one:∀x,∀u∈enc x,u.oneCell'=true
def Enc.all{α:Type}(E:Enc α)(l:List α):List Value:=l.flatMap E.enc
theorem Enc.all_append(E:Enc α)(l G:List α):E.all (l++G)=E.all l++E.all G:=by simp[Enc.all]
theorem Enc.all_cons(E:Enc α)(x:α)(l:List α):E.all (x::l)=E.enc x++E.all l:=by simp[Enc.all]
theorem Enc.Au(E:Enc α):∀l:List α,(E.all l).length=l.length*E.c
 | []=>by simp[Enc.all]
 | x::l=>by rw[E.all_cons,List.length_append,E.hc,E.Au l,List.length_cons,Nat.succ_mul,Nat.add_comm]
theorem Enc.Gb(E:Enc α):∀{l:List α} {k j:Nat} {x:α} {v:Value},l[k]?=some x->(E.enc x)[j]?=some v->(E.all l)[k*E.c+j]?=some v
 | [],k,j,x,v,h,_=>by simp at h
 | y::l,0,j,x,v,h,hj=>by
   simp only[List.getElem?_cons_zero,Option.some.injEq]at h;subst h;have hl:=(List.getElem?_eq_some_iff.1 hj).1;rw[E.all_cons,Nat.zero_mul,Nat.zero_add,List.getElem?_append_left hl,hj]
 | y::l,k+1,j,x,v,h,hj=>by
   simp only[List.getElem?_cons_succ]at h;rw[E.all_cons,List.getElem?_append_right (by rw[E.hc,Nat.succ_mul];omega),E.hc];rw[show(k+1)*E.c+j-E.c=k*E.c+j by rw[Nat.succ_mul];omega];exact E.Gb h hj
theorem Enc.NI(E:Enc α)(l:List α):∀u∈E.all l,u.oneCell'=true:=by
 intro u hu;obtain⟨x,_,hx⟩:=List.mem_flatMap.1 hu;exact E.one x u hx
theorem Enc.split(E:Enc α){l:List α}{i:Nat}{u:Value}(h:(E.all l)[i]?=some u):∃k j x,i=k*E.c+j/\l[k]?=some x/\(E.enc x)[j]?=some u:=by
 have hi:i<l.length*E.c:=by have:=(List.getElem?_eq_some_iff.1 h).1;rwa [E.Au]at this
 have hp:=E.pos;have hk:i/E.c<l.length:=(Nat.div_lt_iff_lt_mul hp).2 hi;have hm:i % E.c<E.c:=Nat.mod_lt _ hp;have he:i=i/E.c*E.c+i % E.c:=by rw[Nat.mul_comm];exact(Nat.div_add_mod i E.c).symm
 refine⟨i/E.c,i % E.c,l[i/E.c],he,List.getElem?_eq_getElem hk,?_⟩;have G:i % E.c<(E.enc l[i/E.c]).length:=by rw[E.hc];exact hm
 have:=E.Gb (List.getElem?_eq_getElem hk) (List.getElem?_eq_getElem G);rw[<-he,h]at this;rw[List.getElem?_eq_getElem G,this]
structure yM{α:Type}(E:Enc α)(w:World)(a:j6)(n cap:Nat)(l:List α):Prop where
 hlen:l.length=n
 l8:n<=cap
 o0:cap<=9223372036854775807
 cell:∀k,k<n->∃b off,a=some ⟨b,off,none⟩/\∀k x j v,l[k]?=some x->(E.enc x)[j]?=some v->w.cell? ⟨b,off+k*E.c+j,none⟩=some v
theorem yM.ext{E:Enc α}{cap:Nat}{l:List α}(h:yM E w a n cap l)(hx:Ext w w'):yM E w' a n cap l :=
 ⟨h.hlen,h.l8,h.o0,fun k hk=>let⟨b,off,e,hc⟩:=h.cell k hk;⟨b,off,e,fun k x j v h1 h2=>hx.j9 (hc k x j v h1 h2)⟩⟩
theorem yM.at{E:Enc α}{cap:Nat}{l:List α}(h:yM E w a n cap l)(hk:k<n):
 ∃b off x,a=some ⟨b,off,none⟩/\l[k]?=some x/\∀j v,(E.enc x)[j]?=some v->w.cell? ⟨b,off+k*E.c+j,none⟩=some v :=
 let⟨b,off,e,hc⟩:=h.cell k hk
 have hl:k<l.length:=by rw[h.hlen];exact hk
 ⟨b,off,l[k],e,List.getElem?_eq_getElem hl,fun j v hj=>hc k _ j v (List.getElem?_eq_getElem hl) hj⟩
theorem es{l:List α}{x:α}(h:l[k]?=some x):l.take (k+1)=l.take k++[x]:=by
 obtain⟨hk,rfl⟩:=List.getElem?_eq_some_iff.1 h;rw[List.take_succ_eq_append_getElem hk]
def uT{α:Type}(E:Enc α)(t:TypeId)(w:World)(base:Nat)(v:Value)(l:List α):Prop:=w.ownsRow base t E.c v l.length (E.all l)
section
variable{α:Type}{E:Enc α}{t:TypeId}{w:World}{base:Nat}{l:List α}
theorem uT.form{v:Value}(h:uT E t w base v l):∃a cap,v=.slice a l.length cap/\l.length<=cap/\cap<=9223372036854775807:=by
 rcases h.2 with⟨rfl,h0⟩|⟨g,cap,cur,rfl,_,_,h1,h2,_⟩
 ·exact⟨none,0,by rw[h0],by omega,by omega⟩
 ·exact⟨_,cap,rfl,h1,by simpa[maxLen]using h2⟩
theorem uT.var{v:Value}(h:uT E t w base v l):∃a n cap,v=.slice a n cap/\b7 (l.length=n):=by
 obtain⟨a,cap,e,_⟩:=h.form;exact⟨a,_,cap,e,rfl⟩
theorem uT.A2{a:j6}{n cap:Nat}(h:uT E t w base (.slice a n cap) l):yM E w a n cap l:=by
 rcases h.2 with⟨he,h0⟩|⟨g,cap',cur,he,_,hg,h1,h2,hs,ht⟩
 ·simp only[Value.slice.injEq]at he;obtain⟨rfl,rfl,rfl⟩:=he;exact⟨h0,Nat.le_refl _,by omega,fun k hk=>absurd hk e7⟩
 ·simp only[Value.slice.injEq]at he;obtain⟨rfl,rfl,rfl⟩:=he;refine⟨rfl,h1,by simpa[maxLen]using h2,fun k hk=>⟨g,0,rfl,fun k x j v hx hv=>?_⟩⟩;rw[Nat.zero_add,cell_of_row w g _ cur _ (0,0) hg];have q:=E.Gb hx hv;rw[<-ht,List.getElem?_take]at q
  split at q
  ·simpa using q
  ·cases q
theorem uT.lt{v:Value}(h:uT E t w base v l):∀k,v.ownBlock=some k->base<=k/\k<w.heap.size:=World.ownsRow.lt h
theorem uT.keep{w':World}{v:Value}(h:uT E t w base v l)(hk:∀k,v.ownBlock=some k->w'.heap[k]?=w.heap[k]?):uT E t w' base v l:=by
 refine⟨h.1,?_⟩
 rcases h.2 with hn|⟨g,cap,cur,rfl,hb,G,rest⟩
 ·exact .inl hn
 ·exact .inr ⟨g,cap,cur,rfl,hb,(hk g rfl).trans G,rest⟩
theorem uT.ext{w':World}{v:Value}(h:uT E t w base v l)(hx:Ext w w'):uT E t w' base v l:=h.keep fun k hk=>hx.block k (h.lt k hk).2
theorem uT.mono{base':Nat}{v:Value}(h:uT E t w base v l)(hb:base'<=base):uT E t w base' v l:=by
 refine⟨h.1,?_⟩
 rcases h.2 with hn|⟨g,cap,cur,rfl,xS,rest⟩
 ·exact .inl hn
 ·exact .inr ⟨g,cap,cur,rfl,by omega,rest⟩
theorem uT.nil(E:Enc α)(t:TypeId)(w:World)(base:Nat):uT E t w base (.slice none 0 0) []:=World.ownsRow_nil w base t _
theorem uT.block{a:j6}{n cap:Nat}(h:uT E t w base (.slice a n cap) l){k:Nat}(hk:k<n):∃g,a=some ⟨g,0,none⟩/\base<=g/\(∀j,w.frozen? ⟨g,j,none⟩=false)/\g<w.heap.size:=by
 rcases h.2 with⟨he,h0⟩|⟨g,cap',cur,he,hb,hg,_⟩
 ·simp only[Value.slice.injEq]at he;omega
 ·simp only[Value.slice.injEq]at he;obtain⟨rfl,_⟩:=he;exact⟨g,rfl,hb,fun j=>frozen_of_row w g j cur _ hg,lt_of_block hg⟩
theorem uT.wJ(E:Enc α)(t:TypeId)(W:World)(base:Nat)(n:Nat)(hn:n=W.heap.size)(hb:base<=W.heap.size):uT E t (W.alloc (.cells #[] t)) base (.slice (some ⟨n,0,none⟩) 0 0) []:=by
 subst hn;exact World.ownsRow_lit W #[] 0 hb e7 e8
theorem uT.lit(E:Enc α)(t:TypeId)(W:World)(base:Nat)(l:List α)(cs:Array Value)(G:cs=(E.all l).toArray)(n:Nat)(hn:n=W.heap.size)(hb:base<=W.heap.size)(hm:l.length<=1099511627776):uT E t (W.alloc (.cells cs t)) base (.slice (some ⟨n,0,none⟩) l.length l.length) l:=by
 subst hn G;refine⟨E.Au l,.inr ⟨_,l.length,(E.all l).toArray,rfl,hb,heap_alloc_new W _,Nat.le_refl _,by simp[maxLen];omega,by simp[E.Au],?_⟩⟩
 show List.take _ (E.all l)=_;exact List.take_of_length_le (by rw[E.Au];exact Nat.le_refl _)
theorem aU{w:World}{base base':Nat}{e e':TypeId}{s K:Nat}{v J:Value}{n O:Nat}{xs G:List Value}(hne:e≠e')(h:w.ownsRow base e s v n xs)(h':w.ownsRow base' e' K J O G):∀k,v.ownBlock=some k->J.ownBlock≠some k:=by
 intro k hk Bn
 rcases h.2 with⟨rfl,_⟩|⟨g,cap,cur,rfl,_,hg,_⟩
 ·simp[Value.ownBlock]at hk
 ·rcases h'.2 with⟨rfl,_⟩|⟨g',cap',cur',rfl,_,I,_⟩
  ·simp[Value.ownBlock]at Bn
  ·simp only[Value.ownBlock,Option.some.injEq]at hk Bn;subst hk Bn;rw[hg]at I;simp only[Option.some.injEq,Obj.cells.injEq]at I;exact hne I.2.1
theorem an{w:World}{base g:Nat}{e e':TypeId}{s:Nat}{v:Value}{n:Nat}{xs:List Value}{c:Array Value}{z:Nat×Nat}(h:w.ownsRow base e s v n xs)(hb:w.heap[g]?=some (.cells c e' z))(hne:e≠e'):some g≠v.ownBlock:=by
 intro hk
 rcases h.2 with⟨rfl,_⟩|⟨g',cap,cur,rfl,_,hg,_⟩
 ·simp[Value.ownBlock]at hk
 ·simp only[Value.ownBlock,Option.some.injEq]at hk;subst hk;rw[hg]at hb;simp only[Option.some.injEq,Obj.cells.injEq]at hb;exact hne hb.2.1
theorem yM.lit(E:Enc α)(t:TypeId)(W:World)(l:List α)(m:Nat)(hm:l.length=m)(cs:Array Value)(G:cs=(E.all l).toArray)(n:Nat)(hn:n=W.heap.size)(hb:m<=1099511627776):yM E (W.alloc (.cells cs t)) (some ⟨n,0,none⟩) m m l:=by
 subst hm;exact(uT.lit E t W 0 l cs G n hn (Nat.zero_le _) hb).A2
end
section
variable{α:Type}{E:Enc α}{t:TypeId}{P:Program}{w:World}{ops:Array Oper}{rest:List Oper}{o:Oper}{a:Act}{Q:Exit->Act->World->Prop}
theorem eX{K:Act->World->Prop}{U:TypeId}{z:Value}{bytes:Nat}(E:Enc α)(I:(P.info? t).map (fun i=>(i.zero,i.size,i.bytes))=some (some z,E.c,bytes))(hz:z.cells.size=E.c)(ht:P.underlying U=some (.slice t))(hby:bytes<=64)
 (s x:Operand) (ho:o.op=.call { callee:=.builtin .append,args:=#[s,x],argTypes:=#[U,U] })
 (base:Nat) (v:Value) (l:List α) (hs:a.eval s=v) (Z:uT E t w base v l) (ao:j6) (m c:Nat) (W:List α) (hx:a.eval x=.slice ao m c) (J:yM E w ao m c W) (hb:l.length+m<=1099511627776) (G:base<=w.heap.size)
 (h:∀O w',uT E t w' base O (l++W)->w.grownBy w' v.ownBlock->y9 w v O->K (a.put o.dst O) w'):o.wp P a w K Q:=by
 obtain⟨i,hi,xr,Cm,A4⟩:∃i,P.info? t=some i/\i.zero=some z/\i.size=E.c/\i.bytes=bytes:=by
  cases hq:P.info? t with
  | none=>rw[hq]at I;simp at I
  | some i=>rw[hq]at I;simp at I;exact⟨i,rfl,I.1,I.2.1,I.2.2⟩
 cases ao with
 | none =>
   have hm:m=0:=by
    rcases Nat.eq_zero_or_pos m with h0|h0
    ·exact h0
    ·obtain⟨b,off,e,_⟩:=J.cell 0 h0;cases e
   subst hm;have hl:W=[]:=List.eq_nil_of_length_eq_zero J.hlen;subst hl;refine eU w s x U ho base t i E.c ht hi v l.length _ hs Z c hx ?_;exact h v w (by simpa using Z) (World.grownBy.refl _ _) (y9.refl _ _)
 | some ad =>
   refine el w s x U ho base t i z E.c bytes ht hi xr Cm A4 hz E.pos v l.length (E.all l) hs Z ad m c (E.all W) hx (by rw[E.Au,J.hlen]) ?_ (E.NI W) (by simp[maxLen];omega) (j1 (Nat.mul_le_mul hb hby)) G ?_
   ·intro i u hu;obtain⟨k,j,y,he,hk,hj⟩:=E.split hu;have Ab:k<m:=by rw[<-J.hlen];exact(List.getElem?_eq_some_iff.1 hk).1
    obtain⟨b,off,e,hc⟩:=J.cell k Ab;simp only[Option.some.injEq]at e;subst e;have ha:∀k,(⟨b,off,none⟩:Addr).add k=⟨b,off+k,none⟩:=fun k=>by unfold Addr.add;split<;>simp_all
    rw[ha,he,<-Nat.add_assoc];exact hc k y j u hk hj
   ·intro O w' h1 h2 h3;refine h O w' ?_ h2 h3;unfold uT;rw[List.length_append,J.hlen,E.all_append];exact h1
theorem en{J:TypeId}{z:Value}{bytes:Nat}(E:Enc α)(Ac:(P.info? t).map (fun i=>(i.zero,i.size,i.bytes))=some (some z,E.c,bytes))(hz:z.cells.size=E.c)(ht:P.underlying J=some (.slice t))(O:bytes<=64)(D0:o.guard=none)
 (s x:Operand) (Z:o.op=.call { callee:=.builtin .append,args:=#[s,x],argTypes:=#[J,J] })
 (base:Nat) (v:Value) (l:List α) (hs:a.eval s=v) (W:uT E t w base v l) (U:j6) (m c:Nat) (K:List α) (hx:a.eval x=.slice U m c) (AS:yM E w U m c K) (hb:l.length+m<=1099511627776) (G:base<=w.heap.size)
 (h:∀I w',uT E t w' base I (l++K)->w.grownBy w' v.ownBlock->y9 w v I->wpList P ops Q rest (a.put o.dst I) w'):wpList P ops Q (o::rest) a w :=
 wpList_plain D0 fun _ hK=>eX E Ac hz ht O s x Z base v l hs W U m c K hx AS hb G fun I w' h1 h2 h3=>hK _ _ (h I w' h1 h2 h3)
end
def gI(a b:Int):Int:=(Int.gcd a b:Int)
theorem ro(a b:Int):gI b (a.tmod b)=gI a b:=by
 unfold gI Int.gcd;rw[Int.natAbs_tmod,Nat.gcd_comm b.natAbs,<-Nat.gcd_rec,Nat.gcd_comm]
theorem mv(a:Int):gI a 0=(a.natAbs:Int):=by simp[gI]
theorem gD(a b:Int):gI (-a) b=gI a b:=by simp[gI,Int.gcd]
theorem jK(a b:Int):gI a (-b)=gI a b:=by simp[gI,Int.gcd]
theorem jq(a:Int){b:Int}(h:b≠0):1<=gI a b:=by
 unfold gI;have:0<Int.gcd a b:=Int.gcd_pos_of_ne_zero_right a h;omega
theorem nh(a b:Int):0<=gI a b:=by unfold gI;omega
theorem GJ(a:Int){b:Int}(h:b≠0):gI a b<=b.natAbs:=by
 unfold gI Int.gcd
 exact_mod_cast Nat.gcd_le_right _ e7
theorem mu(a b:Int):gI a b∣a:=Int.gcd_dvd_left ..
theorem jJ(a b:Int):gI a b∣b:=Int.gcd_dvd_right ..
def o9(p:j8):Bool:=r' p.2 1 1000000000&&(r' p.1 (-1000000000) 1000000000&&decide (gI p.1 p.2=1))
theorem aL{p:j8}(h:o9 p=true):1<=p.2/\p.2<=1000000000/\-1000000000<=p.1/\p.1<=1000000000:=by
 simp only[o9,r',Bool.and_eq_true,decide_eq_true_eq]at h;omega
theorem ib(x y:Int):o9 (-x,y)=o9 (x,y):=by
 have h1:r' (-x) (-1000000000) 1000000000=r' x (-1000000000) 1000000000:=by
  unfold r';have e1:decide (-1000000000<=-x)=decide (x<=1000000000):=by by_cases h:x<=1000000000<;>simp[h]<;>omega
  have e2:decide (-x<=1000000000)=decide (-1000000000<=x):=by by_cases h:-1000000000<=x<;>simp[h]<;>omega
  rw[e1,e2,Bool.and_comm]
 simp only[o9,gD,h1]
def xI(p:j8):(Int×Int)×Bool:=if o9 p=true then(p,true) else((0,0),false)
def az(n d:Int):(Int×Int)×Bool :=
 if d=0∨r' n (-1000000000000000000) 1000000000000000000=false∨r' d (-1000000000000000000) 1000000000000000000=false then((0,0),false)
 else if d<0 then xI (n.tdiv (-gI n d),d.tdiv (-gI n d)) else xI (n.tdiv (gI n d),d.tdiv (gI n d))
theorem oI{p:j8}(h:(xI p).2=true):o9 (xI p).1=true:=by
 unfold xI at h⊢
 split at h
 ·next h1=>rw[if_pos h1];exact h1
 ·simp at h
theorem ip{n:Int}(h:(az n d).2=true):o9 (az n d).1=true:=by
 unfold az at h⊢
 split at h
 ·simp at h
 ·next h1 =>
  rw[if_neg h1]
  split at h
  ·next h2=>rw[if_pos h2];exact oI h
  ·next h2=>rw[if_neg h2];exact oI h
theorem Jc{n:Int}(h:(az n d).2=false):(az n d).1=(0,0):=by
 unfold az xI at h⊢
 split at h
 ·next h1=>rw[if_pos h1]
 ·next h1 =>
  rw[if_neg h1]
  split at h
  ·next h2 =>
   rw[if_pos h2]
   split at h
   ·simp at h
   ·next h3=>rw[if_neg h3]
  ·next h2 =>
   rw[if_neg h2]
   split at h
   ·simp at h
   ·next h3=>rw[if_neg h3]
theorem jp(n d:Int)(hd:0<d):gI (n.tdiv (gI n d)) (d.tdiv (gI n d))=1:=by
 have hg:=jq n (show d≠0 by omega);obtain⟨k,hk⟩:=mu n d;obtain⟨m,hm⟩:=jJ n d;have h1:n.tdiv (gI n d)=k:=by
    conv=>lhs;arg 1;rw[hk]
    exact Int.mul_tdiv_cancel_left _ e7
 have h2:d.tdiv (gI n d)=m:=by
    conv=>lhs;arg 1;rw[hm]
    exact Int.mul_tdiv_cancel_left _ e7
 rw[h1,h2];have h3:gI (gI n d*k) (gI n d*m)=gI n d:=by rw[<-hk,<-hm]
 have h4:gI (gI n d*k) (gI n d*m)=gI n d*gI k m:=by
  show((Int.gcd _ _:Nat):Int)=_;rw[Int.gcd_mul_left];have:((gI n d).natAbs:Int)=gI n d:=by omega
  rw[Int.natCast_mul,this]
  rfl
 rw[h3]at h4;have h5:gI n d*1=gI n d*gI k m:=by omega
 have:=Int.eq_of_mul_eq_mul_left e7 h5;omega
theorem kZ(n g:Int)(hg:1<=g):(n.tdiv g).natAbs<=n.natAbs:=by
 rw[Int.natAbs_tdiv];exact Nat.div_le_self _ _
theorem Jb{n:Int}(hd:1<=d)(hd':d<=1000000000)(h:-1000000000<=n)(h':n<=1000000000):(az n d).2=true:=by
 have hg:=jq n (show d≠0 by omega);have Ev:=GJ n (show d≠0 by omega);unfold az;rw[if_neg (by simp[r'];omega),if_neg e7];unfold xI;have h1:=kZ n (gI n d) hg;have h2:=kZ d (gI n d) hg;have h3:1<=d.tdiv (gI n d):=by
  obtain⟨m,hm⟩:=jJ n d;have h2:d.tdiv (gI n d)=m:=by
     conv=>lhs;arg 1;rw[hm]
     exact Int.mul_tdiv_cancel_left _ e7
  rw[h2]
  rcases Int.lt_or_le 0 m with h|h
  ·omega
  ·have:gI n d*m<=0:=Int.mul_nonpos_of_nonneg_of_nonpos e7 h;omega
 rw[if_pos];simp only[o9,r',jp n d e7,Bool.and_eq_true,decide_eq_true_eq,and_true];omega
def we(a b:j8):(Int×Int)×Bool:=if(o9 a&&o9 b)=true then az (a.1*b.2+b.1*a.2) (a.2*b.2) else((0,0),false)
def vD(a b:j8):(Int×Int)×Bool:=if(o9 a&&o9 b)=true then az (a.1*b.2-b.1*a.2) (a.2*b.2) else((0,0),false)
def mulR(a b:j8):(Int×Int)×Bool:=if(o9 a&&o9 b)=true then az (a.1*b.1) (a.2*b.2) else((0,0),false)
def xk(a b:j8):(Int×Int)×Bool:=if(o9 a&&o9 b)=true then az (a.1*b.2) (a.2*b.1) else((0,0),false)
def vP(a b:j8):Int:=if(o9 a&&o9 b)=true then(if a.1*b.2<b.1*a.2 then -1 else if b.1*a.2<a.1*b.2 then 1 else 0) else 0
theorem qk(a b:j8):we a (-b.1,b.2)=vD a b:=by
 unfold we vD;rw[ib,Int.neg_mul,<-Int.sub_eq_add_neg]
theorem Js{x y:Int}(h1:-1000000000<=x)(h2:x<=1000000000)(h3:-1000000000<=y)(h4:y<=1000000000):-1000000000000000000<=x*y/\x*y<=1000000000000000000:=by
 have hx:x.natAbs<=1000000000:=by omega
 have hy:y.natAbs<=1000000000:=by omega
 have h:(x*y).natAbs<=1000000000*1000000000:=by
  rw[Int.natAbs_mul];exact Nat.mul_le_mul hx hy
 omega
def vI:Enc (List UInt8):=⟨fun l=>[.string (bs l)],1,fun _=>rfl,by decide,fun x u hu=>by rw[List.mem_singleton.1 hu];rfl⟩
def D5:Enc UInt8:=⟨fun c=>[.int .u8 (c.toNat:Int)],1,fun _=>rfl,by decide,fun x u hu=>by rw[List.mem_singleton.1 hu];rfl⟩
theorem oD(l:List UInt8)(a b:Nat):(bs l).extract a b=bs ((l.take b).drop a):=by
 unfold bs
 apply ByteArray.ext
 simp[ByteArray.data_extract,List.drop_take]
theorem T7(l:List UInt8)(a:Nat):(bs l).extract a (bs l).size=bs (l.drop a):=by
 rw[oD,aQ,List.take_length]
theorem lj{l:List UInt8}{i:Nat}(h:i<(bs l).size):(bs l)[i]=l[i]?.getD 0:=by
 rw[aQ]at h;rw[List.getElem?_eq_getElem h]
 rfl
theorem ot{l:List UInt8}{m:Nat}(ha:(l.take k).all bV=true)(hk:k<=m)(hm:m<=12):vM (l.take k)<1000000000000:=by
 have h:=rO _ ha;have h2:(l.take k).length<=12:=by rw[List.length_take];omega
 have h3:10^(l.take k).length<=10^12:=Nat.pow_le_pow_right (by decide) h2;omega
def wO(r:j8):List UInt8:=if o9 r=true then(if r.2=1 then Lib.itoa r.1 else Lib.itoa r.1++([47]++Lib.itoa r.2)) else []
theorem Ja(r:j8):(wO r).length<=50:=by
 unfold wO
 split
 ·next h =>
  unfold o9 r' at h;simp only[Bool.and_eq_true,decide_eq_true_eq]at h;have h1:=Lib.itoa_length_le r.1 e7 e7;have h2:=Lib.itoa_length_le r.2 e7 e7
  split
  ·omega
  ·simp only[List.length_append,List.length_cons,List.length_nil];omega
 ·simp
def AK(l:j4):List UInt8:=Lib.join (l.map wO) [32]
theorem tV{L:List (List UInt8)}{x s:List UInt8}(h:L≠[]):Lib.join (L++[x]) s=Lib.join L s++s++x:=by
 cases L with
 | nil=>exact absurd rfl h
 | cons y r =>
   rw[List.cons_append,Lib.join_cons,Lib.join_cons];unfold Lib.joinTail;simp
theorem Jz{L:List (List UInt8)}{m:Nat}(h:∀x∈L,x.length<=m):(Lib.join L [32]).length<=L.length*(m+1):=by
 cases L with
 | nil=>simp[Lib.join_nil]
 | cons y r =>
   rw[Lib.join_cons,List.length_append];have hr:∀q:List (List UInt8),(∀x∈q,x.length<=m)->(Lib.joinTail [32] q).length<=q.length*(m+1):=by
    intro q
    induction q with
    | nil=>intro _;simp[Lib.joinTail]
    | cons z q ih =>
      intro hq;have h1:=ih fun x hx=>hq x (List.mem_cons_of_mem _ hx)
      have h2:=hq z List.mem_cons_self;unfold Lib.joinTail at h1⊢;simp only[List.map_cons,List.flatten_cons,List.length_append,List.length_cons,List.length_nil]at h1⊢;rw[Nat.succ_mul];omega
   have h1:=hr r fun x hx=>h x (List.mem_cons_of_mem _ hx)
   have h2:=h y List.mem_cons_self;rw[List.length_cons,Nat.succ_mul];omega
theorem fE{l:j4}:(AK l).length<=l.length*51:=by
 have:=Jz (L:=l.map wO) (m:=50) (fun x hx=>by obtain⟨r,_,rfl⟩:=List.mem_map.1 hx;exact Ja r);rw[List.length_map]at this;exact this
def fG(c:Int):List UInt8:=if c=0 then [98,97,100] else if c=1 then [112,111,105,110,116] else if c=2 then [101,109,112,116,121] else if c=3 then [108,105,109,105,116] else [63]
theorem mT(c:Int):(fG c).length<=5:=by
 unfold fG
 repeat' split
 all_goals simp
set_option maxRecDepth 100000
theorem Tryz.zt:(Tryz.prog.info? 9).map (fun i=>(i.zero,i.size,i.bytes))=some (some (.string ⟨#[]⟩),vI.c,16):=by kernel_rfl
theorem rK{c:UInt8}{l:List UInt8}(h:l[k]?.getD 0=c):wN c l (k+1)=((wN c l k).1++[(l.take k).drop (wN c l k).2],k+1):=by rw[wN,if_pos h]
theorem qg{c:UInt8}{l:List UInt8}(h:l[k]?.getD 0≠c):wN c l (k+1)=wN c l k:=by rw[wN,if_neg h]
theorem kh(l:List UInt8)(c:UInt8)(hl:l.length<=1099511627700):
 Calls Tryz.prog 57 #[.string (bs l),.int .u8 (c.toNat:Int)] w fun e w'=>∃v,e=.returned v/\uT vI 9 w' w.heap.size v (vV c l)/\Ext w w':=by
 obtain⟨t,ht⟩:=b9 (bs l);have hs:t.size=l.length:=by rw[ht,aQ]
 have HS:=ae hs;have HB:=ae (show t.size<=1099511627700 by omega);have Z:=ae (show∀(k:Nat) (h:k<t.size),t[k]=l[k]?.getD 0 by subst ht;intro k h;exact lj h);have HX:=ae (show∀a b,t.extract a b=bs ((l.take b).drop a)by subst ht;exact fun a b=>oD l a b);have HO:=ae (uT.wJ vI 9 w w.heap.size _ rfl (Nat.le_refl _));rw[<-ht];clear ht hs;go_enter Tryz.func57,Tryz.ntmps57
 go_wp2_with fail
 go_loopg [5,6,7] t.size (fun gk oo ff ii wr=>∃(k q n G:Nat) (a:j6) (L:List (List UInt8)),b7 (gk+k=t.size)/\oo=.slice a n G/\ff=.int .i64 (q:Int)/\ii=.int .i64 (k:Int)/\b7 (wN c l k=(L,q))/\b7 (uT vI 9 wr w.heap.size (.slice a n G) L)/\b7 (Ext w wr))
 case atStart=>exact⟨0,0,0,0,_,[],ae rfl,rfl,rfl,rfl,ae rfl,HO,ae (Ext.alloc _ _)⟩
 case round =>
  obtain⟨g1,O⟩:=b9 gk;subst O;obtain⟨wr,K⟩:=b9 wr;subst K;obtain⟨k,q,n,G,a,L,I,rfl,rfl,rfl,HP,vw,vh⟩:=hrel;have HQ:=ae (show q<=k/\L.length<=k by have:=jQ c l k;rw[HP.o]at this;exact this);have hq:q<=k:=HQ.o.1;have xL:=HB.o;have xg:=ae (show L.length<=1099511627700 by have:=HQ.o.2;have:=I.o;omega);by_cases hk:k<t.size
  ·obtain⟨x,hx⟩:=b9 (l[k]?.getD 0);have hkx:∀h:k<t.size,t[k]=x:=fun h=>by rw[Z.o k h,hx]
   have QS:=ae hx;clear hx;by_cases hc:x=c
   ·subst hc;have zP:=ae (yM.lit vI 9 wr [(l.take k).drop q] 1 rfl #[.string (t.extract q k)] (by rw[HX.o];rfl) wr.heap.size rfl e7)
    go_wp2_with (first
     | (at_builtin;refine en vI Tryz.zt rfl Tryz.underlying53 (by decide) rfl _ _ rfl w.heap.size (.slice a n G) L rfl (vw.o.ext (Ext.alloc _ _)) _ 1 1 [(l.take k).drop q] rfl zP.o (j1 xg.o) (by have:=vh.o.size;simp;omega) ?_;intro v6 w6 ho hg l7;obtain⟨W,U,c6,rfl,Eh⟩:=ho.var;have J:=ae ho;have BA:=ae (ak (vh.o.trans (Ext.alloc _ _)) hg (fun j hj=>(vw.o.lt j hj).1));clear ho hg l7))
    go_roundg (g1-1)
    case measure=>have:=I.o;omega
    case rel=>exact⟨k+1,k+1,U,c6,W,_,ae (j1 I.o),rfl,by go_num,by go_num,ae (by rw[rK QS.o.symm,HP.o]),J,BA⟩
   ·have hne:((x.toNat:Int) == (c.toNat:Int))=false:=by
     rw[beq_eq_false_iff_ne];intro e;exact hc (UInt8.toNat_inj.1 e7)
    go_wp2_with fail
    go_roundg (g1-1)
    case measure=>have:=I.o;omega
    case rel=>exact⟨k+1,q,n,G,a,L,ae (j1 I.o),rfl,rfl,by go_num,ae (by rw[qg (by rw[<-QS.o];exact hc)];exact HP.o),vw,vh⟩
  ·have Dl:k=t.size:=by have:=I.o;omega
   have HE:=ae (show vV c l=L++[l.drop q]by unfold vV;rw[<-HS.o,<-Dl,HP.o]);have HD:=ae (show(l.take t.size).drop q=l.drop q by rw[HS.o,List.take_length]);have zP:=ae (yM.lit vI 9 wr [l.drop q] 1 rfl #[.string (t.extract q t.size)] (by rw[HX.o,HD.o];rfl) wr.heap.size rfl e7)
   go_wp2_with (first
    | (at_builtin;refine en vI Tryz.zt rfl Tryz.underlying53 (by decide) rfl _ _ rfl w.heap.size (.slice a n G) L rfl (vw.o.ext (Ext.alloc _ _)) _ 1 1 [l.drop q] rfl zP.o (j1 xg.o) (by have:=vh.o.size;simp;omega) ?_;intro v6 w6 ho hg l7;have BA:=ae (ak (vh.o.trans (Ext.alloc _ _)) hg (fun j hj=>(vw.o.lt j hj).1));clear hg l7))
   go_ret;exact⟨_,rfl,by rw[HE.o];exact ho,BA.o⟩
theorem it(l:List UInt8)(c:UInt8)(hl:l.length<=1099511627700):
 Calls Tryz.prog 36 #[.string (bs l),.int .u8 (c.toNat:Int)] w fun e w'=>∃v,e=.returned v/\uT vI 9 w' w.heap.size v (vV c l)/\Ext w w':=by
 obtain⟨t,ht⟩:=b9 (bs l);have hs:t.size=l.length:=by rw[ht,aQ]
 have HS:=ae hs;have HB:=ae (show t.size<=1099511627700 by omega);have GY:=ae (show∀(k:Nat) (h:k<t.size),t[k]=l[k]?.getD 0 by subst ht;intro k h;exact lj h);have HX:=ae (show∀a b,t.extract a b=bs ((l.take b).drop a)by subst ht;exact fun a b=>oD l a b);have HO:=ae (uT.wJ vI 9 w w.heap.size _ rfl (Nat.le_refl _));rw[<-ht];clear ht hs;go_enter Tryz.func36,Tryz.ntmps36
 go_wp2_with fail
 go_loopg [5,6,7] (t.size+1) (fun gk oo ff ii wr=>∃(k q n G:Nat) (a:j6) (L:List (List UInt8)),b7 (gk+k=t.size+1)/\oo=.slice a n G/\ff=.int .i64 (q:Int)/\ii=.int .i64 (k:Int)/\b7 (if k<=t.size then wN c l k=(L,q) else L=vV c l)/\b7 (uT vI 9 wr w.heap.size (.slice a n G) L)/\b7 (Ext w wr))
 case atStart=>exact⟨0,0,0,0,_,[],ae e7,rfl,rfl,rfl,ae (by rw[if_pos e7];rfl),HO,ae (Ext.alloc _ _)⟩
 case round =>
  obtain⟨g1,Z⟩:=b9 gk;subst Z;obtain⟨wr,W⟩:=b9 wr;subst W;obtain⟨k,q,n,G,a,L,I,rfl,rfl,rfl,Bh,vw,vh⟩:=hrel;have xL:=HB.o;by_cases yx:k<=t.size
  ·have HP:=ae (show wN c l k=(L,q)by have:=Bh.o;rwa [if_pos yx]at this);clear Bh;have HQ:=ae (show q<=k/\L.length<=k by have:=jQ c l k;rw[HP.o]at this;exact this);have hq:q<=k:=HQ.o.1;have xg:=ae (show L.length<=1099511627700 by have:=HQ.o.2;omega);by_cases hk:k<t.size
   ·obtain⟨x,hx⟩:=b9 (l[k]?.getD 0);have hkx:∀h:k<t.size,t[k]=x:=fun h=>by rw[GY.o k h,hx]
    have QS:=ae hx;have O:((k:Int) == (t.size:Int))=false:=by simp;omega
    clear hx;by_cases hc:x=c
    ·subst hc;have zP:=ae (yM.lit vI 9 wr [(l.take k).drop q] 1 rfl #[.string (t.extract q k)] (by rw[HX.o];rfl) wr.heap.size rfl e7)
     go_wp2_with (first
     | (at_builtin;refine en vI Tryz.zt rfl Tryz.underlying53 (by decide) rfl _ _ rfl w.heap.size (.slice a n G) L rfl (vw.o.ext (Ext.alloc _ _)) _ 1 1 [(l.take k).drop q] rfl zP.o (j1 xg.o) (by have:=vh.o.size;simp;omega) ?_;intro v6 w6 ho hg l7;obtain⟨U,K,c6,rfl,Eh⟩:=ho.var;have J:=ae ho;have BA:=ae (ak (vh.o.trans (Ext.alloc _ _)) hg (fun j hj=>(vw.o.lt j hj).1));clear ho hg l7))
     go_roundg (g1-1)
     case measure=>have:=I.o;omega
     case rel=>exact⟨k+1,k+1,K,c6,U,_,ae (j1 I.o),rfl,by go_num,by go_num,ae (by rw[if_pos e7,rK QS.o.symm,HP.o]),J,BA⟩
    ·have hne:((x.toNat:Int) == (c.toNat:Int))=false:=by
      rw[beq_eq_false_iff_ne];intro e;exact hc (UInt8.toNat_inj.1 e7)
     go_wp2_with fail
     go_roundg (g1-1)
     case measure=>have:=I.o;omega
     case rel=>exact⟨k+1,q,n,G,a,L,ae (j1 I.o),rfl,rfl,by go_num,ae (by rw[if_pos e7,qg (by rw[<-QS.o];exact hc)];exact HP.o),vw,vh⟩
   ·have Dl:k=t.size:=by omega
    have HE:=ae (show vV c l=L++[(l.take k).drop q]by unfold vV;rw[<-HS.o,<-Dl,HP.o];rw[show l.take k=l from List.take_of_length_le (by rw[<-HS.o];omega)]);have O:((k:Int) == (t.size:Int))=true:=by simp;omega
    have zP:=ae (yM.lit vI 9 wr [(l.take k).drop q] 1 rfl #[.string (t.extract q k)] (by rw[HX.o];rfl) wr.heap.size rfl e7);clear Dl
    go_wp2_with (first
    | (at_builtin;refine en vI Tryz.zt rfl Tryz.underlying53 (by decide) rfl _ _ rfl w.heap.size (.slice a n G) L rfl (vw.o.ext (Ext.alloc _ _)) _ 1 1 [(l.take k).drop q] rfl zP.o (j1 xg.o) (by have:=vh.o.size;simp;omega) ?_;intro v6 w6 ho hg l7;obtain⟨U,K,c6,rfl,Eh⟩:=ho.var;have J:=ae ho;have BA:=ae (ak (vh.o.trans (Ext.alloc _ _)) hg (fun j hj=>(vw.o.lt j hj).1));clear ho hg l7))
    go_roundg (g1-1)
    case measure=>have:=I.o;omega
    case rel=>exact⟨k+1,k+1,K,c6,U,_,ae (j1 I.o),rfl,by go_num,by go_num,ae (by rw[if_neg e7];exact HE.o.symm),J,BA⟩
  ·have HP:=ae (show L=vV c l by have:=Bh.o;rwa [if_neg yx]at this);clear Bh;go_wp2_with fail;go_ret;exact⟨_,rfl,by rw[<-HP.o];exact vw.o,vh.o⟩
end Go.Proofs.YtdadoignenffgaaGreatDoor
