import Derived.Test.YtalmoolkhcgmmaaGreatNqAltG1
import Derived.Test.YtalmoolkhcgmmaaGreatNqAltG0
import Derived.Test.YtalmoolkhcgmmaaGreatNqAltG2
import Derived.Test.YtalmoolkhcgmmaaGreatNqAltG5
set_option linter.unusedVariables false
set_option linter.unusedSimpArgs false
namespace Go.Proofs.YtalmoolkhcgmmaaGreat
variable{α:Type}{l:j6}{w w' w1 w2:World}{a:j8}{n k base' base s n' g bytes cap' b b1 b2:Nat}{x v v' z y:Value}{e e' t:TypeId}{xs xs' vs:List Value}{c:Array Value}
set_option maxHeartbeats 16000000
open Go.RowKit
structure Enc(α:Type) where
 enc:α->List Value
 c:Nat
 hc:∀x,(enc x).length=c
 pos:0<c
 one:∀x,∀u∈enc x,u.oneCell'=true
def Enc.all{α:Type}(E:Enc α)(l:List α):List Value:=l.flatMap E.enc
theorem Enc.all_append(E:Enc α)(l G:List α):E.all (l++G)=E.all l++E.all G:=by simp[Enc.all]
theorem Enc.all_cons(E:Enc α)(x:α)(l:List α):E.all (x::l)=E.enc x++E.all l:=by simp[Enc.all]
theorem Enc.BR(E:Enc α):∀l:List α,(E.all l).length=l.length*E.c
 | []=>by simp[Enc.all]
 | x::l=>by rw[E.all_cons,List.length_append,E.hc,E.BR l,List.length_cons,Nat.succ_mul,Nat.add_comm]
theorem Enc.Ir(E:Enc α):∀{l:List α} {k j:Nat} {x:α} {v:Value},l[k]?=some x->(E.enc x)[j]?=some v->(E.all l)[k*E.c+j]?=some v
 | [],k,j,x,v,h,_=>by simp at h
 | y::l,0,j,x,v,h,hj=>by
   simp only[List.getElem?_cons_zero,Option.some.injEq]at h;subst h;have hl:=(List.getElem?_eq_some_iff.1 hj).1;rw[E.all_cons,Nat.zero_mul,Nat.zero_add,List.getElem?_append_left hl,hj]
 | y::l,k+1,j,x,v,h,hj=>by
   simp only[List.getElem?_cons_succ]at h;rw[E.all_cons,List.getElem?_append_right (by rw[E.hc,Nat.succ_mul];omega),E.hc];rw[show(k+1)*E.c+j-E.c=k*E.c+j by rw[Nat.succ_mul];omega];exact E.Ir h hj
theorem Enc.Qx(E:Enc α)(l:List α):∀u∈E.all l,u.oneCell'=true:=by
 intro u hu;obtain⟨x,_,hx⟩:=List.mem_flatMap.1 hu;exact E.one x u hx
theorem Enc.split(E:Enc α){l:List α}{i:Nat}{u:Value}(h:(E.all l)[i]?=some u):∃k j x,i=k*E.c+j/\l[k]?=some x/\(E.enc x)[j]?=some u:=by
 have hi:i<l.length*E.c:=by have:=(List.getElem?_eq_some_iff.1 h).1;rwa [E.BR]at this
 have hp:=E.pos;have hk:i/E.c<l.length:=(Nat.div_lt_iff_lt_mul hp).2 hi;have hm:i % E.c<E.c:=Nat.mod_lt _ hp;have he:i=i/E.c*E.c+i % E.c:=by rw[Nat.mul_comm];exact(Nat.div_add_mod i E.c).symm
 refine⟨i/E.c,i % E.c,l[i/E.c],he,List.getElem?_eq_getElem hk,?_⟩;have hj:i % E.c<(E.enc l[i/E.c]).length:=by rw[E.hc];exact hm
 have:=E.Ir (List.getElem?_eq_getElem hk) (List.getElem?_eq_getElem hj);rw[<-he,h]at this;rw[List.getElem?_eq_getElem hj,this]
structure F8{α:Type}(E:Enc α)(w:World)(a:j8)(n cap:Nat)(l:List α):Prop where
 hlen:l.length=n
 o3:n<=cap
 l9:cap<=9223372036854775807
 cell:∀k,k<n->∃b off,a=some ⟨b,off,none⟩/\∀k x j v,l[k]?=some x->(E.enc x)[j]?=some v->w.cell? ⟨b,off+k*E.c+j,none⟩=some v
theorem F8.ext{E:Enc α}{cap:Nat}{l:List α}(h:F8 E w a n cap l)(hx:Ext w w'):F8 E w' a n cap l :=
 ⟨h.hlen,h.o3,h.l9,fun k hk=>let⟨b,off,e,hc⟩:=h.cell k hk;⟨b,off,e,fun k x j v h1 h2=>hx.k6 (hc k x j v h1 h2)⟩⟩
theorem F8.at{E:Enc α}{cap:Nat}{l:List α}(h:F8 E w a n cap l)(hk:k<n):
 ∃b off x,a=some ⟨b,off,none⟩/\l[k]?=some x/\∀j v,(E.enc x)[j]?=some v->w.cell? ⟨b,off+k*E.c+j,none⟩=some v :=
 let⟨b,off,e,hc⟩:=h.cell k hk
 have hl:k<l.length:=by rw[h.hlen];exact hk
 ⟨b,off,l[k],e,List.getElem?_eq_getElem hl,fun j v hj=>hc k _ j v (List.getElem?_eq_getElem hl) hj⟩
theorem il{l:List α}{x:α}(h:l[k]?=some x):l.take (k+1)=l.take k++[x]:=by
 obtain⟨hk,rfl⟩:=List.getElem?_eq_some_iff.1 h;rw[List.take_succ_eq_append_getElem hk]
def xm{α:Type}(E:Enc α)(t:TypeId)(w:World)(base:Nat)(v:Value)(l:List α):Prop:=w.ownsRow base t E.c v l.length (E.all l)
section
variable{α:Type}{E:Enc α}{t:TypeId}{w:World}{base:Nat}{l:List α}
theorem xm.form{v:Value}(h:xm E t w base v l):∃a cap,v=.slice a l.length cap/\l.length<=cap/\cap<=9223372036854775807:=by
 rcases h.2 with⟨rfl,h0⟩|⟨g,cap,cur,rfl,_,_,h1,h2,_⟩
 ·exact⟨none,0,by rw[h0],by omega,by omega⟩
 ·exact⟨_,cap,rfl,h1,by simpa[maxLen]using h2⟩
theorem xm.var{v:Value}(h:xm E t w base v l):∃a n cap,v=.slice a n cap/\b7 (l.length=n):=by
 obtain⟨a,cap,e,_⟩:=h.form;exact⟨a,_,cap,e,rfl⟩
theorem xm.KR{a:j8}{n cap:Nat}(h:xm E t w base (.slice a n cap) l):F8 E w a n cap l:=by
 rcases h.2 with⟨he,h0⟩|⟨g,cap',cur,he,_,hg,h1,h2,hs,ht⟩
 ·simp only[Value.slice.injEq]at he;obtain⟨rfl,rfl,rfl⟩:=he;exact⟨h0,Nat.le_refl _,by omega,fun k hk=>absurd hk b9⟩
 ·simp only[Value.slice.injEq]at he;obtain⟨rfl,rfl,rfl⟩:=he;refine⟨rfl,h1,by simpa[maxLen]using h2,fun k hk=>⟨g,0,rfl,fun k x j v hx hv=>?_⟩⟩;rw[Nat.zero_add,cell_of_row w g _ cur _ (0,0) hg];have q:=E.Ir hx hv;rw[<-ht,List.getElem?_take]at q
  split at q
  ·simpa using q
  ·cases q
theorem xm.lt{v:Value}(h:xm E t w base v l):∀k,v.ownBlock=some k->base<=k/\k<w.heap.size:=World.ownsRow.lt h
theorem xm.keep{w':World}{v:Value}(h:xm E t w base v l)(hk:∀k,v.ownBlock=some k->w'.heap[k]?=w.heap[k]?):xm E t w' base v l:=by
 refine⟨h.1,?_⟩
 rcases h.2 with hn|⟨g,cap,cur,rfl,hb,G,rest⟩
 ·exact .inl hn
 ·exact .inr ⟨g,cap,cur,rfl,hb,(hk g rfl).trans G,rest⟩
theorem xm.ext{w':World}{v:Value}(h:xm E t w base v l)(hx:Ext w w'):xm E t w' base v l:=h.keep fun k hk=>hx.block k (h.lt k hk).2
theorem xm.mono{base':Nat}{v:Value}(h:xm E t w base v l)(hb:base'<=base):xm E t w base' v l:=by
 refine⟨h.1,?_⟩
 rcases h.2 with hn|⟨g,cap,cur,rfl,zd,rest⟩
 ·exact .inl hn
 ·exact .inr ⟨g,cap,cur,rfl,by omega,rest⟩
theorem xm.nil(E:Enc α)(t:TypeId)(w:World)(base:Nat):xm E t w base (.slice none 0 0) []:=World.ownsRow_nil w base t _
theorem xm.yG(E:Enc α)(t:TypeId)(W:World)(base:Nat)(n:Nat)(hn:n=W.heap.size)(hb:base<=W.heap.size):xm E t (W.alloc (.cells #[] t)) base (.slice (some ⟨n,0,none⟩) 0 0) []:=by
 subst hn;exact World.ownsRow_lit W #[] 0 hb b9 e7
theorem xm.lit(E:Enc α)(t:TypeId)(W:World)(base:Nat)(l:List α)(cs:Array Value)(G:cs=(E.all l).toArray)(n:Nat)(hn:n=W.heap.size)(hb:base<=W.heap.size)(hm:l.length<=1099511627776):xm E t (W.alloc (.cells cs t)) base (.slice (some ⟨n,0,none⟩) l.length l.length) l:=by
 subst hn G;refine⟨E.BR l,.inr ⟨_,l.length,(E.all l).toArray,rfl,hb,heap_alloc_new W _,Nat.le_refl _,by simp[maxLen];omega,by simp[E.BR],?_⟩⟩
 show List.take _ (E.all l)=_;exact List.take_of_length_le (by rw[E.BR];exact Nat.le_refl _)
theorem aY{w:World}{base base':Nat}{e e':TypeId}{s I:Nat}{v v':Value}{n n':Nat}{xs xs':List Value}(hne:e≠e')(h:w.ownsRow base e s v n xs)(h':w.ownsRow base' e' I v' n' xs'):∀k,v.ownBlock=some k->v'.ownBlock≠some k:=by
 intro k hk C0
 rcases h.2 with⟨rfl,_⟩|⟨g,cap,cur,rfl,_,hg,_⟩
 ·simp[Value.ownBlock]at hk
 ·rcases h'.2 with⟨rfl,_⟩|⟨g',cap',cur',rfl,_,G,_⟩
  ·simp[Value.ownBlock]at C0
  ·simp only[Value.ownBlock,Option.some.injEq]at hk C0;subst hk C0;rw[hg]at G;simp only[Option.some.injEq,Obj.cells.injEq]at G;exact hne G.2.1
theorem av{w:World}{base g:Nat}{e e':TypeId}{s:Nat}{v:Value}{n:Nat}{xs:List Value}{c:Array Value}{z:Nat×Nat}(h:w.ownsRow base e s v n xs)(hb:w.heap[g]?=some (.cells c e' z))(hne:e≠e'):some g≠v.ownBlock:=by
 intro hk
 rcases h.2 with⟨rfl,_⟩|⟨g',cap,cur,rfl,_,hg,_⟩
 ·simp[Value.ownBlock]at hk
 ·simp only[Value.ownBlock,Option.some.injEq]at hk;subst hk;rw[hg]at hb;simp only[Option.some.injEq,Obj.cells.injEq]at hb;exact hne hb.2.1
theorem F8.lit(E:Enc α)(t:TypeId)(W:World)(l:List α)(m:Nat)(hm:l.length=m)(cs:Array Value)(G:cs=(E.all l).toArray)(n:Nat)(hn:n=W.heap.size)(hb:m<=1099511627776):F8 E (W.alloc (.cells cs t)) (some ⟨n,0,none⟩) m m l:=by
 subst hm;exact(xm.lit E t W 0 l cs G n hn (Nat.zero_le _) hb).KR
end
section
variable{α:Type}{E:Enc α}{t:TypeId}{P:Program}{w:World}{ops:Array Oper}{rest:List Oper}{o:Oper}{a:Act}{Q:Exit->Act->World->Prop}
theorem fF{K:Act->World->Prop}{ts:TypeId}{z:Value}{bytes:Nat}(E:Enc α)(I:(P.info? t).map (fun i=>(i.zero,i.size,i.bytes))=some (some z,E.c,bytes))(hz:z.cells.size=E.c)(ht:P.underlying ts=some (.slice t))(Z:bytes<=64)
 (s x:Operand) (ho:o.op=.call { callee:=.builtin .append,args:=#[s,x],argTypes:=#[ts,ts] })
 (base:Nat) (v:Value) (l:List α) (hs:a.eval s=v) (R:xm E t w base v l) (U:j8) (m c:Nat) (O:List α) (hx:a.eval x=.slice U m c) (J:F8 E w U m c O) (hb:l.length+m<=1099511627776) (G:base<=w.heap.size)
 (h:∀v' w',xm E t w' base v' (l++O)->w.grownBy w' v.ownBlock->Aw w v v'->K (a.put o.dst v') w'):o.wp P a w K Q:=by
 obtain⟨i,hi,W,CE,DA⟩:∃i,P.info? t=some i/\i.zero=some z/\i.size=E.c/\i.bytes=bytes:=by
  cases hq:P.info? t with
  | none=>rw[hq]at I;simp at I
  | some i=>rw[hq]at I;simp at I;exact⟨i,rfl,I.1,I.2.1,I.2.2⟩
 cases U with
 | none =>
   have hm:m=0:=by
    rcases Nat.eq_zero_or_pos m with h0|h0
    ·exact h0
    ·obtain⟨b,off,e,_⟩:=J.cell 0 h0;cases e
   subst hm;have hl:O=[]:=List.eq_nil_of_length_eq_zero J.hlen;subst hl;refine fB w s x ts ho base t i E.c ht hi v l.length _ hs R c hx ?_;exact h v w (by simpa using R) (World.grownBy.refl _ _) (Aw.refl _ _)
 | some ad =>
   refine eN w s x ts ho base t i z E.c bytes ht hi W CE DA hz E.pos v l.length (E.all l) hs R ad m c (E.all O) hx (by rw[E.BR,J.hlen]) ?_ (E.Qx O) (by simp[maxLen];omega) (j4 (Nat.mul_le_mul hb Z)) G ?_
   ·intro i u hu;obtain⟨k,j,y,he,hk,hj⟩:=E.split hu;have yQ:k<m:=by rw[<-J.hlen];exact(List.getElem?_eq_some_iff.1 hk).1
    obtain⟨b,off,e,hc⟩:=J.cell k yQ;simp only[Option.some.injEq]at e;subst e;have ha:∀k,(⟨b,off,none⟩:Addr).add k=⟨b,off+k,none⟩:=fun k=>by unfold Addr.add;split<;>simp_all
    rw[ha,he,<-Nat.add_assoc];exact hc k y j u hk hj
   ·intro v' w' h1 h2 h3;refine h v' w' ?_ h2 h3;unfold xm;rw[List.length_append,J.hlen,E.all_append];exact h1
theorem pU{ts:TypeId}{z:Value}{bytes:Nat}(E:Enc α)(U:(P.info? t).map (fun i=>(i.zero,i.size,i.bytes))=some (some z,E.c,bytes))(hz:z.cells.size=E.c)(ht:P.underlying ts=some (.slice t))(O:bytes<=64)(R:o.guard=none)
 (s x:Operand) (ho:o.op=.call { callee:=.builtin .append,args:=#[s,x],argTypes:=#[ts,ts] })
 (base:Nat) (v:Value) (l:List α) (hs:a.eval s=v) (K:xm E t w base v l) (J:j8) (m c:Nat) (I:List α) (hx:a.eval x=.slice J m c) (W:F8 E w J m c I) (hb:l.length+m<=1099511627776) (G:base<=w.heap.size)
 (h:∀v' w',xm E t w' base v' (l++I)->w.grownBy w' v.ownBlock->Aw w v v'->wpList P ops Q rest (a.put o.dst v') w'):wpList P ops Q (o::rest) a w :=
 wpList_plain R fun _ hK=>fF E U hz ht O s x ho base v l hs K J m c I hx W hb G fun v' w' h1 h2 h3=>hK _ _ (h v' w' h1 h2 h3)
end
structure r8(w:World)(a:j8)(n cap:Nat)(l:j6):Prop where
 hlen:l.length=n
 o3:n<=cap
 l9:cap<=9223372036854775807
 cell:∀k,k<n->∃b off,a=some ⟨b,off,none⟩/\∀k,k<n->w.cell? ⟨b,off+k*2,none⟩=some (.int .i64 (l[k]?.getD (0,0)).1)/\w.cell? ⟨b,off+k*2+1,none⟩=some (.int .i64 (l[k]?.getD (0,0)).2)
theorem r8.ext{cap:Nat}(h:r8 w a n cap l)(hx:Ext w w'):r8 w' a n cap l :=
 ⟨h.hlen,h.o3,h.l9,fun k hk=>let⟨b,off,e,hc⟩:=h.cell k hk;⟨b,off,e,fun k hk=>⟨hx.k6 (hc k hk).1,hx.k6 (hc k hk).2⟩⟩⟩
theorem r8.at{cap:Nat}(h:r8 w a n cap l)(hk:k<n):
 ∃b off x y,a=some ⟨b,off,none⟩/\l[k]?.getD (0,0)=(x,y)/\w.cell? ⟨b,off+k*2,none⟩=some (.int .i64 x)/\w.cell? ⟨b,off+k*2+1,none⟩=some (.int .i64 y) :=
 let⟨b,off,e,hc⟩:=h.cell k hk;⟨b,off,_,_,e,rfl,(hc k hk).1,(hc k hk).2⟩
theorem dV(h:k<l.length):l.take (k+1)=l.take k++[l[k]?.getD (0,0)]:=by
 rw[List.take_succ_eq_append_getElem h];simp[h]
theorem pO{K:j8}{cap:Nat}{G:j6}(h:r8 w a n cap l)(h':r8 w K n' cap' G):
 Calls Tryz.prog 11 #[.slice a n cap,.slice K n' cap'] w fun e w'=>e=.returned (.bool (decide (l=G)))/\yd w w':=by
 have hn:=h.o3;have hm:=h.l9;have hn':=h'.o3;have Xe:=h'.l9;have HL:=ae h.hlen;have I:=ae h'.hlen;by_cases hne:n=n'
 ·subst hne;go_enter Tryz.func11,Tryz.ntmps11
  go_wp2
  go_loopw [5] (fun i wr=>∃k:Nat,k<=n/\i=.int .i64 k/\l.take k=G.take k/\yd w wr) (fun i _=>n-(intOf i).toNat)
  case atStart=>exact⟨0,Nat.zero_le _,rfl,rfl,yd.refl _⟩
  case round =>
   obtain⟨k,hk,rfl,O,hx⟩:=hrel;have HT:=ae O;clear O;by_cases hlt:k<n
   ·have h1:=h.ext hx.ext;have Z:=h'.ext hx.ext;obtain⟨b,off,x,y,rfl,J,yq,AZ⟩:=h1.at hlt;obtain⟨b',off',x',y',rfl,W,Qb,XM⟩:=Z.at hlt;have U:=ae J;have R:=ae W;clear J W;by_cases hq:x=x'/\y=y'
    ·obtain⟨rfl,rfl⟩:=hq
     go_wp2
     go_quiet (fail)
     go_wp2
     go_roundw
     case rel=>exact⟨k+1,by omega,by go_num,by rw[dV (j4 HL.o),dV (j4 I.o),HT.o,U.o,R.o],hx.trans ⟨_,rfl⟩⟩
     case measure=>simp[intOf];omega
    ·have HQ:=ae hq;cases wO:(x == x')
     all_goals
      cases xM:(y == y')
     case neg.true.true=>exact absurd ⟨by simpa using wO,by simpa using xM⟩ hq
     all_goals
      clear hq
      go_wp2
      go_quiet (fail)
      go_wp2
      go_ret;refine⟨ag ?_,hx.trans ⟨_,rfl⟩⟩
      symm
      rw[decide_eq_false_iff_not];intro e;have:=U.o.symm.trans ((congrArg (fun l=>l[k]?.getD (0,0)) e).trans R.o);simp only[Prod.mk.injEq]at this;exact HQ.o this
   ·go_wp2
    go_ret;refine⟨ag ?_,hx⟩
    symm
    rw[decide_eq_true_eq];have:=HT.o
    rwa [List.take_of_length_le (j4 HL.o),List.take_of_length_le (j4 I.o)]at this
 ·have PR:((n:Int) != (n':Int))=true:=by simp;omega
  have HN:=ae hne;clear hne;go_enter Tryz.func11,Tryz.ntmps11
  go_wp2
  go_ret;refine⟨ag ?_,yd.refl _⟩
  symm
  rw[decide_eq_false_iff_not];intro e;exact HN.o (by rw[<-HL.o,<-I.o,e])
theorem tS{K:j8}{cap:Nat}{G:j6}(h:r8 w a n cap l)(h':r8 w K n' cap' G):
 Calls Tryz.prog 29 #[.slice a n cap,.slice K n' cap'] w fun e w'=>e=.returned (.bool (decide (l=G)))/\yd w w':=by
 have hn:=h.o3;have hm:=h.l9;have hn':=h'.o3;have Xe:=h'.l9;have HL:=ae h.hlen;have I:=ae h'.hlen;by_cases hne:n=n'
 ·subst hne;go_enter Tryz.func29,Tryz.ntmps29
  go_wp2
  go_loopw [13] (fun i wr=>∃k:Nat,k<=n/\i=.int .i64 k/\l.take k=G.take k/\yd w wr) (fun i _=>n-(intOf i).toNat)
  case atStart=>exact⟨0,Nat.zero_le _,rfl,rfl,yd.refl _⟩
  case round =>
   obtain⟨k,hk,rfl,O,hx⟩:=hrel;have HT:=ae O;clear O;by_cases hlt:k<n
   ·have h1:=h.ext hx.ext;have Z:=h'.ext hx.ext;obtain⟨b,off,x,y,rfl,J,yq,AZ⟩:=h1.at hlt;obtain⟨b',off',x',y',rfl,W,Qb,XM⟩:=Z.at hlt;have U:=ae J;have R:=ae W;clear J W;by_cases hq:x=x'/\y=y'
    ·obtain⟨rfl,rfl⟩:=hq
     go_wp2
     go_quiet (fail)
     go_wp2
     go_roundw
     case rel=>exact⟨k+1,by omega,by go_num,by rw[dV (j4 HL.o),dV (j4 I.o),HT.o,U.o,R.o],hx.trans ⟨_,rfl⟩⟩
     case measure=>simp[intOf];omega
    ·have HQ:=ae hq;cases wO:(x == x')
     all_goals
      cases xM:(y == y')
     case neg.true.true=>exact absurd ⟨by simpa using wO,by simpa using xM⟩ hq
     all_goals
      clear hq
      go_wp2
      go_quiet (fail)
      go_wp2
      go_ret;refine⟨ag ?_,hx.trans ⟨_,rfl⟩⟩
      symm
      rw[decide_eq_false_iff_not];intro e;have:=U.o.symm.trans ((congrArg (fun l=>l[k]?.getD (0,0)) e).trans R.o);simp only[Prod.mk.injEq]at this;exact HQ.o this
   ·go_wp2
    go_ret;refine⟨ag ?_,hx⟩
    symm
    rw[decide_eq_true_eq];have:=HT.o
    rwa [List.take_of_length_le (j4 HL.o),List.take_of_length_le (j4 I.o)]at this
 ·have PR:((n:Int) != (n':Int))=true:=by simp;omega
  have HN:=ae hne;clear hne;go_enter Tryz.func29,Tryz.ntmps29
  go_wp2
  go_ret;refine⟨ag ?_,yd.refl _⟩
  symm
  rw[decide_eq_false_iff_not];intro e;exact HN.o (by rw[<-HL.o,<-I.o,e])
def Ll(l:j6):Array Value:=(l.flatMap fun p=>[Value.int .i64 p.1,Value.int .i64 p.2]).toArray
theorem nN:∀(l:j6) (k:Nat),k<l.length->(l.flatMap fun p=>[Value.int .i64 p.1,Value.int .i64 p.2])[k*2]?=some (.int .i64 (l[k]?.getD (0,0)).1)/\(l.flatMap fun p=>[Value.int .i64 p.1,Value.int .i64 p.2])[k*2+1]?=some (.int .i64 (l[k]?.getD (0,0)).2)
 | [],k,h=>absurd h e7
 | p::l,0,_=>by simp
 | p::l,k+1,h=>by
   have:=nN l k (by simpa using h);rw[show(k+1)*2=k*2+1+1 by omega]
   simpa using this
theorem qp:∀(l:j6) (k:Nat) (x y:Int),k<l.length->((l.flatMap fun p=>[Value.int .i64 p.1,Value.int .i64 p.2]).set (k*2) (.int .i64 x)).set (k*2+1) (.int .i64 y)=(l.set k (x,y)).flatMap fun p=>[Value.int .i64 p.1,Value.int .i64 p.2]
 | [],k,_,_,h=>absurd h e7
 | p::l,0,_,_,_=>by simp
 | p::l,k+1,x,y,h=>by
   have:=qp l k x y (by simpa using h);rw[show(k+1)*2=k*2+1+1 by omega]
   simpa using this
theorem lG:∀l:j6,(l.flatMap fun p=>[Value.int .i64 p.1,Value.int .i64 p.2]).length=l.length*2
 | []=>rfl
 | p::l=>by have:=lG l;simp at this⊢;omega
def RRow(w:World)(b:Nat)(t:TypeId)(l:j6):Prop:=w.heap[b]?=some (.cells (Ll l) t (0,0))
theorem Tryz.Py:(Tryz.prog.info? 46).map (fun i=>(i.zero,i.size,i.bytes))=some (some (.agg #[.int .i64 0,.int .i64 0]),2,16):=by kernel_rfl
def yL(l:j6):List Value:=l.flatMap fun p=>[Value.int .i64 p.1,Value.int .i64 p.2]
theorem si(l G:j6):yL (l++G)=yL l++yL G:=by simp[yL]
theorem re:∀(l:j6),∀u∈yL l,u.oneCell'=true
 | [],u,h=>by simp[yL]at h
 | p::l,u,h=>by
   simp only[yL,List.flatMap_cons,List.mem_append,List.mem_cons,List.not_mem_nil,or_false]at h
   rcases h with(rfl|rfl)|h
   ·rfl
   ·rfl
   ·exact re l u h
def l8(w:World)(base:Nat)(v:Value)(l:j6):Prop:=w.ownsRow base 46 2 v l.length (yL l)
theorem l8.form(h:l8 w base v l):∃a cap,v=.slice a l.length cap/\l.length<=cap/\cap<=9223372036854775807:=by
 rcases h.2 with⟨rfl,h0⟩|⟨g,cap,cur,rfl,_,_,h1,h2,_⟩
 ·exact⟨none,0,by rw[h0],by omega,by omega⟩
 ·exact⟨_,cap,rfl,h1,by simpa[maxLen]using h2⟩
theorem l8.var(h:l8 w base v l):∃a n cap,v=.slice a n cap/\b7 (l.length=n):=by
 obtain⟨a,cap,e,_⟩:=h.form;exact⟨a,_,cap,e,rfl⟩
theorem l8.wK{cap:Nat}(h:l8 w base (.slice a n cap) l):r8 w a n cap l:=by
 rcases h.2 with⟨he,h0⟩|⟨g,cap',cur,he,_,hg,h1,h2,hs,ht⟩
 ·simp only[Value.slice.injEq]at he;obtain⟨rfl,rfl,rfl⟩:=he;exact⟨h0,Nat.le_refl _,by omega,fun k hk=>absurd hk b9⟩
 ·simp only[Value.slice.injEq]at he;obtain⟨rfl,rfl,rfl⟩:=he;refine⟨rfl,h1,by simpa[maxLen]using h2,fun k hk=>⟨g,0,rfl,fun k hk=>?_⟩⟩;rw[Nat.zero_add,cell_of_row w g _ cur _ (0,0) hg,cell_of_row w g _ cur _ (0,0) hg];obtain⟨I,G⟩:=nN l k hk;change(yL l)[k*2]?=_ at I;change(yL l)[k*2+1]?=_ at G;rw[<-ht,List.getElem?_take,if_pos b9]at I G;exact⟨by simpa using I,by simpa using G⟩
theorem l8.lt(h:l8 w base v l):∀k,v.ownBlock=some k->base<=k/\k<w.heap.size:=World.ownsRow.lt h
theorem l8.keep(h:l8 w base v l)(hk:∀k,v.ownBlock=some k->w'.heap[k]?=w.heap[k]?):l8 w' base v l:=by
 refine⟨h.1,?_⟩
 rcases h.2 with hn|⟨g,cap,cur,rfl,hb,G,rest⟩
 ·exact .inl hn
 ·exact .inr ⟨g,cap,cur,rfl,hb,(hk g rfl).trans G,rest⟩
theorem l8.ext(h:l8 w base v l)(hx:Ext w w'):l8 w' base v l:=h.keep fun k hk=>hx.block k (h.lt k hk).2
theorem l8.on(h:l8 w base v l):On base w (fun W=>l8 W base v l):=fun w2 h2=>h.keep fun k hk=>h2 k (h.lt k hk).1 (h.lt k hk).2
theorem l8.mono(h:l8 w base v l)(hb:base'<=base):l8 w base' v l:=by
 refine⟨h.1,?_⟩
 rcases h.2 with hn|⟨g,cap,cur,rfl,zd,rest⟩
 ·exact .inl hn
 ·exact .inr ⟨g,cap,cur,rfl,by omega,rest⟩
theorem l8.nil(w:World)(base:Nat):l8 w base (.slice none 0 0) []:=World.ownsRow_nil w base _ 2
section
variable{P:Program}{w:World}{ops:Array Oper}{rest:List Oper}{o:Oper}{a:Act}{Q:Exit->Act->World->Prop}
theorem ek{K:Act->World->Prop}(s x:Operand)(ho:o.op=.call { callee:=.builtin .append,args:=#[s,x],argTypes:=#[27,27] })
 (base:Nat) (v:Value) (l:j6) (hs:a.eval s=v) (O:l8 w base v l) (R:j8) (m c:Nat) (G:j6) (hx:a.eval x=.slice R m c) (J:r8 w R m c G) (hb:l.length+m<=1099511627776) (I:base<=w.heap.size)
 (h:∀v' w',l8 w' base v' (l++G)->w.grownBy w' v.ownBlock->Aw w v v'->K (a.put o.dst v') w'):o.wp Tryz.prog a w K Q:=by
 obtain⟨i,hi,Z,CE,DA⟩:=info_parts Tryz.Py;cases R with
 | none =>
   have hm:m=0:=by
    rcases Nat.eq_zero_or_pos m with h0|h0
    ·exact h0
    ·obtain⟨b,off,e,_⟩:=J.cell 0 h0;cases e
   subst hm;have hl:G=[]:=List.eq_nil_of_length_eq_zero J.hlen;subst hl;refine fB w s x 27 ho base 46 i 2 Tryz.underlying27 hi v l.length _ hs O c hx ?_;exact h v w (by simpa using O) (World.grownBy.refl _ _) (Aw.refl _ _)
 | some ad =>
   refine eN w s x 27 ho base 46 i (.agg #[.int .i64 0,.int .i64 0]) 2 16 Tryz.underlying27 hi Z CE DA rfl (by decide) v l.length (yL l) hs O ad m c (yL G) hx (by have:=lG G;have:=J.hlen;unfold yL;omega) ?_ (re G) (by simp[maxLen];omega) b9 I ?_
   ·intro j u hu;have zt:j<G.length*2:=by
     have:=(List.getElem?_eq_some_iff.1 hu).1;have h2:=lG G;unfold yL at this;omega
    have ZI:=J.hlen;obtain⟨b,off,e,hc⟩:=J.cell (j/2) b9;simp only[Option.some.injEq]at e;subst e;obtain⟨c1,c2⟩:=hc (j/2) b9;obtain⟨W,U⟩:=nN G (j/2) b9;change(yL G)[j/2*2]?=_ at W;change(yL G)[j/2*2+1]?=_ at U;have hj:j=j/2*2∨j=j/2*2+1:=by omega
    have ha:∀k,(⟨b,off,none⟩:Addr).add k=⟨b,off+k,none⟩:=fun k=>by unfold Addr.add;split<;>simp_all
    rw[ha]
    rcases hj with hj|hj
    ·rw[hj]at hu⊢;rw[W]at hu;rw[c1,<-hu]
    ·rw[hj]at hu⊢;rw[U]at hu;rw[<-Nat.add_assoc,c2,<-hu]
   ·intro v' w' h1 h2 h3;refine h v' w' ?_ h2 h3;unfold l8;rw[List.length_append,J.hlen,si];exact h1
theorem aG(O:o.guard=none)(s x:Operand)(ho:o.op=.call { callee:=.builtin .append,args:=#[s,x],argTypes:=#[27,27] })
 (base:Nat) (v:Value) (l:j6) (hs:a.eval s=v) (K:l8 w base v l) (J:j8) (m c:Nat) (I:j6) (hx:a.eval x=.slice J m c) (R:r8 w J m c I) (hb:l.length+m<=1099511627776) (G:base<=w.heap.size)
 (h:∀v' w',l8 w' base v' (l++I)->w.grownBy w' v.ownBlock->Aw w v v'->wpList Tryz.prog ops Q rest (a.put o.dst v') w'):wpList Tryz.prog ops Q (o::rest) a w :=
 wpList_plain O fun _ hK=>ek s x ho base v l hs K J m c I hx R hb G fun v' w' h1 h2 h3=>hK _ _ (h v' w' h1 h2 h3)
end
theorem l8.made(w:World)(base:Nat)(hb:base<=w.heap.size):l8 (w.alloc (.cells #[] 46)) base (.slice (some ⟨w.heap.size,0,none⟩) 0 0) [] :=
 World.ownsRow_lit w #[] 0 hb b9 rfl
theorem r8.one(w:World)(x y:Int)(t:TypeId):r8 (w.alloc (.cells #[.int .i64 x,.int .i64 y] t)) (some ⟨w.heap.size,0,none⟩) 1 1 [(x,y)] :=
 ⟨rfl,Nat.le_refl _,by omega,fun k hk=>⟨_,0,rfl,fun k hk=>by
  obtain rfl:k=0:=by omega
  simp⟩⟩
theorem r8.one'(w:World)(x y:Int)(t:TypeId)(n:Nat)(hn:n=w.heap.size):r8 (w.alloc (.cells #[.int .i64 x,.int .i64 y] t)) (some ⟨n,0,none⟩) 1 1 [(x,y)]:=by
 subst hn;exact r8.one w x y t
theorem l8.set{cap:Nat}(h:l8 w base (.slice (some ⟨g,0,none⟩) n cap) l)(hk:k<l.length)(x y:Int):
 l8 ((w.setCell ⟨g,k*2,none⟩ (.int .i64 x)).setCell ⟨g,k*2+1,none⟩ (.int .i64 y)) base (.slice (some ⟨g,0,none⟩) n cap) (l.set k (x,y)):=by
 obtain⟨a',c',he,_⟩:=l8.form h;simp only[Value.slice.injEq]at he;obtain⟨_,rfl,_⟩:=he;have h1:=(World.ownsRow.stored h (k*2) (.int .i64 x)).1;have h2:=(World.ownsRow.stored h1 (k*2+1) (.int .i64 y)).1;unfold l8;rw[List.length_set];have e:=qp l k x y hk;change _=yL (l.set k (x,y))at e;rw[<-e];exact h2
theorem l8.block{cap:Nat}(h:l8 w base (.slice a n cap) l)(hk:k<n):∃g,a=some ⟨g,0,none⟩/\base<=g/\(∀j,w.frozen? ⟨g,j,none⟩=false)/\g<w.heap.size:=by
 rcases h.2 with⟨he,h0⟩|⟨g,cap',cur,he,hb,hg,_⟩
 ·simp only[Value.slice.injEq]at he;omega
 ·simp only[Value.slice.injEq]at he;obtain⟨rfl,_⟩:=he;exact⟨g,rfl,hb,fun j=>frozen_of_row w g j cur _ hg,lt_of_block hg⟩
theorem Ext.store(h:Ext w w')(k:Nat)(hb:w.heap.size<=b)(v:Value):Ext w (w'.setCell ⟨b,k,none⟩ v):=Below.setCell h (p:=⟨b,k,none⟩) hb v
theorem Ext.grown{w0:World}{row:Option Nat}(h:Ext w0 w)(hg:w.grownBy w' row)(hr:∀k,row=some k->w0.heap.size<=k):Ext w0 w':=al h hg hr
def Cm(vs:List Value)(v:Value):Prop:=∀i k,i<vs.length->(vs[i]?.getD undef).ownBlock=some k->v.ownBlock≠some k
theorem Cm.nil(v:Value):Cm [] v:=fun i k h=>absurd h e7
theorem Cm.near{A:j7}(h:Cm vs v)(hr:bC w base vs A)(hn:Aw w v v'):Cm vs v':=by
 intro i k hi hk C0
 rcases hn k C0 with h1|h1
 ·exact h i k hi hk h1
 ·have:=((hr.row i (by rw[<-hr.len];exact hi)).lt k hk).2;omega
theorem Cm.snoc{B r:j9}{I:Value}(h:Cm vs v)(hb:o8 w base v B)(hr:o8 w' w.heap.size I r):Cm (vs++[I]) v:=by
 intro i k hi hk C0;by_cases hl:i<vs.length
 ·rw[List.getElem?_append_left hl]at hk;exact h i k hl hk C0
 ·have G:i=vs.length:=by simp at hi;omega
  subst G;rw[List.getElem?_concat_length,Option.getD_some]at hk;have h1:=(hb.lt k C0).2;have h2:=(hr.lt k hk).1;omega
structure xE(w:World)(base g:Nat)(va vb vc:Value)(vs:List Value)(A:j7)(B:j9)(C:j6):Prop where
 box:w.heap[g]?=some (.cells #[va,vb,vc] 52 (0,0))
 hg:base<=g
 a:xe w base va vs
 rows:bC w base vs A
 b:o8 w base vb B
 off:Cm vs vb
 c:l8 w base vc C
section
variable{w:World}{base g:Nat}{va vb vc:Value}{vs:List Value}{A:j7}{B:j9}{C:j6}
theorem xE.lt(h:xE w base g va vb vc vs A B C):g<w.heap.size:=lt_of_block h.box
theorem xE.ext{w':World}(h:xE w base g va vb vc vs A B C)(hx:Ext w w'):xE w' base g va vb vc vs A B C :=
 ⟨(hx.block _ h.lt).trans h.box,h.hg,h.a.ext hx,h.rows.ext hx,h.b.ext hx,h.off,h.c.ext hx⟩
theorem xE.c0(h:xE w base g va vb vc vs A B C):w.cell? ⟨g,0,none⟩=some va:=by rw[cell_of_row w g 0 _ _ _ h.box];rfl
theorem xE.c1(h:xE w base g va vb vc vs A B C):w.cell? ⟨g,1,none⟩=some vb:=by rw[cell_of_row w g 1 _ _ _ h.box];rfl
theorem xE.c2(h:xE w base g va vb vc vs A B C):w.cell? ⟨g,2,none⟩=some vc:=by rw[cell_of_row w g 2 _ _ _ h.box];rfl
theorem xE.free(h:xE w base g va vb vc vs A B C)(k:Nat):w.frozen? ⟨g,k,none⟩=false:=frozen_of_row w g k _ _ h.box
theorem xE.new{w:World}{base:Nat}(hb:base<=w.heap.size):xE (w.alloc (.cells #[.slice none 0 0,.slice none 0 0,.slice none 0 0] 52)) base w.heap.size (.slice none 0 0) (.slice none 0 0) (.slice none 0 0) [] [] [] [] :=
 ⟨heap_alloc_new _ _,hb,xe.nil _ _,bC.nil _ _,o8.nil _ _,Cm.nil _,l8.nil _ _⟩
theorem xE.A3{x y z:Value}(h:w.heap[g]?=some (.cells #[x,y,z] 52 (0,0))):w.cell? ⟨g,0,none⟩=some x:=by rw[cell_of_row w g 0 _ _ _ h];rfl
theorem xE.A2{x y z:Value}(h:w.heap[g]?=some (.cells #[x,y,z] 52 (0,0))):w.cell? ⟨g,1,none⟩=some y:=by rw[cell_of_row w g 1 _ _ _ h];rfl
theorem xE.BI{x y z:Value}(h:w.heap[g]?=some (.cells #[x,y,z] 52 (0,0))):w.cell? ⟨g,2,none⟩=some z:=by rw[cell_of_row w g 2 _ _ _ h];rfl
theorem xE.B4{x y z:Value}(h:w.heap[g]?=some (.cells #[x,y,z] 52 (0,0)))(k:Nat):w.frozen? ⟨g,k,none⟩=false:=frozen_of_row w g k _ _ h
theorem xE.neA(h:xE w base g va vb vc vs A B C):some g≠va.ownBlock:=av h.a h.box (by decide)
theorem xE.neB(h:xE w base g va vb vc vs A B C):some g≠vb.ownBlock:=av h.b h.box (by decide)
theorem xE.neC(h:xE w base g va vb vc vs A B C):some g≠vc.ownBlock:=av h.c h.box (by decide)
theorem xE.neR(h:xE w base g va vb vc vs A B C){i:Nat}(hi:i<A.length):some g≠(vs[i]?.getD undef).ownBlock:=av (h.rows.row i hi) h.box (by decide)
theorem xE.store{w w':World}{k:Nat}{v:Value}(hb:w.heap[g]?=some (.cells #[va,vb,vc] 52 (0,0))):(w.setCell ⟨g,k,none⟩ v).heap[g]?=some (.cells (#[va,vb,vc].setIfInBounds k v) 52 (0,0)):=heap_setCell_same w g k _ _ v hb
theorem xE.DW{w1 w2:World}(h:xE w base g va vb vc vs A B C)(hx:Ext w w1){I G:Value}{r:j9}(hr:o8 w1 w.heap.size I r)(J:base<=w.heap.size)(zF:w1.grownBy w2 va.ownBlock)(ho:xe w2 base G (vs++[I]))(hn:Aw w1 va G):
 xE (w2.setCell ⟨g,0,none⟩ G) base g G vb vc (vs++[I]) (A++[r]) B C:=by
 have h1:=h.ext hx;have yR:w2.heap[g]?=some (.cells #[va,vb,vc] 52 (0,0)):=(zF.block g h1.lt h1.neA).trans h1.box;have zi:∀k,k≠g->(w2.setCell ⟨g,0,none⟩ G).heap[k]?=w2.heap[k]?:=fun k hk=>heap_setCell_other _ _ _ _ hk
 have RI:o8 w2 base vb B:=h1.b.keep fun k hk=>zF.block k (h1.b.lt k hk).2 fun e=>h1.b.apart h1.a k hk e.symm
 have XZ:l8 w2 base vc C:=h1.c.keep fun k hk=>zF.block k (h1.c.lt k hk).2 fun e=>aY (by decide) h1.c h1.a k hk e.symm
 have TF:bC w1 base (vs++[I]) (A++[r]):=h.rows.snoc hx hr J;have I6:bC w2 base (vs++[I]) (A++[r]):=TF.keep fun i k hi hk=>zF.block k ((TF.row i hi).lt k hk).2 fun e=>(TF.row i hi).apart h1.a k hk e.symm
 refine⟨?_,h.hg,?_,?_,?_,h.off.snoc h.b hr,?_⟩
 ·have:=xE.store (w:=w2) (w':=w2) (k:=0) (v:=G) yR;exact this
 ·exact ho.keep fun k hk=>zi k fun e=>(av ho yR (by decide)) (by rw[hk,e])
 ·exact I6.keep fun i k hi hk=>zi k fun e=>(av (I6.row i hi) yR (by decide)) (by rw[hk,e])
 ·exact RI.keep fun k hk=>zi k fun e=>(av RI yR (by decide)) (by rw[hk,e])
 ·exact XZ.keep fun k hk=>zi k fun e=>(av XZ yR (by decide)) (by rw[hk,e])
theorem xE.pushB{w1 w2:World}(h:xE w base g va vb vc vs A B C)(hx:Ext w w1){G:Value}{I:j9}(zF:w1.grownBy w2 vb.ownBlock)(ho:o8 w2 base G I)(hn:Aw w1 vb G):
 xE (w2.setCell ⟨g,1,none⟩ G) base g va G vc vs A I C:=by
 have h1:=h.ext hx;have yR:w2.heap[g]?=some (.cells #[va,vb,vc] 52 (0,0)):=(zF.block g h1.lt h1.neB).trans h1.box;have zi:∀k,k≠g->(w2.setCell ⟨g,1,none⟩ G).heap[k]?=w2.heap[k]?:=fun k hk=>heap_setCell_other _ _ _ _ hk
 have RK:xe w2 base va vs:=h1.a.keep fun k hk=>zF.block k (h1.a.lt k hk).2 fun e=>h1.b.apart h1.a k e.symm hk
 have XZ:l8 w2 base vc C:=h1.c.keep fun k hk=>zF.block k (h1.c.lt k hk).2 fun e=>aY (by decide) h1.c h1.b k hk e.symm
 have I6:bC w2 base vs A:=h1.rows.keep fun i k hi hk=>zF.block k ((h1.rows.row i hi).lt k hk).2 fun e=>h1.off i k (by rw[h1.rows.len];exact hi) hk e.symm
 refine⟨?_,h.hg,?_,?_,?_,h1.off.near h1.rows hn,?_⟩
 ·have:=xE.store (w:=w2) (w':=w2) (k:=1) (v:=G) yR;exact this
 ·exact RK.keep fun k hk=>zi k fun e=>(av RK yR (by decide)) (by rw[hk,e])
 ·exact I6.keep fun i k hi hk=>zi k fun e=>(av (I6.row i hi) yR (by decide)) (by rw[hk,e])
 ·exact ho.keep fun k hk=>zi k fun e=>(av ho yR (by decide)) (by rw[hk,e])
 ·exact XZ.keep fun k hk=>zi k fun e=>(av XZ yR (by decide)) (by rw[hk,e])
theorem xE.VU{w1 w2:World}(h:xE w base g va vb vc vs A B C)(hx:Ext w w1){G:Value}{I:j6}(zF:w1.grownBy w2 vc.ownBlock)(ho:l8 w2 base G I):
 xE (w2.setCell ⟨g,2,none⟩ G) base g va vb G vs A B I:=by
 have h1:=h.ext hx;have yR:w2.heap[g]?=some (.cells #[va,vb,vc] 52 (0,0)):=(zF.block g h1.lt h1.neC).trans h1.box;have zi:∀k,k≠g->(w2.setCell ⟨g,2,none⟩ G).heap[k]?=w2.heap[k]?:=fun k hk=>heap_setCell_other _ _ _ _ hk
 have RK:xe w2 base va vs:=h1.a.keep fun k hk=>zF.block k (h1.a.lt k hk).2 fun e=>aY (by decide) h1.a h1.c k hk e.symm
 have RI:o8 w2 base vb B:=h1.b.keep fun k hk=>zF.block k (h1.b.lt k hk).2 fun e=>aY (by decide) h1.b h1.c k hk e.symm
 have I6:bC w2 base vs A:=h1.rows.keep fun i k hi hk=>zF.block k ((h1.rows.row i hi).lt k hk).2 fun e=>aY (by decide) (h1.rows.row i hi) h1.c k hk e.symm
 refine⟨?_,h.hg,?_,?_,?_,h.off,?_⟩
 ·have:=xE.store (w:=w2) (w':=w2) (k:=2) (v:=G) yR;exact this
 ·exact RK.keep fun k hk=>zi k fun e=>(av RK yR (by decide)) (by rw[hk,e])
 ·exact I6.keep fun i k hi hk=>zi k fun e=>(av (I6.row i hi) yR (by decide)) (by rw[hk,e])
 ·exact RI.keep fun k hk=>zi k fun e=>(av RI yR (by decide)) (by rw[hk,e])
 ·exact ho.keep fun k hk=>zi k fun e=>(av ho yR (by decide)) (by rw[hk,e])
theorem bW{w w2:World}{b1 b2:Nat}{e e':TypeId}{s G n n':Nat}{v v':Value}{xs xs':List Value}(h:w.ownsRow b1 e s v n xs)(h':w.ownsRow b2 e' G v' n' xs')(hne:e≠e')(zF:w.grownBy w2 v'.ownBlock):w2.ownsRow b1 e s v n xs :=
 h.kept zF (by
  cases hv:v.ownBlock with
  | none=>exact .inl rfl
  | some k=>exact .inr fun e2=>aY hne h h' k hv e2.symm)
theorem ec{w:World}{b1 g k:Nat}{e e':TypeId}{s n:Nat}{v u:Value}{xs:List Value}{c:Array Value}{z:Nat×Nat}(h:w.ownsRow b1 e s v n xs)(hb:w.heap[g]?=some (.cells c e' z))(hne:e≠e'):(w.setCell ⟨g,k,none⟩ u).ownsRow b1 e s v n xs:=by
 refine⟨h.1,?_⟩
 rcases h.2 with hn|⟨g',cap,cur,rfl,zd,G,rest⟩
 ·exact .inl hn
 ·refine .inr ⟨g',cap,cur,rfl,zd,?_,rest⟩;rw[heap_setCell_other _ _ _ _ fun e2=>by subst e2;exact av h hb hne rfl];exact G
theorem xE.Ip{w1 w2:World}(h:xE w base g va vb vc vs A B C)(hx:Ext w w1)(hg:w1.grownBy w2 va.ownBlock):w2.heap[g]?=some (.cells #[va,vb,vc] 52 (0,0)):=(hg.block g (h.ext hx).lt (h.ext hx).neA).trans (h.ext hx).box
theorem xE.Io{w1 w2:World}(h:xE w base g va vb vc vs A B C)(hx:Ext w w1)(hg:w1.grownBy w2 vb.ownBlock):w2.heap[g]?=some (.cells #[va,vb,vc] 52 (0,0)):=(hg.block g (h.ext hx).lt (h.ext hx).neB).trans (h.ext hx).box
theorem xE.boxC{w1 w2:World}(h:xE w base g va vb vc vs A B C)(hx:Ext w w1)(hg:w1.grownBy w2 vc.ownBlock):w2.heap[g]?=some (.cells #[va,vb,vc] 52 (0,0)):=(hg.block g (h.ext hx).lt (h.ext hx).neC).trans (h.ext hx).box
theorem xm.AM{α:Type}{E:Enc α}{t:TypeId}{w w1 w2:World}{b1 b2:Nat}{v v':Value}{l:List α}{us:List Value}(h:xm E t w b1 v l)(hx:Ext w w1)(h':xe w b2 v' us)(hne:t≠24)(zF:w1.grownBy w2 v'.ownBlock):xm E t w2 b1 v l :=
 bW (h.ext hx) (h'.ext hx) hne zF
theorem xm.M0{α:Type}{E:Enc α}{t:TypeId}{w w1 w2:World}{b1 b2:Nat}{v v':Value}{l:List α}{us:j9}(h:xm E t w b1 v l)(hx:Ext w w1)(h':o8 w b2 v' us)(hne:t≠3)(zF:w1.grownBy w2 v'.ownBlock):xm E t w2 b1 v l :=
 bW (h.ext hx) (h'.ext hx) hne zF
theorem xm.MZ{α:Type}{E:Enc α}{t:TypeId}{w w1 w2:World}{b1 b2:Nat}{v v':Value}{l:List α}{us:j6}(h:xm E t w b1 v l)(hx:Ext w w1)(h':l8 w b2 v' us)(hne:t≠46)(zF:w1.grownBy w2 v'.ownBlock):xm E t w2 b1 v l :=
 bW (h.ext hx) (h'.ext hx) hne zF
theorem xm.KZ{α:Type}{E:Enc α}{t:TypeId}{w:World}{b1 g:Nat}{v x y z:Value}{l:List α}(h:xm E t w b1 v l)(hb:w.heap[g]?=some (.cells #[x,y,z] 52 (0,0)))(hne:t≠52)(k:Nat)(u:Value):xm E t (w.setCell ⟨g,k,none⟩ u) b1 v l :=
 ec h hb hne
end
theorem xe.mono'(h:xe w base v vs)(hb:base'<=base):xe w base' v vs:=by
 refine⟨h.1,?_⟩
 rcases h.2 with hn|⟨g,cap,cur,rfl,zd,rest⟩
 ·exact .inl hn
 ·exact .inr ⟨g,cap,cur,rfl,by omega,rest⟩
theorem dI.mono'{L:j7}(h:dI w base v L)(hb:base'<=base):dI w base' v L :=
 let⟨vs,h1,h2⟩:=h;⟨vs,h1.mono' hb,⟨h2.len,fun i hi=>(h2.row i hi).mono hb,h2.apart⟩⟩
theorem o8.LQ{l:j9}{us:j6}(h:o8 w b1 v l)(hx:Ext w w1)(h':l8 w b2 v' us)(zF:w1.grownBy w2 v'.ownBlock):o8 w2 b1 v l :=
 bW (h.ext hx) (h'.ext hx) (by decide) zF
theorem l8.VZ{us:j9}(h:l8 w b1 v l)(hx:Ext w w1)(h':o8 w b2 v' us)(zF:w1.grownBy w2 v'.ownBlock):l8 w2 b1 v l :=
 bW (h.ext hx) (h'.ext hx) (by decide) zF
theorem Ints.SJ{W:World}(l:j9)(t:TypeId){m:Nat}(hm:l.length=m){cs:Array Value}(G:cs=bw l)(hn:n=W.heap.size)(hb:m<=1099511627776):Ints (W.alloc (.cells cs t)) (some ⟨n,0,none⟩) m m l:=by
 subst hn G;exact(show Row (W.alloc (.cells (bw l) t)) W.heap.size t l from heap_alloc_new W _).ints hm (Nat.le_refl _) b9
theorem r8.two(W:World)(x y x' y':Int)(t:TypeId)(hn:n=W.heap.size):r8 (W.alloc (.cells #[.int .i64 x,.int .i64 y,.int .i64 x',.int .i64 y'] t)) (some ⟨n,0,none⟩) 2 2 [(x,y),(x',y')]:=by
 subst hn
 exact⟨rfl,Nat.le_refl _,by omega,fun k hk=>⟨_,0,rfl,fun k hk=>by
  have:k=0∨k=1:=by omega
  rcases this with rfl|rfl<;>simp⟩⟩
theorem bC.mono'{L:j7}(h:bC w base vs L)(hb:base'<=base):bC w base' vs L:=⟨h.len,fun i hi=>(h.row i hi).mono hb,h.apart⟩
theorem Ext.blk(hx:Ext w w'){o:Obj}(h:w.heap[b]?=some o):w'.heap[b]?=some o:=(hx.block b (lt_of_block h)).trans h
theorem jk{I:Nat}{K:Array Value}{G:TypeId}{z J:Nat×Nat}(h:w.heap[b]?=some (.cells c t z))(h':w.heap[I]?=some (.cells K G J))(hne:t≠G):b≠I:=by
 intro e;subst e;rw[h]at h';simp only[Option.some.injEq,Obj.cells.injEq]at h';exact hne h'.2.1
theorem RP(h:w.heap[b]?=some (.cells #[x,y] t (0,0))):w.cell? ⟨b,0,none⟩=some x:=by rw[cell_of_row w b 0 _ _ _ h];rfl
theorem RO(h:w.heap[b]?=some (.cells #[x,y] t (0,0))):w.cell? ⟨b,1,none⟩=some y:=by rw[cell_of_row w b 1 _ _ _ h];rfl
end Go.Proofs.YtalmoolkhcgmmaaGreat
