import Derived.Test.YtalmoolkhcgmmaaGreatNqAltG1
import Derived.Test.YtalmoolkhcgmmaaGreatNqAltG0
set_option linter.unusedVariables false
set_option linter.unusedSimpArgs false
namespace Go.Proofs.YtalmoolkhcgmmaaGreat
variable{w w':World}{base n base' k cb:Nat}{v:Value}{l:j9}{a:j8}{vs:List Value}{L:j7}
set_option maxHeartbeats 16000000
open Go.RowKit
def o8(w:World)(base:Nat)(v:Value)(l:j9):Prop:=w.ownsRow base 3 1 v l.length (l.map (Value.int .i64))
def xe(w:World)(base:Nat)(v:Value)(vs:List Value):Prop:=w.ownsRow base 24 1 v vs.length vs
theorem o8.form(h:o8 w base v l):∃a cap,v=.slice a l.length cap/\l.length<=cap/\cap<=9223372036854775807:=by
 rcases h.2 with⟨rfl,h0⟩|⟨g,cap,cur,rfl,_,_,h1,h2,_⟩
 ·exact⟨none,0,by rw[h0],by omega,by omega⟩
 ·exact⟨_,cap,rfl,h1,by simpa[maxLen]using h2⟩
theorem o8.var(h:o8 w base v l):∃a n cap,v=.slice a n cap/\b7 (l.length=n):=by
 obtain⟨a,cap,e,_⟩:=h.form;exact⟨a,_,cap,e,rfl⟩
theorem o8.ints{cap:Nat}(h:o8 w base (.slice a n cap) l):Ints w a n cap l:=by
 rcases h.2 with⟨he,h0⟩|⟨g,cap',cur,he,_,hg,h1,h2,hs,ht⟩
 ·simp only[Value.slice.injEq]at he;obtain⟨rfl,rfl,rfl⟩:=he;exact⟨h0,Nat.le_refl _,by omega,fun k hk=>absurd hk b9⟩
 ·simp only[Value.slice.injEq]at he;obtain⟨rfl,rfl,rfl⟩:=he;refine⟨rfl,h1,by simpa[maxLen]using h2,fun k hk=>⟨g,0,rfl,fun k hk=>?_⟩⟩;rw[Nat.zero_add,cell_of_row w g k cur _ (0,0) hg];have:(cur.toList.take (l.length*1))[k]?=some (.int .i64 (l[k]?.getD 0)):=by rw[ht];simp[hk]
  rw[List.getElem?_take,if_pos b9]at this
  simpa using this
theorem o8.lt(h:o8 w base v l):∀k,v.ownBlock=some k->base<=k/\k<w.heap.size:=World.ownsRow.lt h
theorem o8.keep(h:o8 w base v l)(hk:∀k,v.ownBlock=some k->w'.heap[k]?=w.heap[k]?):o8 w' base v l:=by
 refine⟨h.1,?_⟩
 rcases h.2 with hn|⟨g,cap,cur,rfl,hb,G,rest⟩
 ·exact .inl hn
 ·exact .inr ⟨g,cap,cur,rfl,hb,(hk g rfl).trans G,rest⟩
theorem o8.ext(h:o8 w base v l)(hx:Ext w w'):o8 w' base v l:=h.keep fun k hk=>hx.block k (h.lt k hk).2
theorem o8.on(h:o8 w base v l):On base w (fun W=>o8 W base v l):=fun w2 h2=>h.keep fun k hk=>h2 k (h.lt k hk).1 (h.lt k hk).2
theorem o8.mono(h:o8 w base v l)(hb:base'<=base):o8 w base' v l:=by
 refine⟨h.1,?_⟩
 rcases h.2 with hn|⟨g,cap,cur,rfl,zd,rest⟩
 ·exact .inl hn
 ·exact .inr ⟨g,cap,cur,rfl,by omega,rest⟩
theorem o8.nil(w:World)(base:Nat):o8 w base (.slice none 0 0) []:=World.ownsRow_nil w base _ 1
theorem xe.form(h:xe w base v vs):∃a cap,v=.slice a vs.length cap/\vs.length<=cap/\cap<=9223372036854775807:=by
 rcases h.2 with⟨rfl,h0⟩|⟨g,cap,cur,rfl,_,_,h1,h2,_⟩
 ·exact⟨none,0,by rw[h0],by omega,by omega⟩
 ·exact⟨_,cap,rfl,h1,by simpa[maxLen]using h2⟩
theorem xe.var(h:xe w base v vs):∃a n cap,v=.slice a n cap/\b7 (vs.length=n):=by
 obtain⟨a,cap,e,_⟩:=h.form;exact⟨a,_,cap,e,rfl⟩
theorem xe.cell{cap:Nat}(h:xe w base (.slice a n cap) vs)(hk:k<n):∃g,a=some ⟨g,0,none⟩/\base<=g/\∀k,k<n->w.cell? ⟨g,k,none⟩=vs[k]?:=by
 rcases h.2 with⟨he,h0⟩|⟨g,cap',cur,he,hb,hg,h1,h2,hs,ht⟩
 ·simp only[Value.slice.injEq]at he;omega
 ·simp only[Value.slice.injEq]at he;obtain⟨rfl,rfl,rfl⟩:=he;refine⟨g,rfl,hb,fun k hk=>?_⟩;rw[cell_of_row w g k cur _ (0,0) hg];have:(cur.toList.take (vs.length*1))[k]?=vs[k]?:=by rw[ht]
  rw[List.getElem?_take,if_pos b9]at this
  simpa using this
theorem xe.len{cap:Nat}(h:xe w base (.slice a n cap) vs):vs.length=n:=by
 obtain⟨a',cap',he,_⟩:=h.form;simp only[Value.slice.injEq]at he;exact he.2.1.symm
theorem xe.lt(h:xe w base v vs):∀k,v.ownBlock=some k->base<=k/\k<w.heap.size:=World.ownsRow.lt h
theorem xe.keep(h:xe w base v vs)(hk:∀k,v.ownBlock=some k->w'.heap[k]?=w.heap[k]?):xe w' base v vs:=by
 refine⟨h.1,?_⟩
 rcases h.2 with hn|⟨g,cap,cur,rfl,hb,G,rest⟩
 ·exact .inl hn
 ·exact .inr ⟨g,cap,cur,rfl,hb,(hk g rfl).trans G,rest⟩
theorem xe.ext(h:xe w base v vs)(hx:Ext w w'):xe w' base v vs:=h.keep fun k hk=>hx.block k (h.lt k hk).2
theorem xe.on(h:xe w base v vs):On base w (fun W=>xe W base v vs):=fun w2 h2=>h.keep fun k hk=>h2 k (h.lt k hk).1 (h.lt k hk).2
theorem xe.nil(w:World)(base:Nat):xe w base (.slice none 0 0) []:=World.ownsRow_nil w base _ 1
theorem o8.apart{G:Value}(h:o8 w base v l)(h':xe w base' G vs):∀k,v.ownBlock=some k->G.ownBlock≠some k:=by
 intro k hk C0
 rcases h.2 with⟨rfl,_⟩|⟨g,cap,cur,rfl,_,hg,_⟩
 ·simp[Value.ownBlock]at hk
 ·rcases h'.2 with⟨rfl,_⟩|⟨g',cap',cur',rfl,_,I,_⟩
  ·simp[Value.ownBlock]at C0
  ·simp only[Value.ownBlock,Option.some.injEq]at hk C0;subst hk C0;rw[hg]at I;simp at I
section
variable{P:Program}{w:World}{ops:Array Oper}{rest:List Oper}{o:Oper}{a:Act}{Q:Exit->Act->World->Prop}
theorem co{K:Act->World->Prop}(s x:Operand)(ho:o.op=.call { callee:=.builtin .append,args:=#[s,x],argTypes:=#[24,24] })
 (base:Nat) (v:Value) (l:j9) (hs:a.eval s=v) (R:o8 w base v l) (U:j8) (m c:Nat) (O:j9) (hx:a.eval x=.slice U m c) (I:Ints w U m c O) (hb:l.length+m<=1099511627776) (G:base<=w.heap.size)
 (h:∀J w',o8 w' base J (l++O)->w.grownBy w' v.ownBlock->Aw w v J->K (a.put o.dst J) w'):o.wp Tryz.prog a w K Q:=by
 obtain⟨i,hi,W,CE,DA⟩:=info_parts Tryz.IK;cases U with
 | none =>
   have hm:m=0:=by
    rcases Nat.eq_zero_or_pos m with h0|h0
    ·exact h0
    ·obtain⟨b,off,e,_⟩:=I.cell 0 h0;cases e
   subst hm;have hl:O=[]:=List.eq_nil_of_length_eq_zero I.hlen;subst hl;refine fB w s x 24 ho base 3 i 1 Tryz.underlying24 hi v l.length _ hs R c hx ?_;exact h v w (by simpa using R) (World.grownBy.refl _ _) (Aw.refl _ _)
 | some ad =>
   refine eN w s x 24 ho base 3 i (.int .i64 0) 1 8 Tryz.underlying24 hi W CE DA rfl (by decide) v l.length (l.map (Value.int .i64)) hs R ad m c (O.map (Value.int .i64)) hx (by simp[I.hlen]) ?_ ?_ (by simp[maxLen];omega) b9 G ?_
   ·intro j u hu;have hj:j<m:=by
     have:=(List.getElem?_eq_some_iff.1 hu).1
     simpa[I.hlen]using this
    have hj':j<O.length:=by have:=I.hlen;omega
    obtain⟨b,off,e,hc⟩:=I.cell j hj;simp only[Option.some.injEq]at e;subst e;have ha:(⟨b,off,none⟩:Addr).add j=⟨b,off+j,none⟩:=by unfold Addr.add;split<;>simp_all
    rw[ha,hc j hj];simp only[List.getElem?_map,List.getElem?_eq_getElem hj',Option.map_some,Option.some.injEq,Option.getD_some]at hu⊢;exact hu
   ·intro u hu;obtain⟨z,_,rfl⟩:=List.mem_map.1 hu
    rfl
   ·intro J w' h1 h2 h3;refine h J w' ?_ h2 h3;unfold o8;rw[List.length_append,I.hlen,List.map_append];exact h1
theorem bm(R:o.guard=none)(s x:Operand)(ho:o.op=.call { callee:=.builtin .append,args:=#[s,x],argTypes:=#[24,24] })
 (base:Nat) (v:Value) (l:j9) (hs:a.eval s=v) (O:o8 w base v l) (K:j8) (m c:Nat) (J:j9) (hx:a.eval x=.slice K m c) (U:Ints w K m c J) (hb:l.length+m<=1099511627776) (G:base<=w.heap.size)
 (h:∀I w',o8 w' base I (l++J)->w.grownBy w' v.ownBlock->Aw w v I->wpList Tryz.prog ops Q rest (a.put o.dst I) w'):wpList Tryz.prog ops Q (o::rest) a w :=
 wpList_plain R fun _ hK=>co s x ho base v l hs O K m c J hx U hb G fun I w' h1 h2 h3=>hK _ _ (h I w' h1 h2 h3)
theorem eD{K:Act->World->Prop}(s x:Operand)(ho:o.op=.call { callee:=.builtin .append,args:=#[s,x],argTypes:=#[50,50] })
 (base:Nat) (v:Value) (vs:List Value) (hs:a.eval s=v) (U:xe w base v vs) (R:Addr) (u:Value) (c:Nat) (hx:a.eval x=.slice (some R) 1 c)
 (G:w.cell? R=some u) (O:u.oneCell'=true) (hb:vs.length<=1099511627775) (I:base<=w.heap.size)
 (h:∀J w',xe w' base J (vs++[u])->w.grownBy w' v.ownBlock->Aw w v J->K (a.put o.dst J) w'):o.wp Tryz.prog a w K Q:=by
 obtain⟨i,hi,W,CE,DA⟩:=info_parts Tryz.LU;refine eN w s x 50 ho base 24 i (.slice none 0 0) 1 24 Tryz.underlying50 hi W CE DA rfl (by decide) v vs.length vs hs U R 1 c [u] hx rfl ?_ ?_ (by simp[maxLen];omega) b9 I ?_
 ·intro j Z hu
  match j with
  | 0=>simpa[Addr.add]using hu▸G
  | j+1=>simp at hu
 ·intro Z hu;simp only[List.mem_singleton]at hu;rw[hu];exact O
 ·intro J w' h1 h2 h3;refine h J w' ?_ h2 h3;unfold xe;rw[List.length_append];exact h1
theorem eL(U:o.guard=none)(s x:Operand)(ho:o.op=.call { callee:=.builtin .append,args:=#[s,x],argTypes:=#[50,50] })
 (base:Nat) (v:Value) (vs:List Value) (hs:a.eval s=v) (R:xe w base v vs) (O:Addr) (u:Value) (c:Nat) (hx:a.eval x=.slice (some O) 1 c)
 (G:w.cell? O=some u) (K:u.oneCell'=true) (hb:vs.length<=1099511627775) (I:base<=w.heap.size)
 (h:∀J w',xe w' base J (vs++[u])->w.grownBy w' v.ownBlock->Aw w v J->wpList Tryz.prog ops Q rest (a.put o.dst J) w'):wpList Tryz.prog ops Q (o::rest) a w :=
 wpList_plain U fun _ hK=>eD s x ho base v vs hs R O u c hx G K hb I fun J w' h1 h2 h3=>hK _ _ (h J w' h1 h2 h3)
end
theorem Ints.one(w:World)(x:Int)(t:TypeId):Ints (w.alloc (.cells #[.int .i64 x] t)) (some ⟨w.heap.size,0,none⟩) 1 1 [x] :=
 ⟨rfl,Nat.le_refl _,by omega,fun k hk=>⟨_,0,rfl,fun k hk=>by
  obtain rfl:k=0:=by omega
  simp⟩⟩
def yk(k:Int)(n:Nat):j9:=(List.range n).map fun(i:Nat)=>k+(i:Int)
theorem rC(k:Int)(n:Nat):(yk k n).length=n:=by simp[yk]
theorem o8.set{g cap:Nat}(h:o8 w base (.slice (some ⟨g,0,none⟩) n cap) l)(k:Nat)(x:Int):
 o8 (w.setCell ⟨g,k,none⟩ (.int .i64 x)) base (.slice (some ⟨g,0,none⟩) n cap) (l.set k x):=by
 obtain⟨a',c',he,_⟩:=o8.form h;simp only[Value.slice.injEq]at he;obtain⟨_,rfl,_⟩:=he;have:=(World.ownsRow.stored h k (.int .i64 x)).1;unfold o8;rw[List.length_set,List.map_set];exact this
theorem o8.block{cap:Nat}(h:o8 w base (.slice a n cap) l)(hk:k<n):∃g,a=some ⟨g,0,none⟩/\base<=g/\(∀j,w.frozen? ⟨g,j,none⟩=false)/\g<w.heap.size:=by
 rcases h.2 with⟨he,h0⟩|⟨g,cap',cur,he,hb,hg,_⟩
 ·simp only[Value.slice.injEq]at he;omega
 ·simp only[Value.slice.injEq]at he;obtain⟨rfl,_⟩:=he;exact⟨g,rfl,hb,fun j=>frozen_of_row w g j cur _ hg,lt_of_block hg⟩
structure bC(w:World)(base:Nat)(vs:List Value)(L:j7):Prop where
 len:vs.length=L.length
 row:∀i,i<L.length->o8 w base (vs[i]?.getD undef) (L[i]?.getD [])
 apart:∀i j k,i<j->j<L.length->(vs[i]?.getD undef).ownBlock=some k->(vs[j]?.getD undef).ownBlock≠some k
theorem bC.keep(h:bC w base vs L)(hk:∀i k,i<L.length->(vs[i]?.getD undef).ownBlock=some k->w'.heap[k]?=w.heap[k]?):bC w' base vs L :=
 ⟨h.len,fun i hi=>(h.row i hi).keep fun k C0=>hk i k hi C0,h.apart⟩
theorem bC.ext(h:bC w base vs L)(hx:Ext w w'):bC w' base vs L :=
 h.keep fun i k hi hk=>hx.block k ((h.row i hi).lt k hk).2
theorem bC.nil(w:World)(base:Nat):bC w base [] []:=⟨rfl,fun i hi=>absurd hi e7,fun i j k _ hj=>absurd hj e7⟩
theorem bC.on(h:bC w base vs L):On base w (fun W=>bC W base vs L) :=
 fun w2 h2=>h.keep fun i k hi hk=>h2 k ((h.row i hi).lt k hk).1 ((h.row i hi).lt k hk).2
theorem bC.snoc(h:bC w base vs L)(hx:Ext w w')(ho:o8 w' w.heap.size v l)(hb:base<=w.heap.size):bC w' base (vs++[v]) (L++[l]):=by
 have h':=h.ext hx;refine⟨by simp[h.len],fun i hi=>?_,fun i j k IW hj hk=>?_⟩
 ·by_cases hl:i<L.length
  ·rw[List.getElem?_append_left (by rw[h.len];exact hl),List.getElem?_append_left hl];exact h'.row i hl
  ·have:i=L.length:=by simp at hi;omega
   subst this;rw[<-h.len];simp only[List.getElem?_concat_length,Option.getD_some];rw[h.len];simp only[List.getElem?_concat_length,Option.getD_some];exact ho.mono hb
 ·by_cases hl:j<L.length
  ·rw[List.getElem?_append_left (by rw[h.len];omega)]at hk;rw[List.getElem?_append_left (by rw[h.len];exact hl)];exact h.apart i j k IW hl hk
  ·have:j=L.length:=by simp at hj;omega
   subst this;rw[List.getElem?_append_left (by rw[h.len];omega)]at hk;rw[<-h.len];simp only[List.getElem?_concat_length,Option.getD_some];intro C0;have h1:=((h.row i b9).lt k hk).2;have h2:=(ho.lt k C0).1;omega
def dI(w:World)(base:Nat)(v:Value)(L:j7):Prop:=∃vs,xe w base v vs/\bC w base vs L
theorem dI.form(h:dI w base v L):∃a cap,v=.slice a L.length cap/\L.length<=cap/\cap<=9223372036854775807:=by
 obtain⟨vs,h1,h2⟩:=h;have:=h1.form
 rwa [h2.len]at this
theorem dI.nil(w:World)(base:Nat):dI w base (.slice none 0 0) []:=⟨[],xe.nil w base,bC.nil w base⟩
theorem dI.Fg{cap:Nat}(h:dI w base (.slice a n cap) L):et w a n cap L:=by
 obtain⟨I,G,he,h1,h2⟩:=h.form;simp only[Value.slice.injEq]at he;obtain⟨rfl,rfl,rfl⟩:=he;obtain⟨vs,h3,h4⟩:=h;refine⟨rfl,h1,h2,fun k hk=>?_⟩;obtain⟨g,rfl,_,hc⟩:=h3.cell hk;refine⟨g,0,rfl,fun k hk=>?_⟩;have hv:k<vs.length:=by rw[h4.len];exact hk
 obtain⟨I,G,hf,_⟩:=(h4.row k hk).form;have ho:=h4.row k hk;rw[hf]at ho;refine⟨I,_,G,?_,ho.ints⟩;rw[Nat.zero_add,hc k hk,<-hf];simp[hv]
theorem Row.own{b:Nat}(h:Row w b 3 l)(hb:base<=b)(hn:l.length=n)(hm:n<=1099511627776):o8 w base (.slice (some ⟨b,0,none⟩) n n) l:=by
 subst hn;refine⟨by simp,.inr ⟨b,l.length,bw l,rfl,hb,h,?_,?_,?_,?_⟩⟩
 ·omega
 ·simp[maxLen];omega
 ·simp[bw]
 ·simp[bw,List.take_of_length_le]
def bit(s:Int)(k:Nat):Bool:=decide (s/2^k % 2=1)
def xt(s k:Int):Bool:=decide (0<=s)&&(wJ k 0 4&&bit s k.toNat)
def zu(n:Int):Int:=if wJ n 0 5 then 2^n.toNat else 0
theorem Qw(a b:Nat)(ha:a<9223372036854775808)(hb:b<9223372036854775808):bits .and .i64 (a:Int) (b:Int)=((a &&& b:Nat):Int):=by
 have hx:a &&& b<2^63:=Nat.and_lt_two_pow _ b9;have h1:(BitVec.ofInt 64 (a:Int)).toNat=a:=by rw[BitVec.ofInt_natCast,BitVec.toNat_ofNat];exact Nat.mod_eq_of_lt b9
 have h2:(BitVec.ofInt 64 (b:Int)).toNat=b:=by rw[BitVec.ofInt_natCast,BitVec.toNat_ofNat];exact Nat.mod_eq_of_lt b9
 show IntKind.i64.wrap ((BitVec.ofInt 64 (a:Int) &&& BitVec.ofInt 64 (b:Int)).toNat:Int)=_;rw[BitVec.toNat_and,h1,h2,IntKind.wrap_i64];omega
theorem SG(a b:Nat)(ha:a<9223372036854775808)(hb:b<9223372036854775808):bits .or .i64 (a:Int) (b:Int)=((a ||| b:Nat):Int):=by
 have hx:a ||| b<2^63:=Nat.or_lt_two_pow b9 b9
 have h1:(BitVec.ofInt 64 (a:Int)).toNat=a:=by rw[BitVec.ofInt_natCast,BitVec.toNat_ofNat];exact Nat.mod_eq_of_lt b9
 have h2:(BitVec.ofInt 64 (b:Int)).toNat=b:=by rw[BitVec.ofInt_natCast,BitVec.toNat_ofNat];exact Nat.mod_eq_of_lt b9
 show IntKind.i64.wrap ((BitVec.ofInt 64 (a:Int) ||| BitVec.ofInt 64 (b:Int)).toNat:Int)=_;rw[BitVec.toNat_or,h1,h2,IntKind.wrap_i64];omega
theorem and_one(x:Int)(h:0<=x)(h':x<=9223372036854775807):bits BinOp.and IntKind.i64 x 1=x % 2:=by
 obtain⟨n,rfl⟩:∃n:Nat,x=n:=⟨x.toNat,by omega⟩;have:=Qw n 1 b9 b9;rw[Nat.and_one_is_mod]at this;have h2:((n % 2:Nat):Int)=(n:Int) % 2:=by omega
 exact this.trans h2
theorem gJ(k:Nat):(1:Int)<=2^k:=by
 have:(0:Int)<2^k:=Int.pow_pos (by decide);omega
theorem js(k:Nat)(h:k<=5):(2:Int)^k<=32:=by
 have:k=0∨k=1∨k=2∨k=3∨k=4∨k=5:=by omega
 rcases this with rfl|rfl|rfl|rfl|rfl|rfl<;>decide
theorem sL(s:Int)(k:Nat)(h:0<=s):0<=s/2^k/\s/2^k<=s:=by
 have:=gJ k;exact⟨Int.ediv_nonneg h b9,Int.ediv_le_self _ h⟩
theorem pY(s:Int)(k:Nat)(h:0<=s)(h':s<=9223372036854775807):(bits BinOp.and IntKind.i64 (s/2^k) 1 == 1)=bit s k:=by
 have:=sL s k h;rw[and_one _ this.1 b9];unfold bit;rw[Bool.eq_iff_iff];simp
theorem mj(k:Nat)(h:k<=5):wrap64 ((2:Int)^k)=2^k:=by
 have:=gJ k;have:=js k h;unfold wrap64;omega
theorem gQ(s k:Int)(w:World)(h':s<=9223372036854775807):
 Calls Tryz.prog 52 #[.int .i64 s,.int .i64 k] w fun e w'=>e=.returned (.bool (xt s k))/\w=w':=by
 by_cases hs:0<=s
 ·cases hk:wJ k 0 4
  ·go_enter Tryz.func52,Tryz.ntmps52
   go_wp2_with (first|(go_at_call 49;refine(aK _ _ _ _).mono ?_;rintro e w' ⟨rfl,rfl⟩));go_ret;exact⟨ag (by unfold xt;rw[hk];simp),rfl⟩
  ·obtain⟨n,rfl⟩:∃n:Nat,k=n:=⟨k.toNat,by unfold wJ at hk;simp at hk;omega⟩;have hn:n<=4:=by unfold wJ at hk;simp at hk;omega
   have hb:=pY s n hs h';go_enter Tryz.func52,Tryz.ntmps52
   go_wp2_with (first|(go_at_call 49;refine(aK _ _ _ _).mono ?_;rintro e w' ⟨rfl,rfl⟩));go_ret;exact⟨ag (by unfold xt;rw[hk];simp[hs]),rfl⟩
 ·go_enter Tryz.func52,Tryz.ntmps52
  go_wp2_with fail;go_ret;exact⟨ag (by unfold xt;rw[decide_eq_false b9];rfl),rfl⟩
theorem kX(n:Int)(w:World):Calls Tryz.prog 100 #[.int .i64 n] w fun e w'=>e=.returned (.int .i64 (zu n))/\w=w':=by
 cases hk:wJ n 0 5
 ·go_enter Tryz.func100,Tryz.ntmps100
  go_wp2_with (first|(go_at_call 49;refine(aK _ _ _ _).mono ?_;rintro e w' ⟨rfl,rfl⟩));go_ret;exact⟨aU (by unfold zu;rw[hk];rfl),rfl⟩
 ·obtain⟨k,rfl⟩:∃k:Nat,n=k:=⟨n.toNat,by unfold wJ at hk;simp at hk;omega⟩;have hn:k<=5:=by unfold wJ at hk;simp at hk;omega
  have hw:=mj k hn;go_enter Tryz.func100,Tryz.ntmps100
  go_wp2_with (first|(go_at_call 49;refine(aK _ _ _ _).mono ?_;rintro e w' ⟨rfl,rfl⟩));go_ret;exact⟨aU (by unfold zu;rw[hk];simpa using mj k hn),rfl⟩
theorem dA(n:Int)(w:World):Calls Tryz.prog 75 #[.int .i64 n] w fun e w'=>e=.returned (.int .i64 (zu n))/\w=w':=by
 cases hk:wJ n 0 5
 ·go_enter Tryz.func75,Tryz.ntmps75
  go_wp2_with (first|(go_at_call 74;refine(bG _ _ _ _).mono ?_;rintro e w' ⟨rfl,rfl⟩));go_ret;exact⟨aU (by unfold zu;rw[hk];rfl),rfl⟩
 ·obtain⟨m,rfl⟩:∃k:Nat,n=k:=⟨n.toNat,by unfold wJ at hk;simp at hk;omega⟩;have hn:m<=5:=by unfold wJ at hk;simp at hk;omega
  go_enter Tryz.func75,Tryz.ntmps75
  go_wp2_with (first|(go_at_call 74;refine(bG _ _ _ _).mono ?_;rintro e w' ⟨rfl,rfl⟩))
  go_loop [3,4] (fun s i=>∃(k:Nat) (z:Int),k<=m/\i=.int .i64 k/\s=.int .i64 z/\0<=z/\z<=32/\b7 (z=2^k)) (fun _ i=>m-(intOf i).toNat)
  case atStart=>exact⟨0,1,Nat.zero_le _,rfl,rfl,by omega,by omega,ae e7⟩
  case round =>
   obtain⟨k,z,Bf,rfl,rfl,y9,CE,HZ⟩:=hrel;by_cases hlt:k<m
   ·go_wp2
    go_round
    case rel =>
     refine⟨k+1,z*2,by omega,by go_num,rfl,by omega,?_,ae (by rw[HZ.o,Int.pow_succ])⟩;have:=js (k+1) b9;rw[Int.pow_succ,<-HZ.o]at this;exact this
    case measure=>simp[intOf];omega
   ·go_wp2
    go_ret;have G:k=m:=by omega
    subst G;exact⟨aU (by unfold zu;rw[hk];simpa using HZ.o),rfl⟩
theorem Nr(k:Int)(h:wJ k 0 4=true):zu k=2^k.toNat:=by
 unfold zu;rw[if_pos];unfold wJ at *;simp at *;omega
theorem tw(n:Int)(w:World):Calls Tryz.prog 92 #[.int .i64 n] w fun e w'=>e=.returned (.int .i64 (zu n))/\w=w':=by
 go_enter Tryz.func92,Tryz.ntmps92
 go_wp2_with (first|(go_at_call 75;refine(dA _ _).mono ?_;rintro e w' ⟨rfl,rfl⟩));go_ret;exact⟨rfl,rfl⟩
theorem ee(s k:Int)(w:World)(h':s<=9223372036854775807):
 Calls Tryz.prog 78 #[.int .i64 s,.int .i64 k] w fun e w'=>e=.returned (.bool (xt s k))/\w=w':=by
 cases hk:wJ k 0 4
 ·go_enter Tryz.func78,Tryz.ntmps78
  go_wp2_with (first|(go_at_call 74;refine(bG _ _ _ _).mono ?_;rintro e w' ⟨rfl,rfl⟩));go_ret;exact⟨ag (by unfold xt;rw[hk];simp),rfl⟩
 ·by_cases hs:0<=s
  ·obtain⟨n,rfl⟩:∃n:Nat,k=n:=⟨k.toNat,by unfold wJ at hk;simp at hk;omega⟩;have hn:n<=4:=by unfold wJ at hk;simp at hk;omega
   have hc:zu (n:Int)=2^n:=by rw[Nr _ hk];simp
   have hp:=gJ n;have hd:=sL s n hs;have FI:=hd.1;have hne:((2:Int)^n == 0)=false:=by simp;omega
   have HB:=ae (show(s/2^n % 2 == 1)=bit s n by unfold bit;rw[Bool.eq_iff_iff];simp);have HD:=ae hd;clear hd;go_enter Tryz.func78,Tryz.ntmps78
   go_wp2_with (first|(go_at_call 74;refine(bG _ _ _ _).mono ?_;rintro e w' ⟨rfl,rfl⟩)|(go_at_call 92;refine(tw _ _).mono ?_;rintro e w' ⟨rfl,rfl⟩));go_ret;exact⟨ag (by rw[HB.o];unfold xt;rw[hk];simp[hs]),rfl⟩
  ·go_enter Tryz.func78,Tryz.ntmps78
   go_wp2_with (first|(go_at_call 74;refine(bG _ _ _ _).mono ?_;rintro e w' ⟨rfl,rfl⟩));go_ret;exact⟨ag (by unfold xt;rw[decide_eq_false b9];rfl),rfl⟩
def wL(b:Bool):Int:=if b then 1 else 0
theorem fR(b:Bool)(w:World):Calls Tryz.prog 79 #[.bool b] w fun e w'=>e=.returned (.int .i64 (wL b))/\w=w':=by
 cases b
 all_goals
  go_enter Tryz.func79,Tryz.ntmps79
  go_wp2
  go_ret;exact⟨rfl,rfl⟩
theorem iw(s:Int)(k:Nat)(h:0<=s)(hk:k<=4):xt s (k:Int)=bit s k:=by
 unfold xt wJ;rw[decide_eq_true h,decide_eq_true b9,decide_eq_true b9];simp
def cN(n:Nat):Nat:=2^n
theorem kf(n:Nat):(cN n:Int)=2^n:=by unfold cN;simp
theorem cu(n:Nat)(h:n<=5):1<=cN n/\cN n<=32:=by
 have h1:=gJ n;have h2:=js n h;rw[<-kf]at h1 h2;omega
theorem fJ(n:Nat)(h:n<=5):zu (n:Int)=(cN n:Int):=by
 unfold zu;rw[if_pos (by unfold wJ;simp;omega),kf];simp
theorem Lb(n:Nat)(h:n<=5)(w:World):Calls Tryz.prog 75 #[.int .i64 (n:Int)] w fun e w'=>e=.returned (.int .i64 (cN n:Int))/\w=w':=by
 have:=dA n w
 rwa [fJ n h]at this
set_option maxRecDepth 100000
structure fc(w:World)(a:j8)(n cap:Nat):Prop where
 o3:n<=cap
 l9:cap<=9223372036854775807
 cell:∀k,k<n->∃b off,a=some ⟨b,off,none⟩/\∀k,k<n->∃x:Int,w.cell? ⟨b,off+k,none⟩=some (.int .u8 x)/\0<=x/\x<=255
theorem fc.ext{cap:Nat}(h:fc w a n cap)(hx:Ext w w'):fc w' a n cap :=
 ⟨h.o3,h.l9,fun k hk=>let⟨b,off,e,hc⟩:=h.cell k hk;⟨b,off,e,fun k hk=>let⟨x,h1,h2⟩:=hc k hk;⟨x,hx.k6 h1,h2⟩⟩⟩
theorem fc.at{cap:Nat}(h:fc w a n cap)(hk:k<n):∃b off x,a=some ⟨b,off,none⟩/\w.cell? ⟨b,off+k,none⟩=some (.int .u8 x)/\0<=x/\x<=255 :=
 let⟨b,off,e,hc⟩:=h.cell k hk;let⟨x,h1,h2,h3⟩:=hc k hk;⟨b,off,x,e,h1,h2,h3⟩
def Aa(w:World)(cb:Nat):Prop:=∃(ba:j8) (bn bc:Nat) (i h:Int),w.heap[cb]?=some (.cells #[.slice ba bn bc,.int .i64 i,.int .i64 h] 72 (0,0))/\fc w ba bn bc/\0<=i/\i<=bn/\∀b off,ba=some ⟨b,off,none⟩->0<bn->b<cb
theorem Aa.lt(h:Aa w cb):cb<w.heap.size:=by obtain⟨_,_,_,_,_,h,_⟩:=h;exact lt_of_block h
theorem Aa.ext(h:Aa w cb)(hx:Ext w w'):Aa w' cb:=by
 have hl:=h.lt;obtain⟨ba,bn,bc,i,v,h1,h2,h3⟩:=h;exact⟨ba,bn,bc,i,v,(hx.block _ hl).trans h1,h2.ext hx,h3⟩
theorem fL{b:Nat}(h:w'.heap[b]?=w.heap[b]?)(o:Nat):w'.cell? ⟨b,o,none⟩=w.cell? ⟨b,o,none⟩:=by
 simp only[World.cell?,h]
theorem oA{bn bc:Nat}{ba:j8}{i i' h v:Int}(hb:w.heap[cb]?=some (.cells #[.slice ba bn bc,.int .i64 i,.int .i64 h] 72 (0,0)))(I:fc w ba bn bc)
 (h0:0<=i') (h1:i'<=bn) (hne:∀b off,ba=some ⟨b,off,none⟩->0<bn->b<cb) {W0 W:World} (G:W0.heap[cb]?=some (.cells #[.slice ba bn bc,.int .i64 i',.int .i64 v] 72 (0,0))) (hg:w.grownBy W0 (some cb)) (hW:Ext W0 W):Aa W cb/\w.grownBy W (some cb):=by
 have hby0:fc W0 ba bn bc:=by
  refine⟨I.o3,I.l9,fun j hj=>?_⟩;obtain⟨b,off,e,hc⟩:=I.cell j hj;refine⟨b,off,e,fun j hj=>?_⟩;obtain⟨y,hy,xM⟩:=hc j hj;refine⟨y,(fL (hg.block b (World.block_lt_of_cell? _ _ hy) (fun e2=>Nat.ne_of_lt (hne b off e b9) (Option.some.inj e2))) _).trans hy,xM⟩
 exact⟨⟨ba,bn,bc,i',v,(hW.block _ (lt_of_block G)).trans G,hby0.ext hW,h0,h1,hne⟩,lj hg (dX none hW) (fun k hk=>by cases hk)⟩
theorem ND(x:Int)(m:Nat)(hm:m<2147483648):0<=bits .and .i64 x (m:Int)/\bits .and .i64 x (m:Int)<=m:=by
 have h2:(BitVec.ofInt 64 (m:Int)).toNat=m:=by rw[BitVec.ofInt_natCast,BitVec.toNat_ofNat];exact Nat.mod_eq_of_lt b9
 have e:bits .and .i64 x (m:Int)=IntKind.i64.wrap ((BitVec.ofInt 64 x &&& BitVec.ofInt 64 (m:Int)).toNat:Int):=rfl;rw[e,BitVec.toNat_and,h2];have:=Nat.and_le_right (n:=(BitVec.ofInt 64 x).toNat) (m:=m);rw[IntKind.wrap_i64];omega
theorem kF(x:Int):0<=bits .and .i64 x 255/\bits .and .i64 x 255<=255:=ND x 255 b9
theorem tv{cap:Nat}(h:fc w a n cap)(hn:n<=1048576):
 Calls Tryz.prog 13 #[.slice a n cap] w fun e w'=>(∃cb,e=.returned (.pointer (some ⟨cb,0,none⟩))/\w.heap.size<=cb/\Aa w' cb)/\Ext w w':=by
 have o3:=h.o3;have l9:=h.l9;have HB:=ae h
 have HLT:=ae (show∀b off,a=some ⟨b,off,none⟩->0<n->b<w.heap.size by
  intro b off e hp;obtain⟨b',off',x,e',hc,_⟩:=h.at hp;rw[e]at e';simp only[Option.some.injEq,Addr.mk.injEq,and_true]at e';obtain⟨rfl,rfl⟩:=e'
  exact World.block_lt_of_cell? _ _ hc)
 clear h;go_enter Tryz.func13,Tryz.ntmps13
 go_wp2_with fail
 go_loop [3,4] (fun hh ii=>∃(k:Nat) (hv:Int),k<=n/\ii=.int .i64 (k:Int)/\hh=.int .i64 hv) (fun _ ii=>n-(intOf ii).toNat)
 case atStart=>exact⟨0,_,Nat.zero_le _,rfl,rfl⟩
 case round =>
  obtain⟨k,hv,hk,rfl,rfl⟩:=hrel;by_cases hlt:k<n/\k<4000
  ·obtain⟨Tg,yp⟩:=hlt;obtain⟨b,off,x,rfl,hc,wI,wO⟩:=HB.o.at Tg;go_wp2_with fail
   go_round
   case rel=>exact⟨k+1,_,by omega,by go_num,rfl⟩
   case measure=>simp[intOf];omega
  ·have Ia:¬k<n∨(k<n/\¬k<4000):=by omega
   have HP:=ae (show Aa (w.alloc (.cells #[.slice a n cap,.int .i64 0,.int .i64 hv] 72)) w.heap.size from
    ⟨a,n,cap,0,hv,heap_alloc_new _ _,HB.o.ext (Ext.alloc _ _),by omega,by omega,fun b off e hp=>by have:=HLT.o b off e hp;omega⟩)
   clear hlt
   rcases Ia with Ia|⟨hge1,hge2⟩
   all_goals
    go_wp2_with fail;go_ret;exact⟨⟨_,rfl,Nat.le_refl _,HP.o⟩,Ext.alloc _ _⟩
theorem iH(h:Aa w cb):
 Calls Tryz.prog 93 #[.pointer (some ⟨cb,0,none⟩)] w fun e w'=>(∃x:Int,e=.returned (.int .i64 x)/\0<=x/\x<=255)/\Aa w' cb/\w.grownBy w' (some cb):=by
 obtain⟨ba,bn,bc,i,hv,hb,I,h0,h1,hne⟩:=h;have hl:=lt_of_block hb;have c0:w.cell? ⟨cb,0,none⟩=some (.slice ba bn bc):=by rw[cell_of_row w cb 0 _ _ _ hb];rfl
 have c1:w.cell? ⟨cb,1,none⟩=some (.int .i64 i):=by rw[cell_of_row w cb 1 _ _ _ hb];rfl
 have c2:w.cell? ⟨cb,2,none⟩=some (.int .i64 hv):=by rw[cell_of_row w cb 2 _ _ _ hb];rfl
 have f1:w.frozen? ⟨cb,1,none⟩=false:=frozen_of_row w cb 1 _ _ hb;have f2:w.frozen? ⟨cb,2,none⟩=false:=frozen_of_row w cb 2 _ _ hb;have J:=ae I;have HB:=ae hb;have Fu:=ae hne;have o3:=I.o3;have l9:=I.l9;clear hb I hne;by_cases hlt:i<bn
 ·obtain⟨k,rfl⟩:∃k:Nat,i=k:=⟨i.toNat,by omega⟩;obtain⟨b,off,x,rfl,hc,wI,wO⟩:=J.o.at (k:=k) b9;have G:b≠cb:=Nat.ne_of_lt (Fu.o b off rfl b9);go_enter Tryz.func93,Tryz.ntmps93
  have hbne':¬cb=b:=fun e=>G e.symm
  have D8:0<=(k:Int)+1:=by omega
  have hkj:(k:Int)+1<=9223372036854775807:=by omega
  have FW:=ae (fun(v:Int) (W:World) (hW:yd ((w.setCell ⟨cb,2,none⟩ (.int .i64 v)).setCell ⟨cb,1,none⟩ (.int .i64 ((k:Int)+1))) W) =>
   oA (i':=(k:Int)+1) (v:=v) HB.o J.o D8 b9 Fu.o (W0:=(w.setCell ⟨cb,2,none⟩ (.int .i64 v)).setCell ⟨cb,1,none⟩ (.int .i64 ((k:Int)+1)))
    (by rw[heap_setCell_same _ _ _ _ _ _ (heap_setCell_same _ _ _ _ _ _ HB.o)];rfl)
    ⟨rfl,rfl,rfl,by simp,fun j hj hne=>by
     have hj:j≠cb:=fun e=>hne (by rw[e])
     rw[heap_setCell_other _ _ _ _ hj,heap_setCell_other _ _ _ _ hj]⟩ hW.ext)
  go_wp2_with fail
  go_quiet (fail)
  go_wp2_with fail
  go_quiet (fail)
  go_wp2_with fail
  go_quiet (fail)
  go_wp2_with fail;refine bodyPost_ret (v:=.int .i64 _) (by simp[results,Tryz.results93,go_sem];rfl) rfl ⟨⟨_,rfl,(kF _).1,(kF _).2⟩,FW.o _ _ ⟨_,rfl⟩⟩
 ·have FW:=ae (fun(v:Int) (W:World) (hW:yd (w.setCell ⟨cb,2,none⟩ (.int .i64 v)) W) =>
   oA (i':=i) (v:=v) HB.o J.o h0 h1 Fu.o (W0:=w.setCell ⟨cb,2,none⟩ (.int .i64 v))
    (by rw[heap_setCell_same _ _ _ _ _ _ HB.o];rfl)
    ⟨rfl,rfl,rfl,by simp,fun j hj hne=>by
     have hj:j≠cb:=fun e=>hne (by rw[e])
     rw[heap_setCell_other _ _ _ _ hj]⟩ hW.ext)
  go_enter Tryz.func93,Tryz.ntmps93
  go_wp2_with fail
  go_quiet (fail)
  go_wp2_with fail
  go_quiet (fail)
  go_wp2_with fail;refine bodyPost_ret (v:=.int .i64 _) (by simp[results,Tryz.results93,go_sem];rfl) rfl ⟨⟨_,rfl,(kF _).1,(kF _).2⟩,FW.o _ _ (yd.trans ⟨_,rfl⟩ ⟨_,rfl⟩)⟩
def Zt(w:World)(cb:Nat)(lo hi:Int)(e:Ending)(w':World):Prop:=(∃x:Int,e=.returned (.int .i64 x)/\lo<=x/\x<=hi)/\Aa w' cb/\w.grownBy w' (some cb)
theorem dY{w1 G:World}(h:w.grownBy w1 (some cb))(k:w1.grownBy G (some cb)):w.grownBy G (some cb):=lj h k (fun k hk=>.inl hk)
theorem eO(h:Aa w cb)(n:Int)(hn:1<=n):
 Calls Tryz.prog 44 #[.pointer (some ⟨cb,0,none⟩),.int .i64 n] w (Zt w cb 0 (n-1)):=by
 have H:=ae h;clear h;have F4:¬n<=0:=by omega
 have hnz:(n == 0)=false:=by simp;omega
 by_cases hle:n<=256
 ·go_enter Tryz.func44,Tryz.ntmps44
  go_wp2_with fail;refine(iH H.o).mono ?_;rintro e w1 ⟨⟨x,rfl,wI,wO⟩,hc,hg⟩;have HC:=ae hc;have HG:=ae hg;clear hc hg;go_wp2_with fail;go_ret;refine⟨⟨_,rfl,Int.emod_nonneg _ b9,?_⟩,HC.o,HG.o⟩;have:=Int.emod_lt_of_pos x (show 0<n by omega);omega
 ·go_enter Tryz.func44,Tryz.ntmps44
  go_wp2_with fail;refine(iH H.o).mono ?_;rintro e w1 ⟨⟨x,rfl,wI,wO⟩,hc,hg⟩;have H1:=ae hc;have R:=ae hg;clear hc hg;go_wp2_with fail;refine(iH H1.o).mono ?_;rintro e w2 ⟨⟨y,rfl,AJ,xM⟩,hc,hg⟩;have H2:=ae hc;have O:=ae (dY R.o hg);clear hc hg;go_wp2_with fail;refine(iH H2.o).mono ?_;rintro e w3 ⟨⟨z,rfl,y9,CE⟩,hc,hg⟩;have I:=ae hc;have K:=ae (dY O.o hg);clear hc hg;go_wp2_with fail;refine(iH I.o).mono ?_;rintro e w4 ⟨⟨u,rfl,Od,IN⟩,hc,hg⟩;have G:=ae hc;have J:=ae (dY K.o hg);clear hc hg;go_wp2_with fail;go_ret;refine⟨⟨_,rfl,Int.emod_nonneg _ b9,?_⟩,G.o,J.o⟩;have:=Int.emod_lt_of_pos (x*16777216+y*65536+z*256+u) (show 0<n by omega);omega
theorem eh(h:Aa w cb){cap:Nat}(hl:Ints w a n cap l)(hn:1<=n)(hne:∀b off,a=some ⟨b,off,none⟩->b≠cb):
 Calls Tryz.prog 88 #[.pointer (some ⟨cb,0,none⟩),.slice a n cap] w fun e w'=>(∃k:Nat,k<n/\e=.returned (.int .i64 (l[k]?.getD 0)))/\Aa w' cb/\w.grownBy w' (some cb):=by
 have o3:=hl.o3;have l9:=hl.l9;have H:=ae (eO h (n:Int) b9);have HL:=ae hl;have HN:=ae hne;clear h hl hne;go_enter Tryz.func88,Tryz.ntmps88
 go_wp2_with fail;refine H.o.mono ?_;rintro e w1 ⟨⟨x,rfl,wI,wO⟩,hc,hg⟩;obtain⟨k,rfl⟩:∃k:Nat,x=k:=⟨x.toNat,by omega⟩;have hk:k<n:=by omega
 obtain⟨b,off,rfl,G⟩:=HL.o.at hk;have hcell1:w1.cell? ⟨b,off+k,none⟩=some (.int .i64 (l[k]?.getD 0)) :=
  (fL (hg.block b (World.block_lt_of_cell? _ _ G) (fun e=>HN.o b off rfl (Option.some.inj e))) _).trans G
 have HC:=ae hc;have HG:=ae hg;clear hc hg G;go_wp2_with fail;go_ret;exact⟨⟨k,hk,rfl⟩,HC.o,HG.o⟩
open Go.ChangeShapes Go.WideShapes Go.ChangeAt Go.RowKit Go.Joins Go.Deep
section
variable{H:Type}{enc:TypeId×Value->H}{P:Program}{w:World}{base:Nat}{spare:Nat->Bool}{held:Bool}
theorem up{t e:TypeId}{fuel:Nat}{v:Value}{x:DataW H×List MemPlace}(ht:P.underlying t=some (.slice e))(he:P.underlying e=some (.int .u8))(hc:P.cellsOf e=1)
 (h:DataW.trod enc P w base spare held fuel t [v]=some x):∃a n cap,v=.slice a n cap/\fc w a n cap:=by
 obtain⟨a,n,cap,l,hv,hl,h1,h2,h3⟩:=vS (E:=fun u z=>u=.int .u8 z/\0<=z/\z<=255) ht hc (fun n u y hy=>by
  obtain⟨z,hz,_,wf⟩:=DataW.trod_int he hy
  exact⟨z,by simpa using hz,wf_u8 wf⟩) h
 refine⟨a,n,cap,hv,⟨h1,h2,fun k hk=>?_⟩⟩;obtain⟨b,off,ha,hc⟩:=h3 k hk;refine⟨b,off,ha,fun k hk=>?_⟩;obtain⟨u,h4,h5,G⟩:=hc k hk;exact⟨_,by rw[h4,h5],G⟩
end
end Go.Proofs.YtalmoolkhcgmmaaGreat
