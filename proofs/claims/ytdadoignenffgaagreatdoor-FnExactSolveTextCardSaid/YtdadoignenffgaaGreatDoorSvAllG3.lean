import Derived.Test.YtdadoignenffgaaGreatDoorSvAllG0
import Derived.Deep.RegionLaw
import Derived.Test.YtdadoignenffgaaGreatDoorSvAllG2
import Derived.Test.YtdadoignenffgaaGreatDoorSvAllG1
set_option linter.unusedVariables false
set_option linter.unusedSimpArgs false
namespace Go.Proofs.YtdadoignenffgaaGreatDoor
variable{w w':World}{a:j6}{K:Act->World->Prop}{Q:Exit->Act->World->Prop}{base n base':Nat}{v:Value}{l:j7}{vs:List Value}{L:j5}
set_option maxHeartbeats 16000000
open Go.RowKit
def y9(w:World)(v v':Value):Prop:=∀k,v'.ownBlock=some k->v.ownBlock=some k∨w.heap.size<=k
theorem y9.refl(w:World)(v:Value):y9 w v v:=fun k hk=>.inl hk
theorem qE{G E:World}{r I:Option Nat}(h:w.grownBy G r)(h1:G.grownBy E I)(hr:∀k,I=some k->r=some k∨w.heap.size<=k):w.grownBy E r :=
 ⟨h1.os.trans h.os,h1.tape.trans h.tape,h1.output.trans h.output,Nat.le_trans h.size h1.size,fun k hk hne=>by
  refine(h1.block k (Nat.lt_of_lt_of_le hk h.size) fun e=>?_).trans (h.block k hk hne)
  rcases hr k e.symm with h2|h2
  ·exact hne h2.symm
  ·omega⟩
theorem RZ{E:World}(r:Option Nat)(h:Ext w E):w.grownBy E r:=⟨h.os,h.tape,h.output,h.size,fun k hk _=>h.block k hk⟩
theorem ak{w0:World}{row:Option Nat}(h:Ext w0 w)(hg:w.grownBy w' row)(hr:∀k,row=some k->w0.heap.size<=k):Ext w0 w':=Below.grown h hg h.size hr
section
variable{P:Program}(w:World)
theorem lY(base:Nat)(t ty e:TypeId)(i:TypeInfo)(z:Value)(size bytes:Nat)(ht:P.underlying t=some (.slice e))(hi:P.info? e=some i)(hz:i.zero=some z)
 (I:i.size=size) (W:i.bytes=bytes) (hzs:z.cells.size=size) (hsz:0<size)
 (v:Value) (n:Nat) (xs:List Value) (wQ:w.ownsRow base e size v n xs)
 (a:Addr) (m c:Nat) (news:List Value) (hl:news.length=m*size) (E:∀j u,news[j]?=some u->w.cell? (a.add j)=some u) (h1:∀u∈news,u.oneCell'=true)
 (Z:n+m<=maxLen) (G:(n+m)*bytes<=140737488355328) (O:base<=w.heap.size) :
 ∃U w',(Builtin.append_ #[t,t] ty #[v,.slice (some a) m c]).run P w=.ok U w'/\w'.ownsRow base e size U (n+m) (xs++news)/\w.grownBy w' v.ownBlock/\y9 w v U:=by
 obtain⟨U,w',hrun,h2,h3,_⟩:=run_append_own (P:=P) w base t ty e i z size bytes ht hi hz I W hzs hsz v n xs wQ a m c news hl E h1 Z G O;refine⟨U,w',hrun,h2,h3,?_⟩;subst I;subst W;have WX:n+m<=9223372036854775807:=by simp only[maxLen]at Z;omega
 rcases wQ.2 with⟨rfl,rfl⟩|⟨g,cap,cur,rfl,RS,hg,Td,D2,hcs,htake⟩
 ·by_cases hm:m=0
  ·subst hm;intro k hk
   rcases h2.2 with⟨rfl,_⟩|⟨g',cap',cur',rfl,_,Fy,_⟩
   ·simp[Value.ownBlock]at hk
   ·have hn:news=[]:=List.eq_nil_of_length_eq_zero (by simpa using hl);subst hn;have:(Builtin.append_ #[t,t] ty #[Value.slice none 0 0,.slice (some a) 0 c]).run P w=.ok (.slice none 0 0) w:=by
     simp[Builtin.append_,run_underlying ht,sizeOf,typeInfo,hi,Builtin.lenOf,Builtin.firstCells,loadCells,loadCellsFrom]
    rw[this]at hrun;simp at hrun
  ·have hr:=run_append_nil (P:=P) w t ty e i z ht hi hz a m c news hl E e7 e7 (by have hb:=G;simp only[Nat.zero_add]at hb;omega);rw[hr]at hrun;simp only[Result.ok.injEq]at hrun;obtain⟨rfl,rfl⟩:=hrun;intro k hk;exact .inr (Nat.le_of_eq (Option.some.inj (show some w.heap.size=some k from hk)))
 ·by_cases J:n+m<=cap
  ·have F6:n*i.size+news.length<=cur.size:=by rw[hl,hcs,<-Nat.add_mul];exact Nat.mul_le_mul_right _ J
   have hr:=run_append_room (P:=P) w t ty e i ht hi g n cap cur hg a m c news hl E h1 J F6;rw[hr]at hrun;simp only[Result.ok.injEq]at hrun;obtain⟨rfl,rfl⟩:=hrun;intro k hk;exact .inl hk
  ·have holds:∀j u,xs[j]?=some u->w.cell? ((⟨g,0,none⟩:Addr).add j)=some u:=wQ.cells (g:=g) rfl;have hr:=run_append_grow (P:=P) w t ty e i z ht hi hz ⟨g,0,none⟩ n cap xs wQ.1 holds a m c news hl E e7 e7 (growslice_fits e7 G);rw[hr]at hrun;simp only[Result.ok.injEq]at hrun;obtain⟨rfl,rfl⟩:=hrun;intro k hk;exact .inr (Nat.le_of_eq (Option.some.inj (show some w.heap.size=some k from hk)))
theorem el{o:Oper}{a:Act}{K:Act->World->Prop}{Q:Exit->Act->World->Prop}(s x:Operand)(t:TypeId)
 (ho:o.op=.call { callee:=.builtin .append,args:=#[s,x],argTypes:=#[t,t] })
 (base:Nat) (e:TypeId) (i:TypeInfo) (z:Value) (size bytes:Nat) (ht:P.underlying t=some (.slice e)) (hi:P.info? e=some i) (hz:i.zero=some z)
 (G:i.size=size) (W:i.bytes=bytes) (U:z.cells.size=size) (hsz:0<size)
 (v:Value) (n:Nat) (xs:List Value) (hs:a.eval s=v) (wQ:w.ownsRow base e size v n xs)
 (ad:Addr) (m c:Nat) (news:List Value) (hx:a.eval x=.slice (some ad) m c) (hl:news.length=m*size) (I:∀j u,news[j]?=some u->w.cell? (ad.add j)=some u) (h1:∀u∈news,u.oneCell'=true)
 (Z:n+m<=maxLen) (E:(n+m)*bytes<=140737488355328) (J:base<=w.heap.size)
 (h:∀O w',w'.ownsRow base e size O (n+m) (xs++news)->w.grownBy w' v.ownBlock->y9 w v O->K (a.put o.dst O) w'):o.wp P a w K Q:=by
 obtain⟨O,w',hr,h2,h3,h4⟩:=lY (P:=P) w base t o.type e i z size bytes ht hi hz G W U hsz v n xs wQ ad m c news hl I h1 Z E J;unfold Oper.wp execOp;simp only[ho,resolve,invoke,builtin,Sem.run_bind,Sem.run_pure,Result.andThen_ok,List.map_toArray,List.map_cons,List.map_nil,hs,hx,hr];exact h O w' h2 h3 h4
theorem eU{o:Oper}{a:Act}{K:Act->World->Prop}{Q:Exit->Act->World->Prop}(s x:Operand)(t:TypeId)
 (G:o.op=.call { callee:=.builtin .append,args:=#[s,x],argTypes:=#[t,t] })
 (base:Nat) (e:TypeId) (i:TypeInfo) (size:Nat) (ht:P.underlying t=some (.slice e)) (hi:P.info? e=some i)
 (v:Value) (n:Nat) (xs:List Value) (hs:a.eval s=v) (E:w.ownsRow base e size v n xs) (c:Nat) (hx:a.eval x=.slice none 0 c)
 (h:K (a.put o.dst v) w):o.wp P a w K Q:=by
 have hrun:(Builtin.append_ #[t,t] o.type #[v,.slice none 0 c]).run P w=.ok v w:=by
  rcases E.2 with⟨rfl,rfl⟩|⟨g,cap,cur,rfl,_,_,I,_⟩
  ·simp[Builtin.append_,run_underlying ht,sizeOf,typeInfo,hi,Builtin.lenOf,Builtin.firstCells]
  ·simp[Builtin.append_,run_underlying ht,sizeOf,typeInfo,hi,Builtin.lenOf,Builtin.firstCells,I,storeCells]
 unfold Oper.wp execOp;simp only[G,resolve,invoke,builtin,Sem.run_bind,Sem.run_pure,Result.andThen_ok,List.map_toArray,List.map_cons,List.map_nil,hs,hx,hrun];exact h
theorem bW{ops:Array Oper}{o:Oper}{a:Act}{K:Act->World->Prop}{Q:Exit->Act->World->Prop}{E:Prop}(G:o.guard=none)(h:o.wp P a w K Q):
 if Region.wanted o (yielded ops a.tmps)=true then Oper.wp P o a w K Q else E:=by
 have hw:Region.wanted o (yielded ops a.tmps)=true:=by simp[Region.wanted,G]
 rw[if_pos hw];exact h
end
def o5(w:World)(base:Nat)(v:Value)(l:j7):Prop:=w.ownsRow base 3 1 v l.length (l.map (Value.int .i64))
def vv(w:World)(base:Nat)(v:Value)(vs:List Value):Prop:=w.ownsRow base 30 1 v vs.length vs
theorem o5.form(h:o5 w base v l):∃a cap,v=.slice a l.length cap/\l.length<=cap/\cap<=9223372036854775807:=by
 rcases h.2 with⟨rfl,h0⟩|⟨g,cap,cur,rfl,_,_,h1,h2,_⟩
 ·exact⟨none,0,by rw[h0],by omega,by omega⟩
 ·exact⟨_,cap,rfl,h1,by simpa[maxLen]using h2⟩
theorem o5.var(h:o5 w base v l):∃a n cap,v=.slice a n cap/\b7 (l.length=n):=by
 obtain⟨a,cap,e,_⟩:=h.form;exact⟨a,_,cap,e,rfl⟩
theorem o5.ints{cap:Nat}(h:o5 w base (.slice a n cap) l):Ints w a n cap l:=by
 rcases h.2 with⟨he,h0⟩|⟨g,cap',cur,he,_,hg,h1,h2,hs,ht⟩
 ·simp only[Value.slice.injEq]at he;obtain⟨rfl,rfl,rfl⟩:=he;exact⟨h0,Nat.le_refl _,by omega,fun k hk=>absurd hk e7⟩
 ·simp only[Value.slice.injEq]at he;obtain⟨rfl,rfl,rfl⟩:=he;refine⟨rfl,h1,by simpa[maxLen]using h2,fun k hk=>⟨g,0,rfl,fun k hk=>?_⟩⟩;rw[Nat.zero_add,cell_of_row w g k cur _ (0,0) hg];have:(cur.toList.take (l.length*1))[k]?=some (.int .i64 (l[k]?.getD 0)):=by rw[ht];simp[hk]
  rw[List.getElem?_take,if_pos e7]at this
  simpa using this
theorem o5.lt(h:o5 w base v l):∀k,v.ownBlock=some k->base<=k/\k<w.heap.size:=World.ownsRow.lt h
theorem o5.keep(h:o5 w base v l)(hk:∀k,v.ownBlock=some k->w'.heap[k]?=w.heap[k]?):o5 w' base v l:=by
 refine⟨h.1,?_⟩
 rcases h.2 with hn|⟨g,cap,cur,rfl,hb,E,rest⟩
 ·exact .inl hn
 ·exact .inr ⟨g,cap,cur,rfl,hb,(hk g rfl).trans E,rest⟩
theorem o5.ext(h:o5 w base v l)(hx:Ext w w'):o5 w' base v l:=h.keep fun k hk=>hx.block k (h.lt k hk).2
theorem o5.on(h:o5 w base v l):On base w (fun W=>o5 W base v l):=fun w2 h2=>h.keep fun k hk=>h2 k (h.lt k hk).1 (h.lt k hk).2
theorem o5.mono(h:o5 w base v l)(hb:base'<=base):o5 w base' v l:=by
 refine⟨h.1,?_⟩
 rcases h.2 with hn|⟨g,cap,cur,rfl,xS,rest⟩
 ·exact .inl hn
 ·exact .inr ⟨g,cap,cur,rfl,by omega,rest⟩
theorem o5.nil(w:World)(base:Nat):o5 w base (.slice none 0 0) []:=World.ownsRow_nil w base _ 1
theorem vv.form(h:vv w base v vs):∃a cap,v=.slice a vs.length cap/\vs.length<=cap/\cap<=9223372036854775807:=by
 rcases h.2 with⟨rfl,h0⟩|⟨g,cap,cur,rfl,_,_,h1,h2,_⟩
 ·exact⟨none,0,by rw[h0],by omega,by omega⟩
 ·exact⟨_,cap,rfl,h1,by simpa[maxLen]using h2⟩
theorem vv.var(h:vv w base v vs):∃a n cap,v=.slice a n cap/\b7 (vs.length=n):=by
 obtain⟨a,cap,e,_⟩:=h.form;exact⟨a,_,cap,e,rfl⟩
theorem vv.cell{cap:Nat}(h:vv w base (.slice a n cap) vs){k:Nat}(hk:k<n):∃g,a=some ⟨g,0,none⟩/\base<=g/\∀k,k<n->w.cell? ⟨g,k,none⟩=vs[k]?:=by
 rcases h.2 with⟨he,h0⟩|⟨g,cap',cur,he,hb,hg,h1,h2,hs,ht⟩
 ·simp only[Value.slice.injEq]at he;omega
 ·simp only[Value.slice.injEq]at he;obtain⟨rfl,rfl,rfl⟩:=he;refine⟨g,rfl,hb,fun k hk=>?_⟩;rw[cell_of_row w g k cur _ (0,0) hg];have:(cur.toList.take (vs.length*1))[k]?=vs[k]?:=by rw[ht]
  rw[List.getElem?_take,if_pos e7]at this
  simpa using this
theorem vv.len{cap:Nat}(h:vv w base (.slice a n cap) vs):vs.length=n:=by
 obtain⟨a',cap',he,_⟩:=h.form;simp only[Value.slice.injEq]at he;exact he.2.1.symm
theorem vv.lt(h:vv w base v vs):∀k,v.ownBlock=some k->base<=k/\k<w.heap.size:=World.ownsRow.lt h
theorem vv.keep(h:vv w base v vs)(hk:∀k,v.ownBlock=some k->w'.heap[k]?=w.heap[k]?):vv w' base v vs:=by
 refine⟨h.1,?_⟩
 rcases h.2 with hn|⟨g,cap,cur,rfl,hb,E,rest⟩
 ·exact .inl hn
 ·exact .inr ⟨g,cap,cur,rfl,hb,(hk g rfl).trans E,rest⟩
theorem vv.ext(h:vv w base v vs)(hx:Ext w w'):vv w' base v vs:=h.keep fun k hk=>hx.block k (h.lt k hk).2
theorem vv.on(h:vv w base v vs):On base w (fun W=>vv W base v vs):=fun w2 h2=>h.keep fun k hk=>h2 k (h.lt k hk).1 (h.lt k hk).2
theorem vv.nil(w:World)(base:Nat):vv w base (.slice none 0 0) []:=World.ownsRow_nil w base _ 1
theorem o5.apart{E:Value}(h:o5 w base v l)(h':vv w base' E vs):∀k,v.ownBlock=some k->E.ownBlock≠some k:=by
 intro k hk Bn
 rcases h.2 with⟨rfl,_⟩|⟨g,cap,cur,rfl,_,hg,_⟩
 ·simp[Value.ownBlock]at hk
 ·rcases h'.2 with⟨rfl,_⟩|⟨g',cap',cur',rfl,_,G,_⟩
  ·simp[Value.ownBlock]at Bn
  ·simp only[Value.ownBlock,Option.some.injEq]at hk Bn;subst hk Bn;rw[hg]at G;simp at G
section
variable{P:Program}{w:World}{ops:Array Oper}{rest:List Oper}{o:Oper}{a:Act}{Q:Exit->Act->World->Prop}
theorem cD{K:Act->World->Prop}(s x:Operand)(W:o.op=.call { callee:=.builtin .append,args:=#[s,x],argTypes:=#[30,30] })
 (base:Nat) (v:Value) (l:j7) (hs:a.eval s=v) (O:o5 w base v l) (U:j6) (m c:Nat) (J:j7) (hx:a.eval x=.slice U m c) (G:Ints w U m c J) (hb:l.length+m<=1099511627776) (E:base<=w.heap.size)
 (h:∀I w',o5 w' base I (l++J)->w.grownBy w' v.ownBlock->y9 w v I->K (a.put o.dst I) w'):o.wp Tryz.prog a w K Q:=by
 obtain⟨i,hi,xr,Cm,A4⟩:=info_parts Tryz.Gu;cases U with
 | none =>
   have hm:m=0:=by
    rcases Nat.eq_zero_or_pos m with h0|h0
    ·exact h0
    ·obtain⟨b,off,e,_⟩:=G.cell 0 h0;cases e
   subst hm;have hl:J=[]:=List.eq_nil_of_length_eq_zero G.hlen;subst hl;refine eU w s x 30 W base 3 i 1 Tryz.underlying30 hi v l.length _ hs O c hx ?_;exact h v w (by simpa using O) (World.grownBy.refl _ _) (y9.refl _ _)
 | some ad =>
   refine el w s x 30 W base 3 i (.int .i64 0) 1 8 Tryz.underlying30 hi xr Cm A4 rfl (by decide) v l.length (l.map (Value.int .i64)) hs O ad m c (J.map (Value.int .i64)) hx (by simp[G.hlen]) ?_ ?_ (by simp[maxLen];omega) e7 E ?_
   ·intro j u hu;have Z:j<m:=by
     have:=(List.getElem?_eq_some_iff.1 hu).1
     simpa[G.hlen]using this
    have hj':j<J.length:=by have:=G.hlen;omega
    obtain⟨b,off,e,hc⟩:=G.cell j Z;simp only[Option.some.injEq]at e;subst e;have ha:(⟨b,off,none⟩:Addr).add j=⟨b,off+j,none⟩:=by unfold Addr.add;split<;>simp_all
    rw[ha,hc j Z];simp only[List.getElem?_map,List.getElem?_eq_getElem hj',Option.map_some,Option.some.injEq,Option.getD_some]at hu⊢;exact hu
   ·intro u hu;obtain⟨z,_,rfl⟩:=List.mem_map.1 hu
    rfl
   ·intro I w' h1 h2 h3;refine h I w' ?_ h2 h3;unfold o5;rw[List.length_append,G.hlen,List.map_append];exact h1
theorem bv(W:o.guard=none)(s x:Operand)(U:o.op=.call { callee:=.builtin .append,args:=#[s,x],argTypes:=#[30,30] })
 (base:Nat) (v:Value) (l:j7) (hs:a.eval s=v) (O:o5 w base v l) (J:j6) (m c:Nat) (I:j7) (hx:a.eval x=.slice J m c) (Z:Ints w J m c I) (hb:l.length+m<=1099511627776) (E:base<=w.heap.size)
 (h:∀G w',o5 w' base G (l++I)->w.grownBy w' v.ownBlock->y9 w v G->wpList Tryz.prog ops Q rest (a.put o.dst G) w'):wpList Tryz.prog ops Q (o::rest) a w :=
 wpList_plain W fun _ hK=>cD s x U base v l hs O J m c I hx Z hb E fun G w' h1 h2 h3=>hK _ _ (h G w' h1 h2 h3)
theorem eE{K:Act->World->Prop}(s x:Operand)(ho:o.op=.call { callee:=.builtin .append,args:=#[s,x],argTypes:=#[66,66] })
 (base:Nat) (v:Value) (vs:List Value) (hs:a.eval s=v) (W:vv w base v vs) (O:Addr) (u:Value) (c:Nat) (hx:a.eval x=.slice (some O) 1 c)
 (E:w.cell? O=some u) (J:u.oneCell'=true) (hb:vs.length<=1099511627775) (G:base<=w.heap.size)
 (h:∀I w',vv w' base I (vs++[u])->w.grownBy w' v.ownBlock->y9 w v I->K (a.put o.dst I) w'):o.wp Tryz.prog a w K Q:=by
 obtain⟨i,hi,U,Cm,A4⟩:=info_parts Tryz.JB;refine el w s x 66 ho base 30 i (.slice none 0 0) 1 24 Tryz.underlying66 hi U Cm A4 rfl (by decide) v vs.length vs hs W O 1 c [u] hx rfl ?_ ?_ (by simp[maxLen];omega) e7 G ?_
 ·intro j Z hu
  match j with
  | 0=>simpa[Addr.add]using hu▸E
  | j+1=>simp at hu
 ·intro Z hu;simp only[List.mem_singleton]at hu;rw[hu];exact J
 ·intro I w' h1 h2 h3;refine h I w' ?_ h2 h3;unfold vv;rw[List.length_append];exact h1
theorem eF(Z:o.guard=none)(s x:Operand)(W:o.op=.call { callee:=.builtin .append,args:=#[s,x],argTypes:=#[66,66] })
 (base:Nat) (v:Value) (vs:List Value) (hs:a.eval s=v) (U:vv w base v vs) (O:Addr) (u:Value) (c:Nat) (hx:a.eval x=.slice (some O) 1 c)
 (E:w.cell? O=some u) (J:u.oneCell'=true) (hb:vs.length<=1099511627775) (G:base<=w.heap.size)
 (h:∀I w',vv w' base I (vs++[u])->w.grownBy w' v.ownBlock->y9 w v I->wpList Tryz.prog ops Q rest (a.put o.dst I) w'):wpList Tryz.prog ops Q (o::rest) a w :=
 wpList_plain Z fun _ hK=>eE s x W base v vs hs U O u c hx E J hb G fun I w' h1 h2 h3=>hK _ _ (h I w' h1 h2 h3)
end
theorem Ints.one(w:World)(x:Int)(t:TypeId):Ints (w.alloc (.cells #[.int .i64 x] t)) (some ⟨w.heap.size,0,none⟩) 1 1 [x] :=
 ⟨rfl,Nat.le_refl _,by omega,fun k hk=>⟨_,0,rfl,fun k hk=>by
  obtain rfl:k=0:=by omega
  simp⟩⟩
def yA(k:Int)(n:Nat):j7:=(List.range n).map fun(i:Nat)=>k+(i:Int)
theorem pX(k:Int)(n:Nat):(yA k n).length=n:=by simp[yA]
theorem o5.set{g cap:Nat}(h:o5 w base (.slice (some ⟨g,0,none⟩) n cap) l)(k:Nat)(x:Int):
 o5 (w.setCell ⟨g,k,none⟩ (.int .i64 x)) base (.slice (some ⟨g,0,none⟩) n cap) (l.set k x):=by
 obtain⟨a',c',he,_⟩:=o5.form h;simp only[Value.slice.injEq]at he;obtain⟨_,rfl,_⟩:=he;have:=(World.ownsRow.stored h k (.int .i64 x)).1;unfold o5;rw[List.length_set,List.map_set];exact this
theorem o5.block{cap:Nat}(h:o5 w base (.slice a n cap) l){k:Nat}(hk:k<n):∃g,a=some ⟨g,0,none⟩/\base<=g/\(∀j,w.frozen? ⟨g,j,none⟩=false)/\g<w.heap.size:=by
 rcases h.2 with⟨he,h0⟩|⟨g,cap',cur,he,hb,hg,_⟩
 ·simp only[Value.slice.injEq]at he;omega
 ·simp only[Value.slice.injEq]at he;obtain⟨rfl,_⟩:=he;exact⟨g,rfl,hb,fun j=>frozen_of_row w g j cur _ hg,lt_of_block hg⟩
structure bu(w:World)(base:Nat)(vs:List Value)(L:j5):Prop where
 len:vs.length=L.length
 row:∀i,i<L.length->o5 w base (vs[i]?.getD undef) (L[i]?.getD [])
 apart:∀i j k,i<j->j<L.length->(vs[i]?.getD undef).ownBlock=some k->(vs[j]?.getD undef).ownBlock≠some k
theorem bu.keep(h:bu w base vs L)(hk:∀i k,i<L.length->(vs[i]?.getD undef).ownBlock=some k->w'.heap[k]?=w.heap[k]?):bu w' base vs L :=
 ⟨h.len,fun i hi=>(h.row i hi).keep fun k Bn=>hk i k hi Bn,h.apart⟩
theorem bu.ext(h:bu w base vs L)(hx:Ext w w'):bu w' base vs L :=
 h.keep fun i k hi hk=>hx.block k ((h.row i hi).lt k hk).2
theorem bu.nil(w:World)(base:Nat):bu w base [] []:=⟨rfl,fun i hi=>absurd hi e8,fun i j k _ hj=>absurd hj e8⟩
theorem bu.on(h:bu w base vs L):On base w (fun W=>bu W base vs L) :=
 fun w2 h2=>h.keep fun i k hi hk=>h2 k ((h.row i hi).lt k hk).1 ((h.row i hi).lt k hk).2
theorem bu.snoc(h:bu w base vs L)(hx:Ext w w')(E:o5 w' w.heap.size v l)(hb:base<=w.heap.size):bu w' base (vs++[v]) (L++[l]):=by
 have h':=h.ext hx;refine⟨by simp[h.len],fun i hi=>?_,fun i j k Hg hj hk=>?_⟩
 ·by_cases hl:i<L.length
  ·rw[List.getElem?_append_left (by rw[h.len];exact hl),List.getElem?_append_left hl];exact h'.row i hl
  ·have:i=L.length:=by simp at hi;omega
   subst this;rw[<-h.len];simp only[List.getElem?_concat_length,Option.getD_some];rw[h.len];simp only[List.getElem?_concat_length,Option.getD_some];exact E.mono hb
 ·by_cases hl:j<L.length
  ·rw[List.getElem?_append_left (by rw[h.len];omega)]at hk;rw[List.getElem?_append_left (by rw[h.len];exact hl)];exact h.apart i j k Hg hl hk
  ·have:j=L.length:=by simp at hj;omega
   subst this;rw[List.getElem?_append_left (by rw[h.len];omega)]at hk;rw[<-h.len];simp only[List.getElem?_concat_length,Option.getD_some];intro G;have h1:=((h.row i e7).lt k hk).2;have h2:=(E.lt k G).1;omega
def cV(w:World)(base:Nat)(v:Value)(L:j5):Prop:=∃vs,vv w base v vs/\bu w base vs L
theorem cV.form(h:cV w base v L):∃a cap,v=.slice a L.length cap/\L.length<=cap/\cap<=9223372036854775807:=by
 obtain⟨vs,h1,h2⟩:=h;have:=h1.form
 rwa [h2.len]at this
theorem cV.var(h:cV w base v L):∃a n cap,v=.slice a n cap/\b7 (L.length=n):=by
 obtain⟨a,cap,e,_⟩:=h.form;exact⟨a,_,cap,e,rfl⟩
theorem cV.ext(h:cV w base v L)(hx:Ext w w'):cV w' base v L :=
 let⟨vs,h1,h2⟩:=h;⟨vs,h1.ext hx,h2.ext hx⟩
theorem cV.on(h:cV w base v L):On base w (fun W=>cV W base v L) :=
 let⟨vs,h1,h2⟩:=h;fun E hw=>⟨vs,h1.on E hw,h2.on E hw⟩
theorem cV.DC{cap:Nat}(h:cV w base (.slice a n cap) L):dV w a n cap L:=by
 obtain⟨I,E,he,h1,h2⟩:=h.form;simp only[Value.slice.injEq]at he;obtain⟨rfl,rfl,rfl⟩:=he;obtain⟨vs,h3,h4⟩:=h;refine⟨rfl,h1,h2,fun k hk=>?_⟩;obtain⟨g,rfl,_,hc⟩:=h3.cell hk;refine⟨g,0,rfl,fun k hk=>?_⟩;have hv:k<vs.length:=by rw[h4.len];exact hk
 obtain⟨I,E,hf,_⟩:=(h4.row k hk).form;have G:=h4.row k hk;rw[hf]at G;refine⟨I,_,E,?_,G.ints⟩;rw[Nat.zero_add,hc k hk,<-hf];simp[hv]
theorem Row.own{b:Nat}(h:Row w b 3 l)(hb:base<=b)(hn:l.length=n)(hm:n<=1099511627776):o5 w base (.slice (some ⟨b,0,none⟩) n n) l:=by
 subst hn;refine⟨by simp,.inr ⟨b,l.length,bh l,rfl,hb,h,?_,?_,?_,?_⟩⟩
 ·omega
 ·simp[maxLen];omega
 ·simp[bh]
 ·simp[bh,List.take_of_length_le]
theorem o5.made(w:World)(base:Nat)(hb:base<=w.heap.size):o5 (w.alloc (.cells #[] 3)) base (.slice (some ⟨w.heap.size,0,none⟩) 0 0) [] :=
 World.ownsRow_lit w #[] 0 hb e7 rfl
theorem iG{cap:Nat}(h:Ints w a n cap l)(hb:n<=1099511627776):
 Calls Tryz.prog 62 #[.slice a n cap] w fun e w'=>∃v,e=.returned v/\o5 w' w.heap.size v l/\Ext w w':=by
 have heq:∀w':World,(binOp .eql 30 (.slice a n cap) (.slice none 0 0)).run Tryz.prog w'=.ok (.bool a.isNone) w':=fun w'=>Lib.run_eql_slice_nil w' _ _ a n cap 0 0 Tryz.underlying30
 have HL:=ae h.hlen;cases a with
 | none =>
   have hl:l=[]:=by
    have:¬0<n:=fun hn=>by obtain⟨b,off,e,_⟩:=h.cell 0 hn;cases e
    exact List.eq_nil_of_length_eq_zero (j1 HL.o)
   simp only[Option.isNone_none]at heq;go_enter Tryz.func62,Tryz.ntmps62
   go_wp2
   go_ret;exact⟨_,rfl,by rw[hl];exact o5.nil w _,Ext.refl _⟩
 | some ad =>
   simp only[Option.isNone_some]at heq;have HI:=ae (h.alloc (.cells #[] 3));have HO:=ae (o5.made w w.heap.size (Nat.le_refl _));clear h;go_enter Tryz.func62,Tryz.ntmps62
   go_wp2_with (first|(at_builtin;refine bv rfl _ _ rfl w.heap.size _ _ rfl HO.o _ n _ l rfl HI.o (by simpa using hb) e8 ?_;intro v' w1 ho hg l7));go_ret;exact⟨_,rfl,ho,ak (Ext.alloc _ _) hg (fun k hk=>Nat.le_of_eq (Option.some.inj (show some w.heap.size=some k from hk)))⟩
theorem Sm(k:Nat)(h:k<=5)(w:World):Calls Tryz.prog 43 #[.int .i64 (k:Int)] w fun e w'=>e=.returned (.int .i64 (2^k))/\w=w':=by
 have:=rI k w
 rwa [iH k h,gK]at this
end Go.Proofs.YtdadoignenffgaaGreatDoor
