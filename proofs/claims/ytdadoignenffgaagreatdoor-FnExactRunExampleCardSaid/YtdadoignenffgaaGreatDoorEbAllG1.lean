import Derived.Test.YtdadoignenffgaaGreatDoorEbAllG0
import Derived.Deep.RegionLaw
set_option linter.unusedVariables false
set_option linter.unusedSimpArgs false
namespace Go.Proofs.YtdadoignenffgaaGreatDoor
variable{w w':World}{a:j6}{n k base base':Nat}{L:j5}{fid:FuncId}{K:Act->World->Prop}{Q:Exit->Act->World->Prop}{v:Value}{l:j7}{vs:List Value}
set_option maxHeartbeats 16000000
open Go.RowKit
structure cH(w:World)(a:j6)(n cap:Nat)(L:j5):Prop where
 hlen:L.length=n
 l8:n<=cap
 l9:cap<=9223372036854775807
 cell:∀k,k<n->∃b off,a=some ⟨b,off,none⟩/\∀k,k<n->∃a' n' c',w.cell? ⟨b,off+k,none⟩=some (.slice a' n' c')/\Ints w a' n' c' (L[k]?.getD [])
theorem cH.ext{cap:Nat}(h:cH w a n cap L)(hx:Ext w w'):cH w' a n cap L :=
 ⟨h.hlen,h.l8,h.l9,fun k hk=>let⟨b,off,e,hc⟩:=h.cell k hk;⟨b,off,e,fun k hk=>let⟨J,G,I,h1,h2⟩:=hc k hk;⟨J,G,I,hx.j9 h1,h2.ext hx⟩⟩⟩
theorem cH.at{cap:Nat}(h:cH w a n cap L)(hk:k<n):
 ∃b off a' n' c',a=some ⟨b,off,none⟩/\w.cell? ⟨b,off+k,none⟩=some (.slice a' n' c')/\Ints w a' n' c' (L[k]?.getD []) :=
 let⟨b,off,e,hc⟩:=h.cell k hk;let⟨a',n',c',h1,h2⟩:=hc k hk;⟨b,off,a',n',c',e,h1,h2⟩
theorem cH.alloc{cap:Nat}(h:cH w a n cap L)(o:Obj):cH (w.alloc o) a n cap L:=h.ext (Ext.alloc w o)
theorem eF{α:Type}{L:List (List α)}(h:k<L.length):L.take (k+1)=L.take k++[L[k]?.getD []]:=by
 rw[Kn h];simp[h]
theorem Tryz.NM:(Tryz.prog.info? 30).map (fun i=>(i.zero,i.size,i.bytes))=some (some (.slice none 0 0),1,24):=by kernel_rfl
def Filled(w:World)(B:Nat)(vs:List Value)(L:j5)(k:Nat):Prop :=
 ∀j,j<k->∃b m,vs[j]?=some (.slice (some ⟨b,0,none⟩) m m)/\B<b/\(L[j]?.getD []).length=m/\Row w b 3 (L[j]?.getD [])
def TL(P:Program)(w:World)(fid:FuncId)(ca:Array Value)(p:j7->Bool):Prop :=
 ∀(l:j7) (a:j6) (n c:Nat) (w1:World),Ext w w1->Ints w1 a n c l->Calls P fid (#[.slice a n c]++ca) w1 fun e w2=>e=.returned (.bool (p l))/\Ext w1 w2
theorem oJ{cap:Nat}{ca:Array Value}{p:j7->Bool}(h:cH w a n cap L)(hg:IsGo Tryz.prog fid)(hf:TL Tryz.prog w fid ca p):
 Calls Tryz.prog 134 #[.slice a n cap,.func (.func fid) #[] ca] w fun e w'=>e=.returned (.int .i64 (cl p L))/\Ext w w':=by
 have hn:=h.l8;have hm:=h.l9;have OI:∀(args:Array Value) (w:World),(callFunc fid args).run Tryz.prog w=.ok (.enter fid args) w:=hg;go_enter Tryz.func134,Tryz.ntmps134
 go_wp2
 go_loopw [8] (fun i wr=>∃k:Nat,k<=n/\i=.int .i64 k/\b7 ((L.take k).all (fun x=>!p x)=true)/\Ext w wr) (fun i _=>n-(intOf i).toNat)
 case atStart=>exact⟨0,KJ _,rfl,ae rfl,Ext.refl _⟩
 case round =>
  obtain⟨k,hk,rfl,HA,hx⟩:=hrel;by_cases hlt:k<n
  ·obtain⟨b,off,J,G,I,rfl,hc,hr⟩:=(h.ext hx).at hlt;have HL:=ae h.hlen;have HF:=ae (hf (L[k]?.getD []) J G I wr hx hr);clear hr;by_cases hb:p (L[k]?.getD [])=true
   ·have HB:=ae hb;go_wp2_with fail;refine HF.o.mono ?_;rintro e w2 ⟨rfl,zJ⟩
    go_wp2
    go_ret;exact⟨ap (eQ (j1 HL.o) HA.o HB.o).symm,hx.trans (by assumption)⟩
   ·have HB:=ae hb;simp only[abo]at hb;go_wp2_with fail;refine HF.o.mono ?_;rintro e w2 ⟨rfl,zJ⟩
    go_wp2
    go_roundw
    case rel=>exact⟨k+1,by omega,by go_num,ae (by rw[eF (j1 HL.o),RN,HA.o];simpa using HB.o),hx.trans (by assumption)⟩
    case measure=>simp[intOf];omega
  ·have HL:=ae h.hlen
   go_wp2
   go_ret;refine⟨ap ?_,hx⟩;have:=HA.o;rw[p4 (j1 HL.o)]at this;exact(dP this).symm
theorem kP{cap:Nat}{ca:Array Value}{p:j7->Bool}(h:cH w a n cap L)(hg:IsGo Tryz.prog fid)(hf:TL Tryz.prog w fid ca p):
 Calls Tryz.prog 205 #[.slice a n cap,.func (.func fid) #[] ca] w fun e w'=>e=.returned (.bool (L.any p))/\Ext w w':=by
 have HC:=ae (oJ h hg hf);go_enter Tryz.func205,Tryz.ntmps205
 go_wp2_with fail;refine HC.o.mono ?_;rintro e w2 ⟨rfl,zJ⟩
 go_wp2
 all_goals go_ret;refine⟨ag ?_,zJ⟩;rw[<-gG]
def Cx(w:World)(v v':Value):Prop:=∀k,v'.ownBlock=some k->v.ownBlock=some k∨w.heap.size<=k
theorem Cx.refl(w:World)(v:Value):Cx w v v:=fun k hk=>.inl hk
theorem mz{I G:World}{r r1:Option Nat}(h:w.grownBy I r)(h1:I.grownBy G r1)(hr:∀k,r1=some k->r=some k∨w.heap.size<=k):w.grownBy G r :=
 ⟨h1.os.trans h.os,h1.tape.trans h.tape,h1.output.trans h.output,SC h.size h1.size,fun k hk hne=>by
  refine(h1.block k (aa5 hk h.size) fun e=>?_).trans (h.block k hk hne)
  rcases hr k e.symm with h2|h2
  ·exact hne h2.symm
  ·omega⟩
theorem ij{G:World}(r:Option Nat)(h:Ext w G):w.grownBy G r:=⟨h.os,h.tape,h.output,h.size,fun k hk _=>h.block k hk⟩
theorem ak{w0:World}{row:Option Nat}(h:Ext w0 w)(hg:w.grownBy w' row)(hr:∀k,row=some k->w0.heap.size<=k):Ext w0 w':=Below.grown h hg h.size hr
section
variable{P:Program}(w:World)
theorem oX(base:Nat)(t ty e:TypeId)(i:TypeInfo)(z:Value)(size bytes:Nat)(ht:P.underlying t=some (.slice e))(hi:P.info? e=some i)(hz:i.zero=some z)
 (J:i.size=size) (JD:i.bytes=bytes) (XH:z.cells.size=size) (hsz:0<size)
 (v:Value) (n:Nat) (xs:List Value) (AI:w.ownsRow base e size v n xs)
 (a:Addr) (m c:Nat) (news:List Value) (hl:news.length=m*size) (G:∀j u,news[j]?=some u->w.cell? (a.add j)=some u) (h1:∀u∈news,u.oneCell'=true)
 (h63:n+m<=maxLen) (I:(n+m)*bytes<=140737488355328) (U:base<=w.heap.size) :
 ∃Z w',(Builtin.append_ #[t,t] ty #[v,.slice (some a) m c]).run P w=.ok Z w'/\w'.ownsRow base e size Z (n+m) (xs++news)/\w.grownBy w' v.ownBlock/\Cx w v Z:=by
 obtain⟨Z,w',hrun,h2,h3,_⟩:=run_append_own (P:=P) w base t ty e i z size bytes ht hi hz J JD XH hsz v n xs AI a m c news hl G h1 h63 I U;refine⟨Z,w',hrun,h2,h3,?_⟩;subst J;subst JD;have hsmall:n+m<=9223372036854775807:=by simp only[maxLen]at h63;omega
 rcases AI.2 with⟨rfl,rfl⟩|⟨g,cap,cur,rfl,WD,hg,YA,Iu,hcs,htake⟩
 ·by_cases hm:m=0
  ·subst hm;intro k hk
   rcases h2.2 with⟨rfl,_⟩|⟨g',cap',cur',rfl,_,J1,_⟩
   ·simp[Value.ownBlock]at hk
   ·have hn:news=[]:=Lj (by simpa using hl);subst hn;have:(Builtin.append_ #[t,t] ty #[Value.slice none 0 0,.slice (some a) 0 c]).run P w=.ok (.slice none 0 0) w:=by
     simp[Builtin.append_,adX ht,sizeOf,typeInfo,hi,Builtin.lenOf,Builtin.firstCells,loadCells,loadCellsFrom]
    rw[this]at hrun;simp at hrun
  ·have hr:=run_append_nil (P:=P) w t ty e i z ht hi hz a m c news hl G e7 e7 (by have hb:=I;simp only[Mf]at hb;omega);rw[hr]at hrun;simp only[adH]at hrun;obtain⟨rfl,rfl⟩:=hrun;intro k hk;exact .inr (aas (Og (show some w.heap.size=some k from hk)))
 ·by_cases O:n+m<=cap
  ·have Kv:n*i.size+news.length<=cur.size:=by rw[hl,hcs,<-Nat.add_mul];exact Nat.mul_le_mul_right _ O
   have hr:=run_append_room (P:=P) w t ty e i ht hi g n cap cur hg a m c news hl G h1 O Kv;rw[hr]at hrun;simp only[adH]at hrun;obtain⟨rfl,rfl⟩:=hrun;intro k hk;exact .inl hk
  ·have holds:∀j u,xs[j]?=some u->w.cell? ((⟨g,0,none⟩:Addr).add j)=some u:=AI.cells (g:=g) rfl;have hr:=run_append_grow (P:=P) w t ty e i z ht hi hz ⟨g,0,none⟩ n cap xs AI.1 holds a m c news hl G e7 e7 (growslice_fits e7 I);rw[hr]at hrun;simp only[adH]at hrun;obtain⟨rfl,rfl⟩:=hrun;intro k hk;exact .inr (aas (Og (show some w.heap.size=some k from hk)))
theorem eP{o:Oper}{a:Act}{K:Act->World->Prop}{Q:Exit->Act->World->Prop}(s x:Operand)(t:TypeId)
 (ho:o.op=.call { callee:=.builtin .append,args:=#[s,x],argTypes:=#[t,t] })
 (base:Nat) (e:TypeId) (i:TypeInfo) (z:Value) (size bytes:Nat) (ht:P.underlying t=some (.slice e)) (hi:P.info? e=some i) (hz:i.zero=some z)
 (I:i.size=size) (JD:i.bytes=bytes) (XH:z.cells.size=size) (Z:0<size)
 (v:Value) (n:Nat) (xs:List Value) (hs:a.eval s=v) (AI:w.ownsRow base e size v n xs)
 (ad:Addr) (m c:Nat) (news:List Value) (hx:a.eval x=.slice (some ad) m c) (hl:news.length=m*size) (J:∀j u,news[j]?=some u->w.cell? (ad.add j)=some u) (h1:∀u∈news,u.oneCell'=true)
 (h63:n+m<=maxLen) (G:(n+m)*bytes<=140737488355328) (O:base<=w.heap.size)
 (h:∀U w',w'.ownsRow base e size U (n+m) (xs++news)->w.grownBy w' v.ownBlock->Cx w v U->K (a.put o.dst U) w'):o.wp P a w K Q:=by
 obtain⟨U,w',hr,h2,h3,h4⟩:=oX (P:=P) w base t o.type e i z size bytes ht hi hz I JD XH Z v n xs AI ad m c news hl J h1 h63 G O;unfold Oper.wp execOp;simp only[ho,resolve,invoke,builtin,Sem.run_bind,Sem.run_pure,Result.andThen_ok,List.map_toArray,ad2,List.map_nil,hs,hx,hr];exact h U w' h2 h3 h4
theorem fN{o:Oper}{a:Act}{K:Act->World->Prop}{Q:Exit->Act->World->Prop}(s x:Operand)(t:TypeId)
 (ho:o.op=.call { callee:=.builtin .append,args:=#[s,x],argTypes:=#[t,t] })
 (base:Nat) (e:TypeId) (i:TypeInfo) (size:Nat) (ht:P.underlying t=some (.slice e)) (hi:P.info? e=some i)
 (v:Value) (n:Nat) (xs:List Value) (hs:a.eval s=v) (I:w.ownsRow base e size v n xs) (c:Nat) (hx:a.eval x=.slice none 0 c)
 (h:K (a.put o.dst v) w):o.wp P a w K Q:=by
 have hrun:(Builtin.append_ #[t,t] o.type #[v,.slice none 0 c]).run P w=.ok v w:=by
  rcases I.2 with⟨rfl,rfl⟩|⟨g,cap,cur,rfl,_,_,G,_⟩
  ·simp[Builtin.append_,adX ht,sizeOf,typeInfo,hi,Builtin.lenOf,Builtin.firstCells]
  ·simp[Builtin.append_,adX ht,sizeOf,typeInfo,hi,Builtin.lenOf,Builtin.firstCells,G,storeCells]
 unfold Oper.wp execOp;simp only[ho,resolve,invoke,builtin,Sem.run_bind,Sem.run_pure,Result.andThen_ok,List.map_toArray,ad2,List.map_nil,hs,hx,hrun];exact h
theorem bI{ops:Array Oper}{o:Oper}{a:Act}{K:Act->World->Prop}{Q:Exit->Act->World->Prop}{E:Prop}(G:o.guard=none)(h:o.wp P a w K Q):
 if Region.wanted o (yielded ops a.tmps)=true then Oper.wp P o a w K Q else E:=by
 have hw:Region.wanted o (yielded ops a.tmps)=true:=by simp[Region.wanted,G]
 rw[hI hw];exact h
end
def o4(w:World)(base:Nat)(v:Value)(l:j7):Prop:=w.ownsRow base 3 1 v l.length (l.map (Value.int .i64))
def zC(w:World)(base:Nat)(v:Value)(vs:List Value):Prop:=w.ownsRow base 30 1 v vs.length vs
theorem o4.form(h:o4 w base v l):∃a cap,v=.slice a l.length cap/\l.length<=cap/\cap<=9223372036854775807:=by
 rcases h.2 with⟨rfl,h0⟩|⟨g,cap,cur,rfl,_,_,h1,h2,_⟩
 ·exact⟨none,0,by rw[h0],by omega,by omega⟩
 ·exact⟨_,cap,rfl,h1,by simpa[maxLen]using h2⟩
theorem o4.var(h:o4 w base v l):∃a n cap,v=.slice a n cap/\b7 (l.length=n):=by
 obtain⟨a,cap,e,_⟩:=h.form;exact⟨a,_,cap,e,rfl⟩
theorem o4.ints{cap:Nat}(h:o4 w base (.slice a n cap) l):Ints w a n cap l:=by
 rcases h.2 with⟨he,h0⟩|⟨g,cap',cur,he,_,hg,h1,h2,hs,ht⟩
 ·simp only[C']at he;obtain⟨rfl,rfl,rfl⟩:=he;exact⟨h0,ao _,by omega,fun k hk=>absurd hk e7⟩
 ·simp only[C']at he;obtain⟨rfl,rfl,rfl⟩:=he;refine⟨rfl,h1,by simpa[maxLen]using h2,fun k hk=>⟨g,0,rfl,fun k hk=>?_⟩⟩;rw[Mf,tn w g k cur _ (0,0) hg];have:(cur.toList.take (l.length*1))[k]?=some (.int .i64 (l[k]?.getD 0)):=by rw[ht];simp[hk]
  rw[aao,hI e7]at this
  simpa using this
theorem o4.lt(h:o4 w base v l):∀k,v.ownBlock=some k->base<=k/\k<w.heap.size:=abQ h
theorem o4.keep(h:o4 w base v l)(hk:∀k,v.ownBlock=some k->w'.heap[k]?=w.heap[k]?):o4 w' base v l:=by
 refine⟨h.1,?_⟩
 rcases h.2 with hn|⟨g,cap,cur,rfl,hb,G,rest⟩
 ·exact .inl hn
 ·exact .inr ⟨g,cap,cur,rfl,hb,(hk g rfl).trans G,rest⟩
theorem o4.ext(h:o4 w base v l)(hx:Ext w w'):o4 w' base v l:=h.keep fun k hk=>hx.block k (h.lt k hk).2
theorem o4.on(h:o4 w base v l):On base w (fun W=>o4 W base v l):=fun w2 h2=>h.keep fun k hk=>h2 k (h.lt k hk).1 (h.lt k hk).2
theorem o4.mono(h:o4 w base v l)(hb:base'<=base):o4 w base' v l:=by
 refine⟨h.1,?_⟩
 rcases h.2 with hn|⟨g,cap,cur,rfl,Bg,rest⟩
 ·exact .inl hn
 ·exact .inr ⟨g,cap,cur,rfl,by omega,rest⟩
theorem o4.nil(w:World)(base:Nat):o4 w base (.slice none 0 0) []:=aaC w base _ 1
theorem zC.form(h:zC w base v vs):∃a cap,v=.slice a vs.length cap/\vs.length<=cap/\cap<=9223372036854775807:=by
 rcases h.2 with⟨rfl,h0⟩|⟨g,cap,cur,rfl,_,_,h1,h2,_⟩
 ·exact⟨none,0,by rw[h0],by omega,by omega⟩
 ·exact⟨_,cap,rfl,h1,by simpa[maxLen]using h2⟩
theorem zC.var(h:zC w base v vs):∃a n cap,v=.slice a n cap/\b7 (vs.length=n):=by
 obtain⟨a,cap,e,_⟩:=h.form;exact⟨a,_,cap,e,rfl⟩
theorem zC.cell{cap:Nat}(h:zC w base (.slice a n cap) vs)(hk:k<n):∃g,a=some ⟨g,0,none⟩/\base<=g/\∀k,k<n->w.cell? ⟨g,k,none⟩=vs[k]?:=by
 rcases h.2 with⟨he,h0⟩|⟨g,cap',cur,he,hb,hg,h1,h2,hs,ht⟩
 ·simp only[C']at he;omega
 ·simp only[C']at he;obtain⟨rfl,rfl,rfl⟩:=he;refine⟨g,rfl,hb,fun k hk=>?_⟩;rw[tn w g k cur _ (0,0) hg];have:(cur.toList.take (vs.length*1))[k]?=vs[k]?:=by rw[ht]
  rw[aao,hI e7]at this
  simpa using this
theorem zC.len{cap:Nat}(h:zC w base (.slice a n cap) vs):vs.length=n:=by
 obtain⟨a',cap',he,_⟩:=h.form;simp only[C']at he;exact he.2.1.symm
theorem zC.lt(h:zC w base v vs):∀k,v.ownBlock=some k->base<=k/\k<w.heap.size:=abQ h
theorem zC.keep(h:zC w base v vs)(hk:∀k,v.ownBlock=some k->w'.heap[k]?=w.heap[k]?):zC w' base v vs:=by
 refine⟨h.1,?_⟩
 rcases h.2 with hn|⟨g,cap,cur,rfl,hb,G,rest⟩
 ·exact .inl hn
 ·exact .inr ⟨g,cap,cur,rfl,hb,(hk g rfl).trans G,rest⟩
theorem zC.ext(h:zC w base v vs)(hx:Ext w w'):zC w' base v vs:=h.keep fun k hk=>hx.block k (h.lt k hk).2
theorem zC.on(h:zC w base v vs):On base w (fun W=>zC W base v vs):=fun w2 h2=>h.keep fun k hk=>h2 k (h.lt k hk).1 (h.lt k hk).2
theorem zC.nil(w:World)(base:Nat):zC w base (.slice none 0 0) []:=aaC w base _ 1
theorem o4.apart{G:Value}(h:o4 w base v l)(h':zC w base' G vs):∀k,v.ownBlock=some k->G.ownBlock≠some k:=by
 intro k hk EL
 rcases h.2 with⟨rfl,_⟩|⟨g,cap,cur,rfl,_,hg,_⟩
 ·simp[Value.ownBlock]at hk
 ·rcases h'.2 with⟨rfl,_⟩|⟨g',cap',cur',rfl,_,I,_⟩
  ·simp[Value.ownBlock]at EL
  ·simp only[Value.ownBlock,bA]at hk EL;subst hk EL;rw[hg]at I;simp at I
section
variable{P:Program}{w:World}{ops:Array Oper}{rest:List Oper}{o:Oper}{a:Act}{Q:Exit->Act->World->Prop}
theorem bF{K:Act->World->Prop}(s x:Operand)(ho:o.op=.call { callee:=.builtin .append,args:=#[s,x],argTypes:=#[30,30] })
 (base:Nat) (v:Value) (l:j7) (hs:a.eval s=v) (U:o4 w base v l) (O:j6) (m c:Nat) (J:j7) (hx:a.eval x=.slice O m c) (C7:Ints w O m c J) (hb:l.length+m<=1099511627776) (G:base<=w.heap.size)
 (h:∀I w',o4 w' base I (l++J)->w.grownBy w' v.ownBlock->Cx w v I->K (a.put o.dst I) w'):o.wp Tryz.prog a w K Q:=by
 obtain⟨i,hi,AU,Z,El⟩:=adf Tryz.KT;cases O with
 | none =>
   have hm:m=0:=by
    rcases acW m with h0|h0
    ·exact h0
    ·obtain⟨b,off,e,_⟩:=C7.cell 0 h0;cases e
   subst hm;have hl:J=[]:=Lj C7.hlen;subst hl;refine fN w s x 30 ho base 3 i 1 abC hi v l.length _ hs U c hx ?_;exact h v w (by simpa using U) (ac4 _ _) (Cx.refl _ _)
 | some ad =>
   refine eP w s x 30 ho base 3 i (.int .i64 0) 1 8 abC hi AU Z El rfl (by decide) v l.length (l.map (Value.int .i64)) hs U ad m c (J.map (Value.int .i64)) hx (by simp[C7.hlen]) ?_ ?_ (by simp[maxLen];omega) e7 G ?_
   ·intro j u hu;have hj:j<m:=by
     have:=(RI.1 hu).1
     simpa[C7.hlen]using this
    have hj':j<J.length:=by have:=C7.hlen;omega
    obtain⟨b,off,e,hc⟩:=C7.cell j hj;simp only[bA]at e;subst e;have ha:(⟨b,off,none⟩:Addr).add j=⟨b,off+j,none⟩:=by unfold Addr.add;split<;>simp_all
    rw[ha,hc j hj];simp only[MD,bk hj',Tc,bA,l']at hu⊢;exact hu
   ·intro u hu;obtain⟨z,_,rfl⟩:=aai.1 hu
    rfl
   ·intro I w' h1 h2 h3;refine h I w' ?_ h2 h3;unfold o4;rw[pk,C7.hlen,We];exact h1
theorem bu(U:o.guard=none)(s x:Operand)(ho:o.op=.call { callee:=.builtin .append,args:=#[s,x],argTypes:=#[30,30] })
 (base:Nat) (v:Value) (l:j7) (hs:a.eval s=v) (Z:o4 w base v l) (O:j6) (m c:Nat) (J:j7) (hx:a.eval x=.slice O m c) (C7:Ints w O m c J) (hb:l.length+m<=1099511627776) (G:base<=w.heap.size)
 (h:∀I w',o4 w' base I (l++J)->w.grownBy w' v.ownBlock->Cx w v I->wpList Tryz.prog ops Q rest (a.put o.dst I) w'):wpList Tryz.prog ops Q (o::rest) a w :=
 adm U fun _ hK=>bF s x ho base v l hs Z O m c J hx C7 hb G fun I w' h1 h2 h3=>hK _ _ (h I w' h1 h2 h3)
theorem ft{K:Act->World->Prop}(s x:Operand)(ho:o.op=.call { callee:=.builtin .append,args:=#[s,x],argTypes:=#[66,66] })
 (base:Nat) (v:Value) (vs:List Value) (hs:a.eval s=v) (AI:zC w base v vs) (U:Addr) (u:Value) (c:Nat) (hx:a.eval x=.slice (some U) 1 c)
 (G:w.cell? U=some u) (O:u.oneCell'=true) (hb:vs.length<=1099511627775) (I:base<=w.heap.size)
 (h:∀J w',zC w' base J (vs++[u])->w.grownBy w' v.ownBlock->Cx w v J->K (a.put o.dst J) w'):o.wp Tryz.prog a w K Q:=by
 obtain⟨i,hi,AU,Fq,El⟩:=adf Tryz.NM;refine eP w s x 66 ho base 30 i (.slice none 0 0) 1 24 Tryz.underlying66 hi AU Fq El rfl (by decide) v vs.length vs hs AI U 1 c [u] hx rfl ?_ ?_ (by simp[maxLen];omega) e7 I ?_
 ·intro j Z hu
  match j with
  | 0=>simpa[Addr.add]using hu▸G
  | j+1=>simp at hu
 ·intro Z hu;simp only[aav]at hu;rw[hu];exact O
 ·intro J w' h1 h2 h3;refine h J w' ?_ h2 h3;unfold zC;rw[pk];exact h1
theorem fu(Z:o.guard=none)(s x:Operand)(ho:o.op=.call { callee:=.builtin .append,args:=#[s,x],argTypes:=#[66,66] })
 (base:Nat) (v:Value) (vs:List Value) (hs:a.eval s=v) (AI:zC w base v vs) (U:Addr) (u:Value) (c:Nat) (hx:a.eval x=.slice (some U) 1 c)
 (G:w.cell? U=some u) (O:u.oneCell'=true) (hb:vs.length<=1099511627775) (I:base<=w.heap.size)
 (h:∀J w',zC w' base J (vs++[u])->w.grownBy w' v.ownBlock->Cx w v J->wpList Tryz.prog ops Q rest (a.put o.dst J) w'):wpList Tryz.prog ops Q (o::rest) a w :=
 adm Z fun _ hK=>ft s x ho base v vs hs AI U u c hx G O hb I fun J w' h1 h2 h3=>hK _ _ (h J w' h1 h2 h3)
end
theorem Ints.one(w:World)(x:Int)(t:TypeId):Ints (w.alloc (.cells #[.int .i64 x] t)) (some ⟨w.heap.size,0,none⟩) 1 1 [x] :=
 ⟨rfl,ao _,by omega,fun k hk=>⟨_,0,rfl,fun k hk=>by
  obtain rfl:k=0:=by omega
  simp⟩⟩
def BY(k:Int)(n:Nat):j7:=(List.range n).map fun(i:Nat)=>k+(i:Int)
theorem tQ(k:Int)(n:Nat):(BY k n).length=n:=by simp[BY]
theorem o4.set{g cap:Nat}(h:o4 w base (.slice (some ⟨g,0,none⟩) n cap) l)(k:Nat)(x:Int):
 o4 (w.setCell ⟨g,k,none⟩ (.int .i64 x)) base (.slice (some ⟨g,0,none⟩) n cap) (l.set k x):=by
 obtain⟨a',c',he,_⟩:=o4.form h;simp only[C']at he;obtain⟨_,rfl,_⟩:=he;have:=(aaH h k (.int .i64 x)).1;unfold o4;rw[H4,List.map_set];exact this
theorem o4.block{cap:Nat}(h:o4 w base (.slice a n cap) l)(hk:k<n):∃g,a=some ⟨g,0,none⟩/\base<=g/\(∀j,w.frozen? ⟨g,j,none⟩=false)/\g<w.heap.size:=by
 rcases h.2 with⟨he,h0⟩|⟨g,cap',cur,he,hb,hg,_⟩
 ·simp only[C']at he;omega
 ·simp only[C']at he;obtain⟨rfl,_⟩:=he;exact⟨g,rfl,hb,fun j=>sd w g j cur _ hg,mr hg⟩
structure bL(w:World)(base:Nat)(vs:List Value)(L:j5):Prop where
 len:vs.length=L.length
 row:∀i,i<L.length->o4 w base (vs[i]?.getD undef) (L[i]?.getD [])
 apart:∀i j k,i<j->j<L.length->(vs[i]?.getD undef).ownBlock=some k->(vs[j]?.getD undef).ownBlock≠some k
theorem bL.keep(h:bL w base vs L)(hk:∀i k,i<L.length->(vs[i]?.getD undef).ownBlock=some k->w'.heap[k]?=w.heap[k]?):bL w' base vs L :=
 ⟨h.len,fun i hi=>(h.row i hi).keep fun k EL=>hk i k hi EL,h.apart⟩
theorem bL.ext(h:bL w base vs L)(hx:Ext w w'):bL w' base vs L :=
 h.keep fun i k hi hk=>hx.block k ((h.row i hi).lt k hk).2
theorem bL.nil(w:World)(base:Nat):bL w base [] []:=⟨rfl,fun i hi=>absurd hi e8,fun i j k _ hj=>absurd hj e8⟩
theorem bL.on(h:bL w base vs L):On base w (fun W=>bL W base vs L) :=
 fun w2 h2=>h.keep fun i k hi hk=>h2 k ((h.row i hi).lt k hk).1 ((h.row i hi).lt k hk).2
theorem bL.snoc(h:bL w base vs L)(hx:Ext w w')(ho:o4 w' w.heap.size v l)(hb:base<=w.heap.size):bL w' base (vs++[v]) (L++[l]):=by
 have h':=h.ext hx;refine⟨by simp[h.len],fun i hi=>?_,fun i j k LB hj hk=>?_⟩
 ·by_cases hl:i<L.length
  ·rw[Ep (by rw[h.len];exact hl),Ep hl];exact h'.row i hl
  ·have:i=L.length:=by simp at hi;omega
   subst this;rw[<-h.len];simp only[Y',l'];rw[h.len];simp only[Y',l'];exact ho.mono hb
 ·by_cases hl:j<L.length
  ·rw[Ep (by rw[h.len];omega)]at hk;rw[Ep (by rw[h.len];exact hl)];exact h.apart i j k LB hl hk
  ·have:j=L.length:=by simp at hj;omega
   subst this;rw[Ep (by rw[h.len];omega)]at hk;rw[<-h.len];simp only[Y',l'];intro G;have h1:=((h.row i e7).lt k hk).2;have h2:=(ho.lt k G).1;omega
def dt(w:World)(base:Nat)(v:Value)(L:j5):Prop:=∃vs,zC w base v vs/\bL w base vs L
theorem dt.form(h:dt w base v L):∃a cap,v=.slice a L.length cap/\L.length<=cap/\cap<=9223372036854775807:=by
 obtain⟨vs,h1,h2⟩:=h;have:=h1.form
 rwa [h2.len]at this
theorem dt.var(h:dt w base v L):∃a n cap,v=.slice a n cap/\b7 (L.length=n):=by
 obtain⟨a,cap,e,_⟩:=h.form;exact⟨a,_,cap,e,rfl⟩
theorem dt.ext(h:dt w base v L)(hx:Ext w w'):dt w' base v L :=
 let⟨vs,h1,h2⟩:=h;⟨vs,h1.ext hx,h2.ext hx⟩
theorem dt.on(h:dt w base v L):On base w (fun W=>dt W base v L) :=
 let⟨vs,h1,h2⟩:=h;fun G hw=>⟨vs,h1.on G hw,h2.on G hw⟩
theorem dt.Hs{cap:Nat}(h:dt w base (.slice a n cap) L):cH w a n cap L:=by
 obtain⟨I,G,he,h1,h2⟩:=h.form;simp only[C']at he;obtain⟨rfl,rfl,rfl⟩:=he;obtain⟨vs,h3,h4⟩:=h;refine⟨rfl,h1,h2,fun k hk=>?_⟩;obtain⟨g,rfl,_,hc⟩:=h3.cell hk;refine⟨g,0,rfl,fun k hk=>?_⟩;have hv:k<vs.length:=by rw[h4.len];exact hk
 obtain⟨I,G,hf,_⟩:=(h4.row k hk).form;have ho:=h4.row k hk;rw[hf]at ho;refine⟨I,_,G,?_,ho.ints⟩;rw[Mf,hc k hk,<-hf];simp[hv]
theorem Row.own{b:Nat}(h:Row w b 3 l)(hb:base<=b)(hn:l.length=n)(hm:n<=1099511627776):o4 w base (.slice (some ⟨b,0,none⟩) n n) l:=by
 subst hn;refine⟨by simp,.inr ⟨b,l.length,be l,rfl,hb,h,?_,?_,?_,?_⟩⟩
 ·omega
 ·simp[maxLen];omega
 ·simp[be]
 ·simp[be,p4]
structure Rats(w:World)(a:j6)(n cap:Nat)(l:j4):Prop where
 hlen:l.length=n
 l8:n<=cap
 l9:cap<=9223372036854775807
 cell:∀k,k<n->∃b off,a=some ⟨b,off,none⟩/\∀k,k<n->w.cell? ⟨b,off+k*2,none⟩=some (.int .i64 (l[k]?.getD (0,0)).1)/\w.cell? ⟨b,off+k*2+1,none⟩=some (.int .i64 (l[k]?.getD (0,0)).2)
theorem Rats.ext{cap:Nat}{l:j4}(h:Rats w a n cap l)(hx:Ext w w'):Rats w' a n cap l :=
 ⟨h.hlen,h.l8,h.l9,fun k hk=>let⟨b,off,e,hc⟩:=h.cell k hk;⟨b,off,e,fun k hk=>⟨hx.j9 (hc k hk).1,hx.j9 (hc k hk).2⟩⟩⟩
theorem Rats.at{cap:Nat}{l:j4}(h:Rats w a n cap l)(hk:k<n):
 ∃b off x y,a=some ⟨b,off,none⟩/\l[k]?.getD (0,0)=(x,y)/\w.cell? ⟨b,off+k*2,none⟩=some (.int .i64 x)/\w.cell? ⟨b,off+k*2+1,none⟩=some (.int .i64 y) :=
 let⟨b,off,e,hc⟩:=h.cell k hk;⟨b,off,_,_,e,rfl,(hc k hk).1,(hc k hk).2⟩
theorem gN{l:j4}(h:k<l.length):l.take (k+1)=l.take k++[l[k]?.getD (0,0)]:=by
 rw[Kn h];simp[h]
def Nn(l:j4):Array Value:=(l.flatMap fun p=>[Value.int .i64 p.1,Value.int .i64 p.2]).toArray
theorem pD:∀(l:j4) (k:Nat),k<l.length->(l.flatMap fun p=>[Value.int .i64 p.1,Value.int .i64 p.2])[k*2]?=some (.int .i64 (l[k]?.getD (0,0)).1)/\(l.flatMap fun p=>[Value.int .i64 p.1,Value.int .i64 p.2])[k*2+1]?=some (.int .i64 (l[k]?.getD (0,0)).2)
 | [],k,h=>absurd h e8
 | p::l,0,_=>by simp
 | p::l,k+1,h=>by
   have:=pD l k (by simpa using h);rw[show(k+1)*2=k*2+1+1 by omega]
   simpa using this
theorem rW:∀(l:j4) (k:Nat) (x y:Int),k<l.length->((l.flatMap fun p=>[Value.int .i64 p.1,Value.int .i64 p.2]).set (k*2) (.int .i64 x)).set (k*2+1) (.int .i64 y)=(l.set k (x,y)).flatMap fun p=>[Value.int .i64 p.1,Value.int .i64 p.2]
 | [],k,_,_,h=>absurd h e8
 | p::l,0,_,_,_=>by simp
 | p::l,k+1,x,y,h=>by
   have:=rW l k x y (by simpa using h);rw[show(k+1)*2=k*2+1+1 by omega]
   simpa using this
theorem mV:∀l:j4,(l.flatMap fun p=>[Value.int .i64 p.1,Value.int .i64 p.2]).length=l.length*2
 | []=>rfl
 | p::l=>by have:=mV l;simp at this⊢;omega
def RRow(w:World)(b:Nat)(t:TypeId)(l:j4):Prop:=w.heap[b]?=some (.cells (Nn l) t (0,0))
theorem Tryz.Rd:(Tryz.prog.info? 62).map (fun i=>(i.zero,i.size,i.bytes))=some (some (.agg #[.int .i64 0,.int .i64 0]),2,16):=by kernel_rfl
