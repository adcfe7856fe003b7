import Derived.Test.YtalmoolkhcgmmaaGreatNqAltG6
import Derived.Test.YtalmoolkhcgmmaaGreatNqAltG18
import Derived.Test.YtalmoolkhcgmmaaGreatNqAltG3
import Derived.Deep.DeepCutAuto
import Derived.Outline
set_option linter.unusedVariables false
set_option linter.unusedSimpArgs false
namespace Go.Proofs.YtalmoolkhcgmmaaGreat
variable{w w' w1 w2:World}{a b:j8}{n k base base' N m g:Nat}{L M:List (j6)}{v x y z vb va:Value}{vs:List Value}{l B:j6}{A:j7}{t:Tb}{fid:FuncId}
set_option maxHeartbeats 16000000
open Go.RowKit
structure gP(w:World)(a:j8)(n cap:Nat)(L:List (j6)):Prop where
 hlen:L.length=n
 o3:n<=cap
 l9:cap<=9223372036854775807
 cell:∀k,k<n->∃b off,a=some ⟨b,off,none⟩/\∀k,k<n->∃a' n' c',w.cell? ⟨b,off+k,none⟩=some (.slice a' n' c')/\r8 w a' n' c' (L[k]?.getD [])
theorem gP.ext{cap:Nat}(h:gP w a n cap L)(hx:Ext w w'):gP w' a n cap L :=
 ⟨h.hlen,h.o3,h.l9,fun k hk=>let⟨b,off,e,hc⟩:=h.cell k hk;⟨b,off,e,fun k hk=>let⟨J,G,I,h1,h2⟩:=hc k hk;⟨J,G,I,hx.k6 h1,h2.ext hx⟩⟩⟩
theorem gP.at{cap:Nat}(h:gP w a n cap L)(hk:k<n):
 ∃b off a' n' c',a=some ⟨b,off,none⟩/\w.cell? ⟨b,off+k,none⟩=some (.slice a' n' c')/\r8 w a' n' c' (L[k]?.getD []) :=
 let⟨b,off,e,hc⟩:=h.cell k hk;let⟨a',n',c',h1,h2⟩:=hc k hk;⟨b,off,a',n',c',e,h1,h2⟩
def zK(w:World)(base:Nat)(v:Value)(vs:List Value):Prop:=w.ownsRow base 27 1 v vs.length vs
theorem zK.form(h:zK w base v vs):∃a cap,v=.slice a vs.length cap/\vs.length<=cap/\cap<=9223372036854775807:=by
 rcases h.2 with⟨rfl,h0⟩|⟨g,cap,cur,rfl,_,_,h1,h2,_⟩
 ·exact⟨none,0,by rw[h0],by omega,by omega⟩
 ·exact⟨_,cap,rfl,h1,by simpa[maxLen]using h2⟩
theorem zK.var(h:zK w base v vs):∃a n cap,v=.slice a n cap/\b7 (vs.length=n):=by
 obtain⟨a,cap,e,_⟩:=h.form;exact⟨a,_,cap,e,rfl⟩
theorem zK.cell{cap:Nat}(h:zK w base (.slice a n cap) vs)(hk:k<n):∃g,a=some ⟨g,0,none⟩/\base<=g/\∀k,k<n->w.cell? ⟨g,k,none⟩=vs[k]?:=by
 rcases h.2 with⟨he,h0⟩|⟨g,cap',cur,he,hb,hg,h1,h2,hs,ht⟩
 ·simp only[Value.slice.injEq]at he;omega
 ·simp only[Value.slice.injEq]at he;obtain⟨rfl,rfl,rfl⟩:=he;refine⟨g,rfl,hb,fun k hk=>?_⟩;rw[cell_of_row w g k cur _ (0,0) hg];have:(cur.toList.take (vs.length*1))[k]?=vs[k]?:=by rw[ht]
  rw[List.getElem?_take,if_pos b9]at this
  simpa using this
theorem zK.len{cap:Nat}(h:zK w base (.slice a n cap) vs):vs.length=n:=by
 obtain⟨a',cap',he,_⟩:=h.form;simp only[Value.slice.injEq]at he;exact he.2.1.symm
theorem zK.lt(h:zK w base v vs):∀k,v.ownBlock=some k->base<=k/\k<w.heap.size:=World.ownsRow.lt h
theorem zK.keep(h:zK w base v vs)(hk:∀k,v.ownBlock=some k->w'.heap[k]?=w.heap[k]?):zK w' base v vs:=by
 refine⟨h.1,?_⟩
 rcases h.2 with hn|⟨g,cap,cur,rfl,hb,G,rest⟩
 ·exact .inl hn
 ·exact .inr ⟨g,cap,cur,rfl,hb,(hk g rfl).trans G,rest⟩
theorem zK.ext(h:zK w base v vs)(hx:Ext w w'):zK w' base v vs:=h.keep fun k hk=>hx.block k (h.lt k hk).2
theorem l8.apart{G:Value}(h:l8 w base v l)(h':zK w base' G vs):∀k,v.ownBlock=some k->G.ownBlock≠some k:=by
 intro k hk C0
 rcases h.2 with⟨rfl,_⟩|⟨g,cap,cur,rfl,_,hg,_⟩
 ·simp[Value.ownBlock]at hk
 ·rcases h'.2 with⟨rfl,_⟩|⟨g',cap',cur',rfl,_,I,_⟩
  ·simp[Value.ownBlock]at C0
  ·simp only[Value.ownBlock,Option.some.injEq]at hk C0;subst hk C0;rw[hg]at I;simp at I
theorem Tryz.LS:(Tryz.prog.info? 27).map (fun i=>(i.zero,i.size,i.bytes))=some (some (.slice none 0 0),1,24):=by kernel_rfl
section
variable{P:Program}{w:World}{ops:Array Oper}{rest:List Oper}{o:Oper}{a:Act}{Q:Exit->Act->World->Prop}
theorem eU{K:Act->World->Prop}(s x:Operand)(ho:o.op=.call { callee:=.builtin .append,args:=#[s,x],argTypes:=#[106,106] })
 (base:Nat) (v:Value) (vs:List Value) (hs:a.eval s=v) (U:zK w base v vs) (R:Addr) (u:Value) (c:Nat) (hx:a.eval x=.slice (some R) 1 c)
 (G:w.cell? R=some u) (O:u.oneCell'=true) (hb:vs.length<=1099511627775) (I:base<=w.heap.size)
 (h:∀J w',zK w' base J (vs++[u])->w.grownBy w' v.ownBlock->Aw w v J->K (a.put o.dst J) w'):o.wp Tryz.prog a w K Q:=by
 obtain⟨i,hi,W,CE,DA⟩:=info_parts Tryz.LS;refine eN w s x 106 ho base 27 i (.slice none 0 0) 1 24 Tryz.underlying106 hi W CE DA rfl (by decide) v vs.length vs hs U R 1 c [u] hx rfl ?_ ?_ (by simp[maxLen];omega) b9 I ?_
 ·intro j Z hu
  match j with
  | 0=>simpa[Addr.add]using hu▸G
  | j+1=>simp at hu
 ·intro Z hu;simp only[List.mem_singleton]at hu;rw[hu];exact O
 ·intro J w' h1 h2 h3;refine h J w' ?_ h2 h3;unfold zK;rw[List.length_append];exact h1
end
structure dC(w:World)(base:Nat)(vs:List Value)(L:List (j6)):Prop where
 len:vs.length=L.length
 row:∀i,i<L.length->l8 w base (vs[i]?.getD undef) (L[i]?.getD [])
 apart:∀i j k,i<j->j<L.length->(vs[i]?.getD undef).ownBlock=some k->(vs[j]?.getD undef).ownBlock≠some k
theorem dC.keep(h:dC w base vs L)(hk:∀i k,i<L.length->(vs[i]?.getD undef).ownBlock=some k->w'.heap[k]?=w.heap[k]?):dC w' base vs L :=
 ⟨h.len,fun i hi=>(h.row i hi).keep fun k C0=>hk i k hi C0,h.apart⟩
theorem dC.ext(h:dC w base vs L)(hx:Ext w w'):dC w' base vs L :=
 h.keep fun i k hi hk=>hx.block k ((h.row i hi).lt k hk).2
theorem dC.nil(w:World)(base:Nat):dC w base [] []:=⟨rfl,fun i hi=>absurd hi e7,fun i j k _ hj=>absurd hj e7⟩
theorem dC.snoc(h:dC w base vs L)(hx:Ext w w')(ho:l8 w' w.heap.size v l)(hb:base<=w.heap.size):dC w' base (vs++[v]) (L++[l]):=by
 have h':=h.ext hx;refine⟨by simp[h.len],fun i hi=>?_,fun i j k IW hj hk=>?_⟩
 ·by_cases hl:i<L.length
  ·rw[List.getElem?_append_left (by rw[h.len];exact hl),List.getElem?_append_left hl];exact h'.row i hl
  ·have:i=L.length:=by simp at hi;omega
   subst this;rw[<-h.len];simp only[List.getElem?_concat_length,Option.getD_some];rw[h.len];simp only[List.getElem?_concat_length,Option.getD_some];exact ho.mono hb
 ·by_cases hl:j<L.length
  ·rw[List.getElem?_append_left (by rw[h.len];omega)]at hk;rw[List.getElem?_append_left (by rw[h.len];exact hl)];exact h.apart i j k IW hl hk
  ·have:j=L.length:=by simp at hj;omega
   subst this;rw[List.getElem?_append_left (by rw[h.len];omega)]at hk;rw[<-h.len];simp only[List.getElem?_concat_length,Option.getD_some];intro C0;have h1:=((h.row i b9).lt k hk).2;have h2:=(ho.lt k C0).1;omega
def mp(w:World)(base:Nat)(v:Value)(L:List (j6)):Prop:=∃vs,zK w base v vs/\dC w base vs L
theorem mp.form(h:mp w base v L):∃a cap,v=.slice a L.length cap/\L.length<=cap/\cap<=9223372036854775807:=by
 obtain⟨vs,h1,h2⟩:=h;have:=h1.form
 rwa [h2.len]at this
theorem mp.VP{cap:Nat}(h:mp w base (.slice a n cap) L):gP w a n cap L:=by
 obtain⟨I,G,he,h1,h2⟩:=h.form;simp only[Value.slice.injEq]at he;obtain⟨rfl,rfl,rfl⟩:=he;obtain⟨vs,h3,h4⟩:=h;refine⟨rfl,h1,h2,fun k hk=>?_⟩;obtain⟨g,rfl,_,hc⟩:=h3.cell hk;refine⟨g,0,rfl,fun k hk=>?_⟩;have hv:k<vs.length:=by rw[h4.len];exact hk
 obtain⟨I,G,hf,_⟩:=(h4.row k hk).form;have ho:=h4.row k hk;rw[hf]at ho;refine⟨I,_,G,?_,ho.wK⟩;rw[Nat.zero_add,hc k hk,<-hf];simp[hv]
structure AP(w:World)(base:Nat)(a:j8)(N cap:Nat)(vs:List Value)(M:List (j6)):Prop where
 own:zK w base (.slice a N cap) vs
 rows:dC w base vs M
theorem AP.Aj{cap:Nat}(h:AP w base a N cap vs M):vs.length=N:=h.own.len
theorem AP.len{cap:Nat}(h:AP w base a N cap vs M):M.length=N:=by rw[<-h.rows.len];exact h.own.len
theorem AP.keep{cap:Nat}(h:AP w base a N cap vs M)(h0:∀k,(Value.slice a N cap).ownBlock=some k->w'.heap[k]?=w.heap[k]?)
 (h1:∀i k,i<N->(vs[i]?.getD undef).ownBlock=some k->w'.heap[k]?=w.heap[k]?):AP w' base a N cap vs M :=
 ⟨h.own.keep h0,h.rows.keep fun i k hi hk=>h1 i k (by rw[<-h.len];exact hi) hk⟩
theorem AP.ext{cap:Nat}(h:AP w base a N cap vs M)(hx:Ext w w'):AP w' base a N cap vs M:=⟨h.own.ext hx,h.rows.ext hx⟩
theorem AP.outer{cap:Nat}(h:AP w base a N cap vs M)(hN:0<N):∃G,a=some ⟨G,0,none⟩/\base<=G/\G<w.heap.size/\∀j,w.frozen? ⟨G,j,none⟩=false:=by
 rcases h.own.2 with⟨he,h0⟩|⟨g,cap',cur,he,hb,hg,_⟩
 ·simp only[Value.slice.injEq]at he;omega
 ·simp only[Value.slice.injEq]at he;obtain⟨rfl,_⟩:=he;exact⟨g,rfl,hb,lt_of_block hg,fun j=>frozen_of_row w g j cur _ hg⟩
theorem AP.row{G cap:Nat}(h:AP w base (some ⟨G,0,none⟩) N cap vs M){i:Nat}(hi:i<N)(hn:(M[i]?.getD []).length=n)(h1:1<=n):
 ∃g c,vs[i]?.getD undef=.slice (some ⟨g,0,none⟩) n c/\w.cell? ⟨G,i,none⟩=some (.slice (some ⟨g,0,none⟩) n c)/\l8 w base (.slice (some ⟨g,0,none⟩) n c) (M[i]?.getD [])/\g≠G/\base<=g/\g<w.heap.size/\n<=c/\c<=9223372036854775807:=by
 have hr:=h.rows.row i (by rw[h.len];exact hi);obtain⟨a',c,he,yq,AZ⟩:=hr.form;rw[he]at hr;rw[hn]at he hr yq;obtain⟨g,rfl,hb,_,D'⟩:=hr.block (k:=0) b9;obtain⟨G',I,_,hc⟩:=h.own.cell hi;simp only[Option.some.injEq,Addr.mk.injEq,and_true]at I;subst I;refine⟨g,c,he,?_,hr,fun e=>hr.apart h.own g rfl (by subst e;rfl),hb,D',yq,AZ⟩;rw[hc i hi,<-he];have:i<vs.length:=by rw[h.Aj];exact hi
 simp[this]
theorem AP.put{w0:World}{G cap:Nat}(h:AP w0 base (some ⟨G,0,none⟩) N cap vs M)(hx:Ext w0 w)(hb:base<=w0.heap.size)(ho:l8 w w0.heap.size v l){i:Nat}(hi:i<N):
 AP (w.setCell ⟨G,i,none⟩ v) base (some ⟨G,0,none⟩) N cap (vs.set i v) (M.set i l):=by
 have Bb:i<M.length:=by rw[h.len];exact hi
 have F1:i<vs.length:=by rw[h.Aj];exact hi
 have hW:=h.ext hx;obtain⟨G',J,DF,JG,_⟩:=h.outer b9;simp only[Option.some.injEq,Addr.mk.injEq,and_true]at J;subst J;have Ch:∀k,k≠G->(w.setCell ⟨G,i,none⟩ v).heap[k]?=w.heap[k]?:=fun k hk=>heap_setCell_other _ _ _ _ hk
 refine⟨?_,⟨by rw[List.length_set,List.length_set];exact h.rows.len,fun k hk=>?_,fun a b k JF zx hk k7=>?_⟩⟩
 ·have ho:=hW.own;unfold zK at ho;rw[hW.Aj]at ho;have:=(World.ownsRow.stored ho i v).1;unfold zK;rw[List.length_set,hW.Aj];exact this
 ·rw[List.length_set]at hk;by_cases D8:k=i
  ·subst D8;rw[List.getElem?_set_self F1,List.getElem?_set_self Bb];exact(ho.keep fun b Ij=>Ch b (j4 ((ho.lt b Ij).1))).mono hb
  ·rw[List.getElem?_set_ne (Ne.symm D8),List.getElem?_set_ne (Ne.symm D8)];refine(hW.rows.row k hk).keep fun b Ij=>Ch b fun e=>?_
   subst e;exact(hW.rows.row k hk).apart hW.own _ Ij rfl
 ·rw[List.length_set]at zx;by_cases I:a=i
  ·subst I;rw[List.getElem?_set_self F1]at hk;rw[List.getElem?_set_ne b9]at k7;have h1:=(ho.lt k hk).1;have h2:=((h.rows.row b zx).lt k k7).2;omega
  ·rw[List.getElem?_set_ne (Ne.symm I)]at hk;by_cases Ck:b=i
   ·subst Ck;rw[List.getElem?_set_self F1]at k7;have h1:=(ho.lt k k7).1;have h2:=((h.rows.row a b9).lt k hk).2;omega
   ·rw[List.getElem?_set_ne (Ne.symm Ck)]at k7;exact h.rows.apart a b k JF zx hk k7
set_option maxRecDepth 100000
structure Cz(w:World)(a:j8)(na ca:Nat)(b:j8)(nb cb:Nat)(c:j8)(nc cc:Nat)(A:j7)(B:j9)(C:j6):Prop where
 a:et w a na ca A
 b:Ints w b nb cb B
 c:r8 w c nc cc C
theorem Cz.ext{G ca:Nat}{nb cb:Nat}{c:j8}{nc cc:Nat}{B:j9}{C:j6}(h:Cz w a G ca b nb cb c nc cc A B C)(hx:Ext w w'):Cz w' a G ca b nb cb c nc cc A B C :=
 ⟨h.a.ext hx,h.b.ext hx,h.c.ext hx⟩
abbrev C8(a:j8)(na ca:Nat)(b:j8)(nb cb:Nat)(c:j8)(nc cc:Nat):Value:=.agg #[.slice a na ca,.slice b nb cb,.slice c nc cc]
abbrev bE(a:j8)(na ca:Nat)(b:j8)(nb cb:Nat)(c:j8)(nc cc:Nat):Obj:=.cells #[.slice a na ca,.slice b nb cb,.slice c nc cc] 52
theorem oF{A:j6}{s:k5}(h:zA A B k=some s):zA A B (k+1)=if(mulR (A[k]?.getD (0,0)) (B[k]?.getD (0,0))).2=true/\(xP s (mulR (A[k]?.getD (0,0)) (B[k]?.getD (0,0))).1).2=true
 then some (xP s (mulR (A[k]?.getD (0,0)) (B[k]?.getD (0,0))).1).1 else none:=by simp only[zA,h,Option.bind_some]
theorem iT{A:j6}(h:zA A B k=none):∀{n:Nat},k<=n->zA A B n=none
 | n,hn=>by
   obtain⟨d,rfl⟩:∃d,n=k+d:=⟨n-k,by omega⟩;clear hn
   induction d with
   | zero=>exact h
   | succ d ih=>show(zA A B (k+d)).bind _=none;rw[ih];rfl
def xN(o:Option (Int×Int)):(Int×Int)×Bool:=(o.getD (0,0),o.isSome)
theorem fK{cap R J:Nat}{A:j6}(h:r8 w a n cap A)(h':r8 w b R J B):
 Calls Tryz.prog 112 #[.slice a n cap,.slice b R J] w fun e w'=>e=.returned (BA (xN (wY A B)))/\Ext w w':=by
 have HL:=ae h.hlen;have Ey:=ae h'.hlen;have o3:=h.o3;have l9:=h.l9;have MS:=h'.o3;have Mz:=h'.l9;have wI:=Ext.alloc w (.cells #[.int .i64 0,.int .i64 0] 46);have HIA:=ae (h.ext wI);have HIB:=ae (h'.ext wI);have wM:=ae wI;have xU:=ae (show(w.alloc (.cells #[.int .i64 0,.int .i64 0] 46)).heap[w.heap.size]?=some (.cells #[.int .i64 0,.int .i64 0] 46 (0,0))from ak _ _ _ rfl);clear h h' wI;by_cases hne:n=R
 ·subst hne;have HD:=ae (show wY A B=zA A B n by unfold wY;rw[HL.o,Ey.o,if_pos rfl]);have Jy:((n:Int) != (n:Int))=false:=by simp
  go_enter Tryz.func112,Tryz.ntmps112
  go_wp2_with fail;refine(cG 0 _).mono ?_;rintro e w1 ⟨rfl,wO⟩;have xz:=ae wO;have Bh:=ae (aj.new (Ext.refl w1) 0 1);have zQ:=ae (fun(w':World) (hx:Ext w1 w')=>(hx.block _ (by have:=lt_of_block xU.o;have:=xz.o.size;omega)).trans ((xz.o.block _ (lt_of_block xU.o)).trans xU.o));have Em:=ae (wM.o.trans xz.o);have Mg:w.heap.size<w1.heap.size:=by have:=lt_of_block xU.o;have:=xz.o.size;omega
  clear wO;go_wp2_with fail
  go_loopg [21] n (fun gk ii wr=>∃(k:Nat) (p q:Int),b7 (gk+k=n)/\ii=.int .i64 (k:Int)/\b7 (aj w1 wr w1.heap.size p q)/\b7 (zA A B k=some (p,q)))
  case atStart=>exact⟨0,0,1,ae b9,rfl,Bh,ae rfl⟩
  case round =>
   obtain⟨g1,r7⟩:=b8 gk;subst r7;obtain⟨G,o6⟩:=b8 wr;subst o6;obtain⟨k,p,q,HK,rfl,HB,HT⟩:=hrel;have AR:=HB.o.c0;have zN:=HB.o.c1;have I3:=HB.o.lt;have S5:=HB.o.ext.size;by_cases hlt:k<n
   ·obtain⟨ab,Ag,ax,Z,ha,I4,Bm,Bl⟩:=(HIA.o.ext (xz.o.trans HB.o.ext)).at hlt;obtain⟨W,AO,U,I,hb,zH,Ed,Ec⟩:=(HIB.o.ext (xz.o.trans HB.o.ext)).at hlt;subst ha hb;obtain⟨mx,my,one,hm⟩:∃x y ok,mulR (ax,Z) (U,I)=((x,y),ok):=⟨_,_,_,rfl⟩;have HM:=ae hm;obtain⟨p2,O,two,D4⟩:∃u v ok,xP (p,q) (mx,my)=((u,v),ok):=⟨_,_,_,rfl⟩;have Ax:=ae D4;have zW:=ae (show zA A B (k+1)=if one=true/\two=true then some (p2,O) else none by rw[oF HT.o,I4,zH,hm];simp only;rw[D4]);clear I4 zH hm D4;go_upto_region 7 with fail
    go_cut [8,9] (fun sx so wx=>∃g:Nat,sx=.pointer (some ⟨g,0,none⟩)/\so=.bool one/\b7 (aj G wx g mx my))
    case first =>
     have k7:Ext G G.drew:=Ext.drew G;have xI:Ext G (G.alloc (.cells #[.int .i64 0,.int .i64 0] 46)).drew:=(Ext.alloc _ _).trans (Ext.drew _);have k8:=ae (fun(w':World) (h:Ext G w')=>(⟨h.k6 Bm,h.k6 Bl,h.k6 Ed,h.k6 Ec,h⟩:w'.cell? ⟨ab,Ag+k*2,none⟩=some (.int .i64 ax)/\w'.cell? ⟨ab,Ag+k*2+1,none⟩=some (.int .i64 Z)/\w'.cell? ⟨W,AO+k*2,none⟩=some (.int .i64 U)/\w'.cell? ⟨W,AO+k*2+1,none⟩=some (.int .i64 I)/\Ext G w'))
     go_region_held3 (fun w'=>w'.cell? ⟨ab,Ag+k*2,none⟩=some (.int .i64 ax)/\w'.cell? ⟨ab,Ag+k*2+1,none⟩=some (.int .i64 Z)/\w'.cell? ⟨W,AO+k*2,none⟩=some (.int .i64 U)/\w'.cell? ⟨W,AO+k*2+1,none⟩=some (.int .i64 I)/\Ext G w')
      (first
        | with_reducible exact k8.o _ k7
        | with_reducible exact k8.o _ xI
        | with_reducible exact k8.o _ ((k7.setCell (by first|(simp;done)|(simp;omega)) _).setCell (by first|(simp;done)|(simp;omega)) _)
        | with_reducible exact k8.o _ (k7.trans (Ext.alloc _ _))
        | with_reducible exact k8.o _ (r9.put _ _).ext)
      (first
        | (go_at_call 153
           (with_reducible refine(qA ax Z U I _).mono ?_)
           rw[HM.o];rintro e w3 ⟨rfl,K⟩
           first|(with_reducible have r9:=aj.grow r9 K)|(with_reducible have r9:=aj.xu K)|(with_reducible have r9:=aj.xA k7 K)|skip
           first|(have BQ:=r9.c0;have BP:=r9.c1;have C3:=r9.free)|skip
           have k7:Ext G w3:=by first|with_reducible exact k7.trans K|with_reducible exact xI.trans K|with_reducible exact(k7.trans (Ext.alloc _ _)).trans K
           have zr:=k7.size)
        | fail)
     all_goals(go_wp2_with fail;go_meet;first|exact⟨_,rfl,rfl,ae (r9.put _ _)⟩|exact⟨_,rfl,rfl,ae (aj.new k7 _ _)⟩|exact⟨_,rfl,rfl,ae (aj.new' k7 _ _ e7)⟩)
    obtain⟨g,rfl,rfl,xT⟩:=hcut;have g0:=xT.o.c0;have g1':=xT.o.c1;have Eh:=HB.o.grow xT.o.ext;have Ii:=Eh.c0;have Ih:=Eh.c1;have zE:=ae Eh;clear AR zN Bm Bl Ed Ec Eh;go_wp2_with fail;refine(lK p q mx my _).mono ?_;rw[Ax.o];rintro e w4 ⟨rfl,xG⟩;have AB:=ae (zE.o.grow xG);have Dm:=ae (AB.o.grow (Ext.alloc _ (.cells #[.int .i64 p2,.int .i64 O] 46)));have hr:=ah (zQ.o _ Dm.o.ext);obtain⟨yN,yC,CZ⟩:=hr;have Br:=ae Dm.o.ext;have Qd:=Dm.o.free;have hb5l:=AB.o.lt;have B7:=AB.o.ext.size;have h40:=AB.o.c0;have h41:=AB.o.c1;have h4f:=AB.o.free;clear xG g0 g1' Ii Ih;cases one
    ·have HN:=ae (show wY A B=none by rw[HD.o];exact iT (k:=k+1) (by rw[zW.o];simp) hlt);go_wp2_with fail;refine bodyPost_ret (v:=.tuple #[.agg #[.int .i64 0,.int .i64 0],.bool false]) (by simp[results,Tryz.results112,go_sem,yN,yC]) rfl ⟨by rw[HN.o];rfl,(((Em.o.trans Br.o).store 0 (Nat.le_refl _) _).store 1 (Nat.le_refl _) _)⟩
    ·cases two
     ·have HN:=ae (show wY A B=none by rw[HD.o];exact iT (k:=k+1) (by rw[zW.o];simp) hlt);go_wp2_with fail;refine bodyPost_ret (v:=.tuple #[.agg #[.int .i64 0,.int .i64 0],.bool false]) (by simp[results,Tryz.results112,go_sem,yN,yC]) rfl ⟨by rw[HN.o];rfl,(((Em.o.trans Br.o).store 0 (Nat.le_refl _) _).store 1 (Nat.le_refl _) _)⟩
     ·have Bu:=ae (show zA A B (k+1)=some (p2,O)by rw[zW.o];simp);have Bw:=ae ((AB.o.put p2 O).grow (Ext.alloc _ (.cells #[.int .i64 p2,.int .i64 O] 46)));go_wp2_with fail
      go_roundg (g1-1)
      case measure=>have:=HK.o;omega
      case rel=>exact⟨k+1,p2,O,ae (j4 HK.o),by go_num,Bw,Bu⟩
   ·have xQ:n=k:=by have:=HK.o;omega
    subst xQ;have HY:=ae (show wY A B=some (p,q)by rw[HD.o];exact HT.o);have hr:=ah (zQ.o G HB.o.ext);obtain⟨yN,yC,CZ⟩:=hr;go_wp2_with fail;refine bodyPost_ret (v:=.tuple #[.agg #[.int .i64 p,.int .i64 q],.bool true]) (by simp[results,Tryz.results112,go_sem,yN,yC]) rfl ⟨by rw[HY.o];rfl,(((Em.o.trans HB.o.ext).store 0 (Nat.le_refl _) _).store 1 (Nat.le_refl _) _)⟩
 ·have HN:=ae (show wY A B=none by unfold wY;rw[HL.o,Ey.o,if_neg hne]);have Jy:((n:Int) != (R:Int))=true:=by simp;omega
  have hr:=ah xU.o;obtain⟨yN,yC,CZ⟩:=hr;go_enter Tryz.func112,Tryz.ntmps112
  go_wp2_with fail;refine bodyPost_ret (v:=.tuple #[.agg #[.int .i64 0,.int .i64 0],.bool false]) (by simp[results,Tryz.results112,go_sem,yN,yC]) rfl ⟨by rw[HN.o];rfl,wM.o⟩
theorem oz{j:Nat}(h:k<A.length):xD (A.take k) j++[(A[k]?.getD [])[j]?.getD 0]=xD (A.take (k+1)) j:=by
 rw[fz h];simp[xD]
theorem qD{G ca:Nat}{nb cb:Nat}{c:j8}{nc cc:Nat}(h:et w a G ca A){j:Nat}(hl:∀i,i<G->(A[i]?.getD []).length=m)(hj:j<m)(hm:m<=1000000)(hbig:G<=1048576):
 Calls Tryz.prog 113 #[C8 a G ca b nb cb c nc cc,.int .i64 (j:Int)] w fun e w'=>(∃v,e=.returned v/\o8 w' w.heap.size v (xD A j))/\Ext w w':=by
 have o3:=h.o3;have l9:=h.l9;have HL:=ae h.hlen;have wI:=Ext.alloc w (bE a G ca b nb cb c nc cc);have wM:=ae wI;have HI:=ae (h.ext wI);have zR:=ae hl;have HO:=ae (o8.yG (w.alloc (bE a G ca b nb cb c nc cc)) (w.heap.size+1) _ rfl e7);clear h wI hl;go_enter Tryz.func113,Tryz.ntmps113
 go_wp2_with fail
 go_loopg [5,12] G (fun gk o ii wr=>∃(k:Nat) (a1:j8) (n1 p1:Nat),b7 (gk+k=G)/\ii=.int .i64 (k:Int)/\o=.slice a1 n1 p1/\b7 (o8 wr (w.heap.size+1) (.slice a1 n1 p1) (xD (A.take k) j))/\b7 (Ext (w.alloc (bE a G ca b nb cb c nc cc)) wr))
 case atStart=>exact⟨0,_,_,_,ae b9,rfl,rfl,ae (by simpa[xD]using HO.o),ae (Ext.alloc _ _)⟩
 case round =>
  obtain⟨g1,R⟩:=b8 gk;subst R;obtain⟨o7,U⟩:=b8 wr;subst U;obtain⟨k,a1,n1,p1,J,rfl,rfl,xC,xz⟩:=hrel;have I:=xz.o.size;rw[World.size_alloc]at I;by_cases hlt:k<G
  ·obtain⟨gb,FJ,ra,rn,rc,rfl,PZ,o9⟩:=(HI.o.ext xz.o).at hlt;have Z:rn=m:=by rw[<-o9.hlen];exact zR.o k hlt
   subst Z;obtain⟨eb,xi,rfl,W⟩:=o9.at hj;obtain⟨x,hx⟩:=b8 ((A[k]?.getD [])[j]?.getD 0);rw[<-hx]at W;have HS:=ae (show xD (A.take k) j++[x]=xD (A.take (k+1)) j by rw[hx];exact oz (by rw[HL.o];exact hlt));have Ji:=ae (show(xD (A.take k) j).length=k by simp[xD];have:=HL.o;omega);have Mn:=o9.o3;have WJ:=o9.l9;clear o9 hx
   go_wp2_with (first
    | (at_builtin;refine bm rfl _ _ rfl (w.heap.size+1) (.slice a1 n1 p1) _ rfl (xC.o.ext (Ext.alloc _ _)) _ 1 _ [x] rfl (Ints.Ad _ _ _ _ e7) (by rw[Ji.o];omega) (by simp;omega) ?_;intro v2 w3 ho hg l7;have X5:=ae (al (xz.o.trans (Ext.alloc _ _)) hg (fun i hi=>by have:=(xC.o.lt i hi).1;simpa using this));obtain⟨a2,n2,c2,rfl,Fa⟩:=ho.var;have K:=ae ho;clear ho hg l7))
   go_roundg (g1-1)
   case measure=>have:=J.o;omega
   case rel=>exact⟨k+1,a2,n2,c2,ae (j4 J.o),by go_num,rfl,ae (by rw[<-HS.o];exact K.o),X5⟩
  ·have O:G=k:=by have:=J.o;omega
   subst O;have HT:=ae (show A.take G=A from List.take_of_length_le (by rw[HL.o];exact Nat.le_refl _));rw[HT.o]at xC;go_wp2_with fail;go_ret;exact⟨⟨_,rfl,xC.o.mono (Nat.le_succ _)⟩,wM.o.trans xz.o⟩
structure EZ(w:World)(ra:j8)(rn rc:Nat)(ba:j8)(bn bc:Nat)(t:Tb):Prop where
 rows:gP w ra rn rc t.rows
 basis:Ints w ba bn bc t.basis
theorem EZ.ext{ra:j8}{rn rc:Nat}{ba:j8}{bn bc:Nat}(h:EZ w ra rn rc ba bn bc t)(hx:Ext w w'):EZ w' ra rn rc ba bn bc t:=⟨h.rows.ext hx,h.basis.ext hx⟩
abbrev EB(ra:j8)(rn rc:Nat)(ba:j8)(bn bc:Nat)(x:Int):Value:=.agg #[.slice ra rn rc,.slice ba bn bc,.int .i64 x]
abbrev cg(ra:j8)(rn rc:Nat)(ba:j8)(bn bc:Nat)(x:Int):Obj:=.cells #[.slice ra rn rc,.slice ba bn bc,.int .i64 x] 108
structure BJ(w:World)(base g:Nat)(va vb:Value)(x:Int)(vs:List Value)(M:List (j6))(l:j9):Prop where
 box:w.heap[g]?=some (.cells #[va,vb,.int .i64 x] 108 (0,0))
 hg:base<=g
 a:zK w base va vs
 rows:dC w base vs M
 b:o8 w base vb l
section
variable{w:World}{base g:Nat}{va vb:Value}{x:Int}{vs:List Value}{M:List (j6)}{l:j9}
theorem BJ.lt(h:BJ w base g va vb x vs M l):g<w.heap.size:=lt_of_block h.box
theorem BJ.ext{w':World}(h:BJ w base g va vb x vs M l)(hx:Ext w w'):BJ w' base g va vb x vs M l :=
 ⟨(hx.block _ h.lt).trans h.box,h.hg,h.a.ext hx,h.rows.ext hx,h.b.ext hx⟩
theorem au{x y z:Value}{t:TypeId}(h:w.heap[g]?=some (.cells #[x,y,z] t (0,0))):w.cell? ⟨g,0,none⟩=some x:=by rw[cell_of_row w g 0 _ _ _ h];rfl
theorem aH{x y z:Value}{t:TypeId}(h:w.heap[g]?=some (.cells #[x,y,z] t (0,0))):w.cell? ⟨g,1,none⟩=some y:=by rw[cell_of_row w g 1 _ _ _ h];rfl
theorem aI{x y z:Value}{t:TypeId}(h:w.heap[g]?=some (.cells #[x,y,z] t (0,0))):w.cell? ⟨g,2,none⟩=some z:=by rw[cell_of_row w g 2 _ _ _ h];rfl
theorem dh{x y z:Value}{t:TypeId}(h:w.heap[g]?=some (.cells #[x,y,z] t (0,0)))(k:Nat):w.frozen? ⟨g,k,none⟩=false:=frozen_of_row w g k _ _ h
theorem BJ.DW{w1 w2:World}(h:BJ w base g va vb x vs M l)(hx:Ext w w1){G I:Value}{r:j6}(hr:l8 w1 w.heap.size G r)(J:base<=w.heap.size)(zF:w1.grownBy w2 va.ownBlock)(ho:zK w2 base I (vs++[G])):
 BJ (w2.setCell ⟨g,0,none⟩ I) base g I vb x (vs++[G]) (M++[r]) l:=by
 have h1:=h.ext hx;have yR:w2.heap[g]?=some (.cells #[va,vb,.int .i64 x] 108 (0,0)):=(zF.block g h1.lt (av h1.a h1.box (by decide))).trans h1.box;have zi:∀k,k≠g->(w2.setCell ⟨g,0,none⟩ I).heap[k]?=w2.heap[k]?:=fun k hk=>heap_setCell_other _ _ _ _ hk
 have RI:o8 w2 base vb l:=h1.b.keep fun k hk=>zF.block k (h1.b.lt k hk).2 fun e=>aY (by decide) h1.b h1.a k hk e.symm
 have TF:dC w1 base (vs++[G]) (M++[r]):=h.rows.snoc hx hr J;have I6:dC w2 base (vs++[G]) (M++[r]):=TF.keep fun i k hi hk=>zF.block k ((TF.row i hi).lt k hk).2 fun e=>(TF.row i hi).apart h1.a k hk e.symm
 refine⟨?_,h.hg,?_,?_,?_⟩
 ·have:=heap_setCell_same w2 g 0 _ _ I yR;exact this
 ·exact ho.keep fun k hk=>zi k fun e=>(av ho yR (by decide)) (by rw[hk,e])
 ·exact I6.keep fun i k hi hk=>zi k fun e=>(av (I6.row i hi) yR (by decide)) (by rw[hk,e])
 ·exact RI.keep fun k hk=>zi k fun e=>(av RI yR (by decide)) (by rw[hk,e])
theorem BJ.Ip{w1 w2:World}(h:BJ w base g va vb x vs M l)(hx:Ext w w1)(hg:w1.grownBy w2 va.ownBlock):w2.heap[g]?=some (.cells #[va,vb,.int .i64 x] 108 (0,0)) :=
 (hg.block g (h.ext hx).lt (av (h.ext hx).a (h.ext hx).box (by decide))).trans (h.ext hx).box
theorem BJ.Io{w1 w2:World}(h:BJ w base g va vb x vs M l)(hx:Ext w w1)(hg:w1.grownBy w2 vb.ownBlock):w2.heap[g]?=some (.cells #[va,vb,.int .i64 x] 108 (0,0)) :=
 (hg.block g (h.ext hx).lt (av (h.ext hx).b (h.ext hx).box (by decide))).trans (h.ext hx).box
theorem BJ.pushB{w1 w2:World}(h:BJ w base g va vb x vs M l)(hx:Ext w w1){G:Value}{I:j9}(zF:w1.grownBy w2 vb.ownBlock)(ho:o8 w2 base G I):
 BJ (w2.setCell ⟨g,1,none⟩ G) base g va G x vs M I:=by
 have h1:=h.ext hx;have yR:=h.Io hx zF;have zi:∀k,k≠g->(w2.setCell ⟨g,1,none⟩ G).heap[k]?=w2.heap[k]?:=fun k hk=>heap_setCell_other _ _ _ _ hk
 have RK:zK w2 base va vs:=h1.a.keep fun k hk=>zF.block k (h1.a.lt k hk).2 fun e=>aY (by decide) h1.a h1.b k hk e.symm
 have I6:dC w2 base vs M:=h1.rows.keep fun i k hi hk=>zF.block k ((h1.rows.row i hi).lt k hk).2 fun e=>aY (by decide) (h1.rows.row i hi) h1.b k hk e.symm
 refine⟨?_,h.hg,?_,?_,?_⟩
 ·have:=heap_setCell_same w2 g 1 _ _ G yR;exact this
 ·exact RK.keep fun k hk=>zi k fun e=>(av RK yR (by decide)) (by rw[hk,e])
 ·exact I6.keep fun i k hi hk=>zi k fun e=>(av (I6.row i hi) yR (by decide)) (by rw[hk,e])
 ·exact ho.keep fun k hk=>zi k fun e=>(av ho yR (by decide)) (by rw[hk,e])
theorem BJ.new{G:World}{vb:Value}{base':Nat}(hb:o8 G base' vb l)(I:base<=base')(hs:base<=G.heap.size):
 BJ (G.alloc (.cells #[.slice none 0 0,vb,.int .i64 x] 108)) base G.heap.size (.slice none 0 0) vb x [] [] l :=
 ⟨heap_alloc_new _ _,hs,World.ownsRow_nil _ base _ 1,dC.nil _ _,(hb.mono I).ext (Ext.alloc _ _)⟩
theorem BJ.O'{G:World}{vb v0 v1 v2:Value}{base':Nat}(yR:G.heap[g]?=some (.cells #[v0,v1,v2] 108 (0,0)))(hb:o8 G base' vb l)(I:base<=base')(hs:base<=g):
 BJ (((G.setCell ⟨g,0,none⟩ (.slice none 0 0)).setCell ⟨g,1,none⟩ vb).setCell ⟨g,2,none⟩ (.int .i64 x)) base g (.slice none 0 0) vb x [] [] l:=by
 have e1:=heap_setCell_same G g 0 _ _ (.slice none 0 0) yR;have e2:=heap_setCell_same _ g 1 _ _ vb e1;have e3:=heap_setCell_same _ g 2 _ _ (.int .i64 x) e2;refine⟨e3,hs,World.ownsRow_nil _ base _ 1,dC.nil _ _,?_⟩;refine(hb.mono I).keep fun k hk=>?_
 have hne:k≠g:=fun e=>(av hb yR (by decide)) (by rw[hk,e])
 rw[heap_setCell_other _ _ _ _ hne,heap_setCell_other _ _ _ _ hne,heap_setCell_other _ _ _ _ hne]
end
structure yK(w:World)(base:Nat)(va vb:Value)(vs:List Value)(t:Tb):Prop where
 a:zK w base va vs
 rows:dC w base vs t.rows
 b:o8 w base vb t.basis
theorem yK.ext(h:yK w base va vb vs t)(hx:Ext w w'):yK w' base va vb vs t:=⟨h.a.ext hx,h.rows.ext hx,h.b.ext hx⟩
theorem yK.mono(h:yK w base va vb vs t)(hb:base'<=base):yK w base' va vb vs t :=
 ⟨by
  refine⟨h.a.1,?_⟩
  rcases h.a.2 with hn|⟨g,cap,cur,rfl,zd,rest⟩
  ·exact .inl hn
  ·exact .inr ⟨g,cap,cur,rfl,Nat.le_trans hb zd,rest⟩,⟨h.rows.len,fun i hi=>(h.rows.row i hi).mono hb,h.rows.apart⟩,h.b.mono hb⟩
theorem yK.Be{ra:j8}{rn rc:Nat}{ba:j8}{bn bc:Nat}(h:yK w base (.slice ra rn rc) (.slice ba bn bc) vs t):EZ w ra rn rc ba bn bc t :=
 ⟨mp.VP ⟨vs,h.a,h.rows⟩,h.b.ints⟩
theorem yK.yS(h:yK w base va vb vs t)(hk:∀k,base<=k->w'.heap[k]?=w.heap[k]?):yK w' base va vb vs t :=
 ⟨h.a.keep fun k e=>hk k (h.a.lt k e).1,h.rows.keep fun i k hi e=>hk k ((h.rows.row i hi).lt k e).1,h.b.keep fun k e=>hk k (h.b.lt k e).1⟩
theorem cZ(w:World)(b k:Nat)(x y z:Value)(h:k≠b):(((w.setCell ⟨b,0,none⟩ x).setCell ⟨b,1,none⟩ y).setCell ⟨b,2,none⟩ z).heap[k]?=w.heap[k]?:=by
 rw[heap_setCell_other _ _ _ _ h,heap_setCell_other _ _ _ _ h,heap_setCell_other _ _ _ _ h]
theorem BJ.own{x:Int}{l:j9}(h:BJ w base g va vb x vs M l):yK w base va vb vs ⟨M,l,x⟩:=⟨h.a,h.rows,h.b⟩
theorem Ext.A'(h:Ext w w'){b:Nat}(hb:w.heap.size<=b)(x y z:Value):Ext w (((w'.setCell ⟨b,0,none⟩ x).setCell ⟨b,1,none⟩ y).setCell ⟨b,2,none⟩ z):=((h.setCell (p:=⟨b,0,none⟩) hb _).setCell (p:=⟨b,1,none⟩) hb _).setCell (p:=⟨b,2,none⟩) hb _
theorem mA{cap:Nat}(h:r8 w a n cap l)(hb:n<=1099511627776):
 Calls Tryz.prog 167 #[.slice a n cap] w fun e w'=>∃v,e=.returned v/\l8 w' w.heap.size v l/\Ext w w':=by
 have heq:∀w':World,(binOp .eql 27 (.slice a n cap) (.slice none 0 0)).run Tryz.prog w'=.ok (.bool a.isNone) w':=fun w'=>Lib.run_eql_slice_nil w' _ _ a n cap 0 0 Tryz.underlying27
 have HL:=ae h.hlen;cases a with
 | none =>
   have hl:l=[]:=by
    have:¬0<n:=fun hn=>by obtain⟨b,off,e,_⟩:=h.cell 0 hn;cases e
    exact List.eq_nil_of_length_eq_zero (j4 HL.o)
   simp only[Option.isNone_none]at heq;go_enter Tryz.func167,Tryz.ntmps167
   go_wp2
   go_ret;exact⟨_,rfl,by rw[hl];exact l8.nil w _,Ext.refl _⟩
 | some ad =>
   simp only[Option.isNone_some]at heq;have HI:=ae (h.ext (Ext.alloc w (.cells #[] 46)));have HO:=ae (l8.made w w.heap.size (Nat.le_refl _));clear h;go_enter Tryz.func167,Tryz.ntmps167
   go_wp2_with (first|(at_builtin;refine aG rfl _ _ rfl w.heap.size _ _ rfl HO.o _ n _ l rfl HI.o (by simpa using hb) e7 ?_;intro v' w1 ho hg l7));go_ret;exact⟨_,rfl,by simpa using ho,al (Ext.alloc _ _) hg (fun k hk=>Nat.le_of_eq (Option.some.inj (show some w.heap.size=some k from hk)))⟩
def Sk(P:Program)(w:World)(fid:FuncId)(ca:Array Value)(p:j6->Bool):Prop :=
 ∀a n cap r (w1:World),Ext w w1->r8 w1 a n cap r->Calls P fid (#[.slice a n cap]++ca) w1 fun e w2=>e=.returned (.bool (p r))/\Ext w1 w2
theorem oc{cap:Nat}{l:List (j6)}{ca:Array Value}{p:j6->Bool}(h:gP w a n cap l)(hg:IsGo Tryz.prog fid)(hf:Sk Tryz.prog w fid ca p):
 Calls Tryz.prog 188 #[.slice a n cap,.func (.func fid) #[] ca] w fun e w'=>e=.returned (.int .i64 (bU p l))/\Ext w w':=by
 have hn:=h.o3;have hm:=h.l9;have HL:=ae h.hlen;have HI:=ae h;have I:=ae hf;clear h hf;have XI:∀(args:Array Value) (w:World),(callFunc fid args).run Tryz.prog w=.ok (.enter fid args) w:=hg;go_enter Tryz.func188,Tryz.ntmps188
 go_wp2_with fail
 go_loopg [8] n (fun gk ii wr=>∃k:Nat,b7 (gk+k=n)/\ii=.int .i64 (k:Int)/\b7 ((l.take k).all (fun x=>!p x)=true)/\b7 (Ext w wr))
 case atStart=>exact⟨0,ae b9,rfl,ae rfl,ae (Ext.refl _)⟩
 case round =>
  obtain⟨g1,J⟩:=b8 gk;subst J;obtain⟨K,O⟩:=b8 wr;subst O;obtain⟨k,G,rfl,HA,HX⟩:=hrel;by_cases hlt:k<n
  ·obtain⟨b,off,ra,rn,rc,rfl,y5,o9⟩:=(HI.o.ext HX.o).at hlt;have HF:=ae (I.o _ _ _ _ K HX.o o9);clear o9;have zD:=ae (show k<l.length by rw[HL.o];exact hlt);cases hb:p (l[k]?.getD [])
   all_goals
    rw[hb]at HF
   ·have HT:=ae (show(l.take (k+1)).all (fun x=>!p x)=true by
     rw[fz zD.o,List.all_append,HA.o];simp only[List.all_cons,List.all_nil,hb];rfl)
    clear hb;go_wp2_with fail;refine HF.o.mono ?_;rintro e w2 ⟨rfl,xg⟩;go_wp2_with fail
    go_roundg (g1-1)
    case measure=>have:=G.o;omega
    case rel=>exact⟨k+1,ae (j4 G.o),by go_num,HT,ae (HX.o.trans xg)⟩
   ·have HB:=ae (show bU p l=k from fh (d:=[]) zD.o HA.o hb);clear hb;go_wp2_with fail;refine HF.o.mono ?_;rintro e w2 ⟨rfl,xg⟩;go_wp2_with fail;go_ret;exact⟨aU HB.o.symm,HX.o.trans xg⟩
  ·have HT:=ae (show bU p l=-1 by
    have h2:=HA.o;rw[List.take_of_length_le (by rw[HL.o];have:=G.o;omega)]at h2
    exact dZ h2)
   go_wp2_with fail;go_ret;exact⟨aU HT.o.symm,HX.o⟩
theorem kV{cap:Nat}{l:List (j6)}{ca:Array Value}{p:j6->Bool}(h:gP w a n cap l)(hg:IsGo Tryz.prog fid)(hf:Sk Tryz.prog w fid ca p):
 Calls Tryz.prog 173 #[.slice a n cap,.func (.func fid) #[] ca] w fun e w'=>e=.returned (.bool (l.any p))/\Ext w w':=by
 have HC:=ae (oc h hg hf);clear h hf;go_enter Tryz.func173,Tryz.ntmps173
 go_wp2_with fail;refine HC.o.mono ?_;rintro e w2 ⟨rfl,xg⟩
 go_wp2
 all_goals go_ret;refine⟨ag ?_,xg⟩;rw[<-ig]
theorem vn(z:Int){h:Nat}{x:Int}(hx:0<=x/\x<=1000)(hm:m<=1048576)(h1:w.cell? ⟨g,2,none⟩=some (.int .i64 x))(h2:w.cell? ⟨h,0,none⟩=some (.int .i64 (m:Int))):
 Calls Tryz.prog 172 #[.int .i64 z,.pointer (some ⟨g,0,none⟩),.pointer (some ⟨h,0,none⟩)] w fun e w'=>e=.returned (.bool (!wJ z 0 (x+(m:Int)-1)))/\Ext w w':=by
 obtain⟨wI,wO⟩:=hx;go_enter Tryz.func172,Tryz.ntmps172
 go_wp2_with (first|(go_at_call 49;refine(aK _ _ _ _).mono ?_;rintro e w' ⟨rfl,rfl⟩));go_ret;exact⟨rfl,Ext.refl _⟩
theorem tZ:IsGo Tryz.prog 172:=isGo Tryz.func172 e8 e8
theorem vq{cap:Nat}{r:j6}(hr:r8 w a n cap r){h:Nat}{x:Int}(hx:0<=x/\x<=1000)(hm:m<=1048576)(h1:w.cell? ⟨g,2,none⟩=some (.int .i64 x))(h2:w.cell? ⟨h,0,none⟩=some (.int .i64 (m:Int))):
 Calls Tryz.prog 174 #[.slice a n cap,.pointer (some ⟨g,0,none⟩),.pointer (some ⟨h,0,none⟩)] w fun e w'=>e=.returned (.bool (!decide ((r.length:Int)=x+(m:Int)+1)))/\Ext w w':=by
 obtain⟨wI,wO⟩:=hx;have hc:=hr.o3;have hm:=hr.l9;have HL:=ae hr.hlen;clear hr;go_enter Tryz.func174,Tryz.ntmps174
 go_wp2_with fail;go_ret;refine⟨ag ?_,Ext.refl _⟩;rw[HL.o];by_cases e:(n:Int)=x+(m:Int)+1
 ·rw[decide_eq_true e];simpa using e
 ·rw[decide_eq_false e];simpa using e
theorem ua:IsGo Tryz.prog 174:=isGo Tryz.func174 e8 e8
theorem Pf{α:Type}(l:List α)(p:α->Bool):(!l.any fun x=>!p x)=l.all p:=by rw[List.not_any_eq_all_not];simp
theorem sF{α:Type}(l:List α)(p:α->Bool):(l.any fun x=>!p x)=!l.all p:=by rw[<-Pf,Bool.not_not]
section
variable{w:World}{ra:j8}{rn rc:Nat}{ba:j8}{bn bc:Nat}{t:Tb}
theorem iz(h:EZ w ra rn rc ba bn bc t)(O:rn<=1048576):
 Calls Tryz.prog 152 #[EB ra rn rc ba bn bc t.q8] w fun e w'=>e=.returned (.bool (AG t))/\Ext w w':=by
 obtain⟨rows,basis,x⟩:=t;have wI:=(Ext.alloc w (cg ra rn rc ba bn bc x)).trans (Ext.alloc _ (.cells #[.int .i64 (rn:Int)] 3));have wM:=ae wI;have H:=ae (h.ext wI);have yC:=h.rows.o3;have AX:=h.rows.l9;have zN:=h.basis.o3;have zx:=h.basis.l9;have zy:=ae h.rows.hlen;have y4:=ae h.basis.hlen
 have HE:=ae (show AG ⟨rows,basis,x⟩=(wJ x 0 1000&&(decide (bn=rn)&&(basis.all (fun b=>wJ b 0 (x+(rn:Int)-1))&&rows.all (fun r=>decide ((r.length:Int)=x+(rn:Int)+1)))))by
  unfold AG;simp only
  rw[h.rows.hlen,h.basis.hlen])
 clear h wI
 show Calls _ _ #[EB ra rn rc ba bn bc x] w _;have G:=ae (fun w=>aK x 0 1000 w);cases xR:wJ x 0 1000
 ·rw[xR]at G HE;clear xR;go_enter Tryz.func152,Tryz.ntmps152
  go_wp2_with fail;refine(G.o _).mono ?_;rintro e w1 ⟨rfl,rfl⟩;go_wp2_with fail;go_ret;exact⟨ag HE.o.symm,wM.o⟩
 ·have K:0<=x/\x<=1000:=by unfold wJ at xR;simp at xR;exact xR
  have Kk:=ae K;rw[xR]at G HE;clear xR K;by_cases Du:bn=rn
  ·subst Du;have zd:((bn:Int) != (bn:Int))=false:=by simp
   have AE:=ae (show AG ⟨rows,basis,x⟩=(basis.all (fun b=>wJ b 0 (x+(bn:Int)-1))&&rows.all (fun r=>decide ((r.length:Int)=x+(bn:Int)+1)))by rw[HE.o,decide_eq_true rfl];rfl);have I:=ae (dQ (ca:=#[.pointer (some ⟨w.heap.size,0,none⟩),.pointer (some ⟨w.heap.size+1,0,none⟩)]) H.o.basis tZ (p:=fun b=>!wJ b 0 (x+(bn:Int)-1)) (fun z w1 hx=>vn z Kk.o O (hx.k6 e7) (hx.k6 e7)));rw[sF]at I;cases hb:basis.all (fun b=>wJ b 0 (x+(bn:Int)-1))
   ·rw[hb]at I AE;clear hb;go_enter Tryz.func152,Tryz.ntmps152
    go_wp2_with fail;refine(G.o _).mono ?_;rintro e w1 ⟨rfl,rfl⟩;go_wp2_with fail;refine I.o.mono ?_;rintro e w2 ⟨rfl,hx⟩;have X2:=ae (wM.o.trans hx);clear hx;go_wp2_with fail;go_ret;exact⟨ag AE.o.symm,X2.o⟩
   ·rw[hb]at I AE;clear hb;go_enter Tryz.func152,Tryz.ntmps152
    go_wp2_with fail;refine(G.o _).mono ?_;rintro e w1 ⟨rfl,rfl⟩;go_wp2_with fail;refine I.o.mono ?_;rintro e w2 ⟨rfl,hx⟩;have J:=ae (kV (ca:=#[.pointer (some ⟨w.heap.size,0,none⟩),.pointer (some ⟨w.heap.size+1,0,none⟩)]) (H.o.ext hx).rows ua (p:=fun r=>!decide ((r.length:Int)=x+(bn:Int)+1)) (fun a n cap r w1 xg hr=>vq hr Kk.o O ((hx.trans xg).k6 e7) ((hx.trans xg).k6 e7)));rw[sF]at J;have hq:w2.cell? ⟨w.heap.size,0,none⟩=some (.slice ra bn rc):=hx.k6 e7;have X2:=ae (wM.o.trans hx);clear hx;go_wp2_with fail;refine J.o.mono ?_;rintro e w3 ⟨rfl,hx⟩;have X3:=ae (X2.o.trans hx);clear hx;go_wp2_with fail;go_ret;exact⟨ag (by rw[AE.o];simp),X3.o⟩
  ·have zd:((bn:Int) != (rn:Int))=true:=by simp;omega
   have HF:=ae (show AG ⟨rows,basis,x⟩=false by rw[HE.o,decide_eq_false Du];rfl);go_enter Tryz.func152,Tryz.ntmps152
   go_wp2_with fail;refine(G.o _).mono ?_;rintro e w1 ⟨rfl,rfl⟩;go_wp2_with fail;go_ret;exact⟨ag HF.o.symm,wM.o⟩
theorem jo(h:EZ w ra rn rc ba bn bc t)(BF:rn<=1048576)(ER:bn<=1048576)(Cg:∀i,i<rn->(t.row i).length<=1048576):
 Calls Tryz.prog 171 #[EB ra rn rc ba bn bc t.q8] w fun e w'=>(∃va vb vs,e=.returned (.agg #[va,vb,.int .i64 t.q8])/\yK w' w.heap.size va vb vs t)/\Ext w w':=by
 obtain⟨rows,basis,x⟩:=t;have wI:=(Ext.alloc w (cg ra rn rc ba bn bc x)).trans (Ext.alloc _ (.cells #[.slice none 0 0,.slice none 0 0,.int .i64 0] 108));obtain⟨W,hW⟩:=b8 ((w.alloc (cg ra rn rc ba bn bc x)).alloc (.cells #[.slice none 0 0,.slice none 0 0,.int .i64 0] 108));rw[<-hW]at wI;have wM:=ae wI;have H:=ae (h.ext wI);have yC:=h.rows.o3;have AX:=h.rows.l9;have zy:=ae h.rows.hlen;have zT:=ae Cg;have p0:W.cell? ⟨w.heap.size,0,none⟩=some (.slice ra rn rc):=by rw[hW];simp
 have p1:W.cell? ⟨w.heap.size,1,none⟩=some (.slice ba bn bc):=by rw[hW];simp
 have p2:W.cell? ⟨w.heap.size,2,none⟩=some (.int .i64 x):=by rw[hW];simp
 have yA:=ae (show W.heap[w.heap.size+1]?=some (.cells #[.slice none 0 0,.slice none 0 0,.int .i64 0] 108 (0,0))by rw[hW];exact ak _ _ _ e7);have Bc:=ae (show W.heap.size=w.heap.size+1+1 by rw[hW];simp);clear h wI Cg
 show Calls _ _ #[EB ra rn rc ba bn bc x] w _;go_enter Tryz.func171,Tryz.ntmps171
 go_upto_region 1 with fail;rw[<-hW];clear hW
 go_cut [3] (fun s wx=>∃(g:Nat) (a3:j8) (n3 c3:Nat),s=.pointer (some ⟨g,0,none⟩)/\b7 (BJ wx W.heap.size g (.slice none 0 0) (.slice a3 n3 c3) x [] [] basis)/\b7 (Ext W wx))
 case first =>
  have k7:Ext W W.drew:=Ext.drew W;have G:Ext W (W.alloc (.cells #[.slice none 0 0,.slice none 0 0,.int .i64 0] 108)).drew:=(Ext.alloc _ _).trans (Ext.drew _);have k8:=ae (fun(w':World) (h:Ext W w')=>(⟨h.k6 p0,h.k6 p1,h.k6 p2,h⟩:w'.cell? ⟨w.heap.size,0,none⟩=some (.slice ra rn rc)/\w'.cell? ⟨w.heap.size,1,none⟩=some (.slice ba bn bc)/\w'.cell? ⟨w.heap.size,2,none⟩=some (.int .i64 x)/\Ext W w'))
  go_region_held3 (fun w'=>w'.cell? ⟨w.heap.size,0,none⟩=some (.slice ra rn rc)/\w'.cell? ⟨w.heap.size,1,none⟩=some (.slice ba bn bc)/\w'.cell? ⟨w.heap.size,2,none⟩=some (.int .i64 x)/\Ext W w')
   (first
     | with_reducible exact k8.o _ k7
     | with_reducible exact k8.o _ G
     | with_reducible exact k8.o _ (k7.trans (Ext.alloc _ _))
     | with_reducible exact k8.o _ (((k7.setCell (Nat.le_refl _) _).setCell (Nat.le_refl _) _).setCell (Nat.le_refl _) _))
   (first
     | (go_at_call 56
        (with_reducible refine(mz (H.o.ext (by first|with_reducible exact k7|with_reducible exact G|with_reducible exact k7.trans (Ext.alloc _ _))).basis b9).mono ?_)
        rintro e w3 ⟨v3,rfl,I,K⟩;obtain⟨a3,n3,c3,rfl,G0⟩:=I.var
        first|(
           have RJ:w3.heap[W.heap.size]?=some (.cells #[.slice none 0 0,.slice none 0 0,.int .i64 0] 108 (0,0)):=Ext.blk K (show(W.alloc (.cells #[.slice none 0 0,.slice none 0 0,.int .i64 0] 108)).drew.heap[W.heap.size]?=_ from heap_alloc_new W _);have BQ:=au RJ;have BP:=aH RJ;have Yk:=aI RJ;have Yj:=dh RJ;have Bh:=ae RJ
           clear RJ)|skip
        have k7:Ext W w3:=by first|with_reducible exact k7.trans K|with_reducible exact G.trans K
        have zr:=k7.size)
     | fail)
  all_goals
   go_wp2_with fail;go_meet
  ·exact⟨_,a3,n3,c3,rfl,ae (BJ.new I (Nat.le_refl _) zr),ae (k7.trans (Ext.alloc _ _))⟩
  ·exact⟨_,a3,n3,c3,rfl,ae (BJ.O' Bh.o I G.size (Nat.le_refl _)),ae (((k7.setCell (Nat.le_refl _) _).setCell (Nat.le_refl _) _).setCell (Nat.le_refl _) _)⟩
 obtain⟨g,a3,n3,c3,rfl,HT,xz⟩:=hcut;replace p0:=xz.o.k6 p0;clear p1 p2;go_wp2_with fail
 go_loopg [15] rn (fun gk ii wr=>∃(k:Nat) (va:Value) (vs:List Value),b7 (gk+k=rn)/\ii=.int .i64 (k:Int)/\b7 (BJ wr W.heap.size g va (.slice a3 n3 c3) x vs (rows.take k) basis)/\b7 (Ext W wr))
 case atStart=>exact⟨0,_,_,ae b9,rfl,HT,xz⟩
 case round =>
  obtain⟨g1,r7⟩:=b8 gk;subst r7;obtain⟨Z,o6⟩:=b8 wr;subst o6;obtain⟨k,va,vs,O,rfl,T,HX⟩:=hrel;clear p0;by_cases hlt:k<rn
  ·obtain⟨zb,xJ,za,zn,zc,Bt,y9,o9⟩:=(H.o.ext HX.o).rows.at hlt;subst Bt;have Js:zn<=1048576:=by rw[<-o9.hlen];exact zT.o k hlt
   have Ay:=ae o9;have t0:=au T.o.box;have D':=T.o.lt;have u:=HX.o.size;have yD:=ae (show vs.length=k by rw[T.o.rows.len,List.length_take];have h2:rows.length=rn:=zy.o;omega);clear o9;go_upto_region 5 with fail
   go_region_law (first
    | (refine ci _ rfl (eU _ _ rfl W.heap.size va vs rfl ((T.o.ext Br.o).a.ext (Ext.alloc _ _)) _ _ 1 rfl (by first|(simp;done)|(simp;rfl)) rfl (j4 yD.o) (by first|(simp;done)|(simp;omega)) ?_);intro v6 w6 Ta J' hn6;have J:=T.o.Ip (Br.o.trans (Ext.alloc _ _)) J';have c0:=au J;have cf:=dh J;obtain⟨a6,n6,c6,rfl,Jg⟩:=Ta.var;have BU:=ae Ta;have R':=ae J';clear Ta J' hn6 J)
    | (go_simp;go_at_call 167;refine(mA (Ay.o.ext (Ext.drew _)) b9).mono ?_;rintro e w5 ⟨v5,rfl,R,U⟩;obtain⟨a5,n5,c5,rfl,A9⟩:=R.var;have Br:=ae ((Ext.drew Z).trans U);have xL:=ae R;have A8:=Br.o.size;have hg5:g<w5.heap.size:=b9;replace t0:=Br.o.k6 t0;clear R U))
   all_goals
    go_wp2_with fail;have Je:=ae (T.o.DW (Br.o.trans (Ext.alloc _ _)) (xL.o.ext (Ext.alloc _ _)) u R'.o BU.o);have F':=ae ((al ((HX.o.trans Br.o).trans (Ext.alloc _ _)) R'.o (fun i hi=>(T.o.a.lt i hi).1)).setCell (p:=⟨g,0,none⟩) T.o.hg (.slice a6 n6 c6))
    go_roundg (g1-1)
    case measure=>have:=O.o;omega
    case rel=>exact⟨k+1,_,_,ae (j4 O.o),by go_num,ae (by have:=Je.o;rw[<-fz (by have h2:rows.length=rn:=zy.o;omega)]at this;exact this),F'⟩
  ·have xQ:rn=k:=by have:=O.o;omega
   subst xQ;have OB:=ae (show rows.take rn=rows from List.take_of_length_le (Nat.le_of_eq zy.o));have Je:=ae (show BJ Z W.heap.size g va (.slice a3 n3 c3) x vs rows basis by have:=T.o;rw[OB.o]at this;exact this);have t0:=au T.o.box;have t1:=aH T.o.box;have t2:=aI T.o.box;obtain⟨a7,n7,c7,rfl,E'⟩:=T.o.a.var;have q0:=HX.o.blk yA.o;have r0:=au q0;have r1:=aH q0;have r2:=aI q0;have rf:=dh q0;have Rb:=Bc.o;have u:=HX.o.size;clear q0;go_wp2_with fail;refine bodyPost_ret (v:=.agg #[.slice a7 n7 c7,.slice a3 n3 c3,.int .i64 x]) (by simp[results,Tryz.results171,go_sem,r0,r1,r2,rf]) rfl ⟨⟨_,_,vs,rfl,?_⟩,?_⟩
   ·exact(Je.o.own.yS fun k hk=>cZ _ _ _ _ _ _ b9).mono b9
   ·exact(wM.o.trans HX.o).A' (Nat.le_succ _) _ _ _
end
end Go.Proofs.YtalmoolkhcgmmaaGreat
