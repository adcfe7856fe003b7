import Derived.Test.YtdadoignenffgaaGreatDoorSvAllG7
import Derived.Test.YtdadoignenffgaaGreatDoorSvAllG12
import Derived.Test.YtdadoignenffgaaGreatDoorSvAllG14
import Derived.Test.YtdadoignenffgaaGreatDoorSvAllG2
import Derived.Test.YtdadoignenffgaaGreatDoorSvAllG8
import Derived.Test.YtdadoignenffgaaGreatDoorSvAllG9
set_option linter.unusedVariables false
set_option linter.unusedSimpArgs false
namespace Go.Proofs.YtdadoignenffgaaGreatDoor
variable{w w':World}{a b:j6}{n k base N:Nat}{l B:j4}{fid:FuncId}{L M:List (j4)}{v:Value}{vs:List Value}{A:j5}
set_option maxHeartbeats 16000000
open Go.RowKit
theorem dS(x y:Int)(w:World)(h0:-9223372036854775807<=x)(h1:x<=9223372036854775807):
 Calls Tryz.prog 74 #[wk x y] w fun e w'=>e=.returned (wk (-x) y)/\Ext w w':=by
 go_enter Tryz.func74,Tryz.ntmps74
 go_wp2_with fail;refine bodyPost_ret (v:=wk (-x) y) (by simp[results,Tryz.results74,go_sem]) rfl ⟨rfl,?_⟩;exact(Ext.alloc _ _).trans (Ext.alloc _ _)
theorem eB(x y:Int)(w:World)(h0:-9223372036854775807<=x)(h1:x<=9223372036854775807):
 Calls Tryz.prog 51 #[wk x y] w fun e w'=>e=.returned (wk (-x) y)/\Ext w w':=by
 go_enter Tryz.func51,Tryz.ntmps51
 go_wp2_with fail;refine bodyPost_ret (v:=wk (-x) y) (by simp[results,Tryz.results51,go_sem]) rfl ⟨rfl,?_⟩;exact(Ext.alloc _ _).trans (Ext.alloc _ _)
set_option maxRecDepth 100000
def Pj(P:Program)(w:World)(fid:FuncId)(ca:Array Value)(p:j8->Bool):Prop :=
 ∀x y (w1:World),Ext w w1->Calls P fid (#[wk x y]++ca) w1 fun e w2=>e=.returned (.bool (p (x,y)))/\Ext w1 w2
theorem mF{cap:Nat}{ca:Array Value}{p:j8->Bool}(h:Rats w a n cap l)(hg:IsGo Tryz.prog fid)(hf:Pj Tryz.prog w fid ca p):
 Calls Tryz.prog 249 #[.slice a n cap,.func (.func fid) #[] ca] w fun e w'=>e=.returned (.int .i64 (bX p l))/\Ext w w':=by
 have hn:=h.l8;have hm:=h.o0;have HL:=ae h.hlen;have HI:=ae h;have I:=ae hf;clear h hf;have RP:∀(args:Array Value) (w:World),(callFunc fid args).run Tryz.prog w=.ok (.enter fid args) w:=hg;go_enter Tryz.func249,Tryz.ntmps249
 go_wp2_with fail
 go_loopg [8] n (fun gk ii wr=>∃k:Nat,b7 (gk+k=n)/\ii=.int .i64 (k:Int)/\b7 ((l.take k).all (fun x=>!p x)=true)/\b7 (Ext w wr))
 case atStart=>exact⟨0,ae e7,rfl,ae rfl,ae (Ext.refl _)⟩
 case round =>
  obtain⟨g1,K⟩:=b9 gk;subst K;obtain⟨J,O⟩:=b9 wr;subst O;obtain⟨k,G,rfl,HA,HX⟩:=hrel;by_cases hlt:k<n
  ·obtain⟨b,off,x,y,rfl,E,wK,xB⟩:=(HI.o.ext HX.o).at hlt;have HF:=ae (I.o x y J HX.o);cases hb:p (x,y)
   all_goals
    rw[hb]at HF
   ·have HT:=ae (show(l.take (k+1)).all (fun x=>!p x)=true by
     rw[List.take_succ_eq_append_getElem (by rw[HL.o];exact hlt),List.all_append,HA.o];have:l[k]'(by rw[HL.o];exact hlt)=(x,y):=by rw[List.getElem?_eq_getElem (by rw[HL.o];exact hlt)]at E;simpa using E
     rw[this];simp[hb])
    clear E hb;go_wp2_with fail;refine HF.o.mono ?_;rintro e w2 ⟨rfl,vL⟩;go_wp2_with fail
    go_roundg (g1-1)
    case measure=>have:=G.o;omega
    case rel=>exact⟨k+1,ae (j1 G.o),by go_num,HT,ae (HX.o.trans vL)⟩
   ·have HB:=ae (show bX p l=k from eH (d:=(0,0)) (by rw[HL.o];exact hlt) HA.o (by rw[E];exact hb));clear E hb;go_wp2_with fail;refine HF.o.mono ?_;rintro e w2 ⟨rfl,vL⟩;go_wp2_with fail;go_ret;exact⟨aD HB.o.symm,HX.o.trans vL⟩
  ·have HT:=ae (show bX p l=-1 by
    have h2:=HA.o;rw[List.take_of_length_le (by rw[HL.o];have:=G.o;omega)]at h2
    exact dL h2)
   go_wp2_with fail;go_ret;exact⟨aD HT.o.symm,HX.o⟩
theorem fT{cap:Nat}{ca:Array Value}{p:j8->Bool}(h:Rats w a n cap l)(hg:IsGo Tryz.prog fid)(hf:Pj Tryz.prog w fid ca p):
 Calls Tryz.prog 229 #[.slice a n cap,.func (.func fid) #[] ca] w fun e w'=>e=.returned (.bool (l.any p))/\Ext w w':=by
 have HC:=ae (mF h hg hf);clear h hf;go_enter Tryz.func229,Tryz.ntmps229
 go_wp2_with fail;refine HC.o.mono ?_;rintro e w2 ⟨rfl,vL⟩
 go_wp2
 all_goals go_ret;refine⟨ai ?_,vL⟩;rw[<-gh]
theorem qG(x y:Int)(w:World):Calls Tryz.prog 230 #[wk x y] w fun e w'=>e=.returned (.bool (!o9 (x,y)))/\Ext w w':=by
 have HX:=ae (Ext.alloc w (.cells #[.int .i64 x,.int .i64 y] 62));go_enter Tryz.func230,Tryz.ntmps230
 go_wp2_with fail;refine(ap x y _).mono ?_;rintro e w1 ⟨rfl,hx⟩;have X1:=ae (HX.o.trans hx);clear hx;go_wp2_with fail;go_ret;exact⟨rfl,X1.o⟩
theorem oR:IsGo Tryz.prog 230:=isGo Tryz.func230 e9 e9
theorem lF{cap:Nat}(h:Rats w a n cap l):
 Calls Tryz.prog 188 #[.slice a n cap] w fun e w'=>e=.returned (.bool (xC l))/\Ext w w':=by
 have HC:=ae (fT h oR (ca:=#[]) (p:=fun r=>!o9 r) (fun x y w1 _=>qG x y w1));have HE:=ae (show(!l.any (fun r=>!o9 r))=xC l by unfold xC;rw[List.not_any_eq_all_not];simp);clear h;go_enter Tryz.func188,Tryz.ntmps188
 go_wp2_with fail;refine HC.o.mono ?_;rintro e w1 ⟨rfl,hx⟩;have X1:=ae hx;clear hx;go_wp2_with fail;go_ret;exact⟨ai HE.o,X1.o⟩
theorem mC(x y:Int)(w:World):Calls Tryz.prog 238 #[wk x y] w fun e w'=>e=.returned (.bool (!(o9 (x,y)&&decide (0<=x))))/\Ext w w':=by
 have HX:=ae (Ext.alloc w (.cells #[.int .i64 x,.int .i64 y] 62));have HV:=ae (fun w=>ap x y w);cases hv:o9 (x,y)
 ·rw[hv]at HV;clear hv;go_enter Tryz.func238,Tryz.ntmps238
  go_wp2_with fail;refine(HV.o _).mono ?_;rintro e w1 ⟨rfl,hx⟩;have X1:=ae (HX.o.trans hx);clear hx;go_wp2_with fail;go_ret;exact⟨rfl,X1.o⟩
 ·rw[hv]at HV;clear hv;cases uS:decide (0<=x)
  ·have hlt:decide (x<0)=true:=by simp at uS⊢;omega
   clear uS;go_enter Tryz.func238,Tryz.ntmps238
   go_wp2_with fail;refine(HV.o _).mono ?_;rintro e w1 ⟨rfl,hx⟩;have hc:w1.cell? ⟨w.heap.size,0,none⟩=some (.int .i64 x):=hx.j9 e8;have X1:=ae (HX.o.trans hx);clear hx;go_wp2_with fail;go_ret;exact⟨rfl,X1.o⟩
  ·have hlt:decide (x<0)=false:=by simp at uS⊢;omega
   clear uS;go_enter Tryz.func238,Tryz.ntmps238
   go_wp2_with fail;refine(HV.o _).mono ?_;rintro e w1 ⟨rfl,hx⟩;have hc:w1.cell? ⟨w.heap.size,0,none⟩=some (.int .i64 x):=hx.j9 e8;have X1:=ae (HX.o.trans hx);clear hx;go_wp2_with fail;go_ret;exact⟨rfl,X1.o⟩
theorem lE:IsGo Tryz.prog 238:=isGo Tryz.func238 e9 e9
theorem jb{cap:Nat}(h:Rats w a n cap l)(m:Nat):
 Calls Tryz.prog 199 #[.slice a n cap,.int .i64 (m:Int)] w fun e w'=>e=.returned (.bool (decide (l.length=m)&&Ax l))/\Ext w w':=by
 have l8:=h.l8;have o0:=h.o0;have HL:=ae h.hlen;have HC:=ae (fT h lE (ca:=#[]) (p:=fun r=>!(o9 r&&decide (0<=r.1))) (fun x y w1 _=>mC x y w1));have HE:=ae (show(!l.any (fun r=>!(o9 r&&decide (0<=r.1))))=Ax l by unfold Ax;rw[List.not_any_eq_all_not];simp);clear h;cases hn:((n:Int) == (m:Int))
 ·have HN:=ae (show decide (l.length=m)=false by rw[HL.o];simp at hn⊢;omega);go_enter Tryz.func199,Tryz.ntmps199
  go_wp2_with fail;go_ret;exact⟨ai (by rw[HN.o];rfl),Ext.refl _⟩
 ·have HN:=ae (show decide (l.length=m)=true by rw[HL.o];simp at hn⊢;omega);go_enter Tryz.func199,Tryz.ntmps199
  go_wp2_with fail;refine HC.o.mono ?_;rintro e w1 ⟨rfl,hx⟩;have X1:=ae hx;clear hx;go_wp2_with fail;go_ret;exact⟨ai (by rw[HN.o,<-HE.o];simp),X1.o⟩
structure fF(w:World)(a:j6)(n cap:Nat)(L:List (j4)):Prop where
 hlen:L.length=n
 l8:n<=cap
 o0:cap<=9223372036854775807
 cell:∀k,k<n->∃b off,a=some ⟨b,off,none⟩/\∀k,k<n->∃a' n' c',w.cell? ⟨b,off+k,none⟩=some (.slice a' n' c')/\Rats w a' n' c' (L[k]?.getD [])
theorem fF.ext{cap:Nat}(h:fF w a n cap L)(hx:Ext w w'):fF w' a n cap L :=
 ⟨h.hlen,h.l8,h.o0,fun k hk=>let⟨b,off,e,hc⟩:=h.cell k hk;⟨b,off,e,fun k hk=>let⟨I,E,G,h1,h2⟩:=hc k hk;⟨I,E,G,hx.j9 h1,h2.ext hx⟩⟩⟩
theorem fF.at{cap:Nat}(h:fF w a n cap L)(hk:k<n):
 ∃b off a' n' c',a=some ⟨b,off,none⟩/\w.cell? ⟨b,off+k,none⟩=some (.slice a' n' c')/\Rats w a' n' c' (L[k]?.getD []) :=
 let⟨b,off,e,hc⟩:=h.cell k hk;let⟨a',n',c',h1,h2⟩:=hc k hk;⟨b,off,a',n',c',e,h1,h2⟩
def xM(w:World)(base:Nat)(v:Value)(vs:List Value):Prop:=w.ownsRow base 35 1 v vs.length vs
theorem xM.form(h:xM w base v vs):∃a cap,v=.slice a vs.length cap/\vs.length<=cap/\cap<=9223372036854775807:=by
 rcases h.2 with⟨rfl,h0⟩|⟨g,cap,cur,rfl,_,_,h1,h2,_⟩
 ·exact⟨none,0,by rw[h0],by omega,by omega⟩
 ·exact⟨_,cap,rfl,h1,by simpa[maxLen]using h2⟩
theorem xM.var(h:xM w base v vs):∃a n cap,v=.slice a n cap/\b7 (vs.length=n):=by
 obtain⟨a,cap,e,_⟩:=h.form;exact⟨a,_,cap,e,rfl⟩
theorem xM.cell{cap:Nat}(h:xM w base (.slice a n cap) vs)(hk:k<n):∃g,a=some ⟨g,0,none⟩/\base<=g/\∀k,k<n->w.cell? ⟨g,k,none⟩=vs[k]?:=by
 rcases h.2 with⟨he,h0⟩|⟨g,cap',cur,he,hb,hg,h1,h2,hs,ht⟩
 ·simp only[Value.slice.injEq]at he;omega
 ·simp only[Value.slice.injEq]at he;obtain⟨rfl,rfl,rfl⟩:=he;refine⟨g,rfl,hb,fun k hk=>?_⟩;rw[cell_of_row w g k cur _ (0,0) hg];have:(cur.toList.take (vs.length*1))[k]?=vs[k]?:=by rw[ht]
  rw[List.getElem?_take,if_pos e7]at this
  simpa using this
theorem xM.len{cap:Nat}(h:xM w base (.slice a n cap) vs):vs.length=n:=by
 obtain⟨a',cap',he,_⟩:=h.form;simp only[Value.slice.injEq]at he;exact he.2.1.symm
theorem xM.lt(h:xM w base v vs):∀k,v.ownBlock=some k->base<=k/\k<w.heap.size:=World.ownsRow.lt h
theorem xM.keep(h:xM w base v vs)(hk:∀k,v.ownBlock=some k->w'.heap[k]?=w.heap[k]?):xM w' base v vs:=by
 refine⟨h.1,?_⟩
 rcases h.2 with hn|⟨g,cap,cur,rfl,hb,E,rest⟩
 ·exact .inl hn
 ·exact .inr ⟨g,cap,cur,rfl,hb,(hk g rfl).trans E,rest⟩
theorem xM.ext(h:xM w base v vs)(hx:Ext w w'):xM w' base v vs:=h.keep fun k hk=>hx.block k (h.lt k hk).2
theorem l9.apart{base':Nat}{E:Value}(h:l9 w base v l)(h':xM w base' E vs):∀k,v.ownBlock=some k->E.ownBlock≠some k:=by
 intro k hk Bn
 rcases h.2 with⟨rfl,_⟩|⟨g,cap,cur,rfl,_,hg,_⟩
 ·simp[Value.ownBlock]at hk
 ·rcases h'.2 with⟨rfl,_⟩|⟨g',cap',cur',rfl,_,G,_⟩
  ·simp[Value.ownBlock]at Bn
  ·simp only[Value.ownBlock,Option.some.injEq]at hk Bn;subst hk Bn;rw[hg]at G;simp at G
theorem Tryz.JA:(Tryz.prog.info? 35).map (fun i=>(i.zero,i.size,i.bytes))=some (some (.slice none 0 0),1,24):=by kernel_rfl
section
variable{P:Program}{w:World}{ops:Array Oper}{rest:List Oper}{o:Oper}{a:Act}{Q:Exit->Act->World->Prop}
theorem eu{K:Act->World->Prop}(s x:Operand)(ho:o.op=.call { callee:=.builtin .append,args:=#[s,x],argTypes:=#[114,114] })
 (base:Nat) (v:Value) (vs:List Value) (hs:a.eval s=v) (W:xM w base v vs) (O:Addr) (u:Value) (c:Nat) (hx:a.eval x=.slice (some O) 1 c)
 (E:w.cell? O=some u) (J:u.oneCell'=true) (hb:vs.length<=1099511627775) (G:base<=w.heap.size)
 (h:∀I w',xM w' base I (vs++[u])->w.grownBy w' v.ownBlock->y9 w v I->K (a.put o.dst I) w'):o.wp Tryz.prog a w K Q:=by
 obtain⟨i,hi,U,Cm,A4⟩:=info_parts Tryz.JA;refine el w s x 114 ho base 35 i (.slice none 0 0) 1 24 Tryz.underlying114 hi U Cm A4 rfl (by decide) v vs.length vs hs W O 1 c [u] hx rfl ?_ ?_ (by simp[maxLen];omega) e7 G ?_
 ·intro j Z hu
  match j with
  | 0=>simpa[Addr.add]using hu▸E
  | j+1=>simp at hu
 ·intro Z hu;simp only[List.mem_singleton]at hu;rw[hu];exact J
 ·intro I w' h1 h2 h3;refine h I w' ?_ h2 h3;unfold xM;rw[List.length_append];exact h1
end
structure di(w:World)(base:Nat)(vs:List Value)(L:List (j4)):Prop where
 len:vs.length=L.length
 row:∀i,i<L.length->l9 w base (vs[i]?.getD undef) (L[i]?.getD [])
 apart:∀i j k,i<j->j<L.length->(vs[i]?.getD undef).ownBlock=some k->(vs[j]?.getD undef).ownBlock≠some k
theorem di.keep(h:di w base vs L)(hk:∀i k,i<L.length->(vs[i]?.getD undef).ownBlock=some k->w'.heap[k]?=w.heap[k]?):di w' base vs L :=
 ⟨h.len,fun i hi=>(h.row i hi).keep fun k Bn=>hk i k hi Bn,h.apart⟩
theorem di.ext(h:di w base vs L)(hx:Ext w w'):di w' base vs L :=
 h.keep fun i k hi hk=>hx.block k ((h.row i hi).lt k hk).2
theorem di.nil(w:World)(base:Nat):di w base [] []:=⟨rfl,fun i hi=>absurd hi e8,fun i j k _ hj=>absurd hj e8⟩
theorem di.snoc(h:di w base vs L)(hx:Ext w w')(E:l9 w' w.heap.size v l)(hb:base<=w.heap.size):di w' base (vs++[v]) (L++[l]):=by
 have h':=h.ext hx;refine⟨by simp[h.len],fun i hi=>?_,fun i j k Hg hj hk=>?_⟩
 ·by_cases hl:i<L.length
  ·rw[List.getElem?_append_left (by rw[h.len];exact hl),List.getElem?_append_left hl];exact h'.row i hl
  ·have:i=L.length:=by simp at hi;omega
   subst this;rw[<-h.len];simp only[List.getElem?_concat_length,Option.getD_some];rw[h.len];simp only[List.getElem?_concat_length,Option.getD_some];exact E.mono hb
 ·by_cases hl:j<L.length
  ·rw[List.getElem?_append_left (by rw[h.len];omega)]at hk;rw[List.getElem?_append_left (by rw[h.len];exact hl)];exact h.apart i j k Hg hl hk
  ·have:j=L.length:=by simp at hj;omega
   subst this;rw[List.getElem?_append_left (by rw[h.len];omega)]at hk;rw[<-h.len];simp only[List.getElem?_concat_length,Option.getD_some];intro G;have h1:=((h.row i e7).lt k hk).2;have h2:=(E.lt k G).1;omega
def lh(w:World)(base:Nat)(v:Value)(L:List (j4)):Prop:=∃vs,xM w base v vs/\di w base vs L
theorem lh.form(h:lh w base v L):∃a cap,v=.slice a L.length cap/\L.length<=cap/\cap<=9223372036854775807:=by
 obtain⟨vs,h1,h2⟩:=h;have:=h1.form
 rwa [h2.len]at this
theorem lh.So{cap:Nat}(h:lh w base (.slice a n cap) L):fF w a n cap L:=by
 obtain⟨I,E,he,h1,h2⟩:=h.form;simp only[Value.slice.injEq]at he;obtain⟨rfl,rfl,rfl⟩:=he;obtain⟨vs,h3,h4⟩:=h;refine⟨rfl,h1,h2,fun k hk=>?_⟩;obtain⟨g,rfl,_,hc⟩:=h3.cell hk;refine⟨g,0,rfl,fun k hk=>?_⟩;have hv:k<vs.length:=by rw[h4.len];exact hk
 obtain⟨I,E,hf,_⟩:=(h4.row k hk).form;have G:=h4.row k hk;rw[hf]at G;refine⟨I,_,E,?_,G.uZ⟩;rw[Nat.zero_add,hc k hk,<-hf];simp[hv]
structure yS(w:World)(base:Nat)(a:j6)(N cap:Nat)(vs:List Value)(M:List (j4)):Prop where
 own:xM w base (.slice a N cap) vs
 rows:di w base vs M
theorem yS.yy{cap:Nat}(h:yS w base a N cap vs M):vs.length=N:=h.own.len
theorem yS.len{cap:Nat}(h:yS w base a N cap vs M):M.length=N:=by rw[<-h.rows.len];exact h.own.len
theorem yS.keep{cap:Nat}(h:yS w base a N cap vs M)(h0:∀k,(Value.slice a N cap).ownBlock=some k->w'.heap[k]?=w.heap[k]?)
 (h1:∀i k,i<N->(vs[i]?.getD undef).ownBlock=some k->w'.heap[k]?=w.heap[k]?):yS w' base a N cap vs M :=
 ⟨h.own.keep h0,h.rows.keep fun i k hi hk=>h1 i k (by rw[<-h.len];exact hi) hk⟩
theorem yS.ext{cap:Nat}(h:yS w base a N cap vs M)(hx:Ext w w'):yS w' base a N cap vs M:=⟨h.own.ext hx,h.rows.ext hx⟩
theorem yS.outer{cap:Nat}(h:yS w base a N cap vs M)(hN:0<N):∃G,a=some ⟨G,0,none⟩/\base<=G/\G<w.heap.size/\∀j,w.frozen? ⟨G,j,none⟩=false:=by
 rcases h.own.2 with⟨he,h0⟩|⟨g,cap',cur,he,hb,hg,_⟩
 ·simp only[Value.slice.injEq]at he;omega
 ·simp only[Value.slice.injEq]at he;obtain⟨rfl,_⟩:=he;exact⟨g,rfl,hb,lt_of_block hg,fun j=>frozen_of_row w g j cur _ hg⟩
theorem yS.row{G cap:Nat}(h:yS w base (some ⟨G,0,none⟩) N cap vs M){i:Nat}(hi:i<N)(hn:(M[i]?.getD []).length=n)(h1:1<=n):
 ∃g c,vs[i]?.getD undef=.slice (some ⟨g,0,none⟩) n c/\w.cell? ⟨G,i,none⟩=some (.slice (some ⟨g,0,none⟩) n c)/\l9 w base (.slice (some ⟨g,0,none⟩) n c) (M[i]?.getD [])/\g≠G/\base<=g/\g<w.heap.size/\n<=c/\c<=9223372036854775807:=by
 have hr:=h.rows.row i (by rw[h.len];exact hi);obtain⟨a',c,he,xB,I⟩:=hr.form;rw[he]at hr;rw[hn]at he hr xB;obtain⟨g,rfl,hb,_,J⟩:=hr.block (k:=0) e7;obtain⟨G',E,_,hc⟩:=h.own.cell hi;simp only[Option.some.injEq,Addr.mk.injEq,and_true]at E;subst E;refine⟨g,c,he,?_,hr,fun e=>hr.apart h.own g rfl (by subst e;rfl),hb,J,xB,I⟩;rw[hc i hi,<-he];have:i<vs.length:=by rw[h.yy];exact hi
 simp[this]
theorem yS.put{w0:World}{G cap:Nat}(h:yS w0 base (some ⟨G,0,none⟩) N cap vs M)(hx:Ext w0 w)(hb:base<=w0.heap.size)(E:l9 w w0.heap.size v l){i:Nat}(hi:i<N):
 yS (w.setCell ⟨G,i,none⟩ v) base (some ⟨G,0,none⟩) N cap (vs.set i v) (M.set i l):=by
 have Ar:i<M.length:=by rw[h.len];exact hi
 have Ot:i<vs.length:=by rw[h.yy];exact hi
 have hW:=h.ext hx;obtain⟨G',K,CB,Hl,_⟩:=h.outer e7;simp only[Option.some.injEq,Addr.mk.injEq,and_true]at K;subst K;have AQ:∀k,k≠G->(w.setCell ⟨G,i,none⟩ v).heap[k]?=w.heap[k]?:=fun k hk=>heap_setCell_other _ _ _ _ hk
 refine⟨?_,⟨by rw[List.length_set,List.length_set];exact h.rows.len,fun k hk=>?_,fun a b k Ku wU hk k7=>?_⟩⟩
 ·have E:=hW.own;unfold xM at E;rw[hW.yy]at E;have:=(World.ownsRow.stored E i v).1;unfold xM;rw[List.length_set,hW.yy];exact this
 ·rw[List.length_set]at hk;by_cases J:k=i
  ·subst J;rw[List.getElem?_set_self Ot,List.getElem?_set_self Ar];exact(E.keep fun b Hi=>AQ b (j1 ((E.lt b Hi).1))).mono hb
  ·rw[List.getElem?_set_ne (Ne.symm J),List.getElem?_set_ne (Ne.symm J)];refine(hW.rows.row k hk).keep fun b Hi=>AQ b fun e=>?_
   subst e;exact(hW.rows.row k hk).apart hW.own _ Hi rfl
 ·rw[List.length_set]at wU;by_cases I:a=i
  ·subst I;rw[List.getElem?_set_self Ot]at hk;rw[List.getElem?_set_ne e7]at k7;have h1:=(E.lt k hk).1;have h2:=((h.rows.row b wU).lt k k7).2;omega
  ·rw[List.getElem?_set_ne (Ne.symm I)]at hk;by_cases O:b=i
   ·subst O;rw[List.getElem?_set_self Ot]at k7;have h1:=(E.lt k k7).1;have h2:=((h.rows.row a e7).lt k hk).2;omega
   ·rw[List.getElem?_set_ne (Ne.symm O)]at k7;exact h.rows.apart a b k Ku wU hk k7
structure Bf(w:World)(a:j6)(na ca:Nat)(b:j6)(nb cb:Nat)(c:j6)(nc cc:Nat)(A:j5)(B:j7)(C:j4):Prop where
 a:dV w a na ca A
 b:Ints w b nb cb B
 c:Rats w c nc cc C
theorem Bf.ext{E ca:Nat}{nb cb:Nat}{c:j6}{nc cc:Nat}{B:j7}{C:j4}(h:Bf w a E ca b nb cb c nc cc A B C)(hx:Ext w w'):Bf w' a E ca b nb cb c nc cc A B C :=
 ⟨h.a.ext hx,h.b.ext hx,h.c.ext hx⟩
abbrev Al(a:j6)(na ca:Nat)(b:j6)(nb cb:Nat)(c:j6)(nc cc:Nat):Value:=.agg #[.slice a na ca,.slice b nb cb,.slice c nc cc]
abbrev aV(a:j6)(na ca:Nat)(b:j6)(nb cb:Nat)(c:j6)(nc cc:Nat):Obj:=.cells #[.slice a na ca,.slice b nb cb,.slice c nc cc] 68
theorem mZ{A:j4}{s:j8}(h:xU A B k=some s):xU A B (k+1)=if(mulR (A[k]?.getD (0,0)) (B[k]?.getD (0,0))).2=true/\(we s (mulR (A[k]?.getD (0,0)) (B[k]?.getD (0,0))).1).2=true
 then some (we s (mulR (A[k]?.getD (0,0)) (B[k]?.getD (0,0))).1).1 else none:=by simp only[xU,h,Option.bind_some]
theorem ik{A:j4}(h:xU A B k=none):∀{n:Nat},k<=n->xU A B n=none
 | n,hn=>by
   obtain⟨d,rfl⟩:∃d,n=k+d:=⟨n-k,by omega⟩;clear hn
   induction d with
   | zero=>exact h
   | succ d ih=>show(xU A B (k+d)).bind _=none;rw[ih];rfl
def vS(o:Option (Int×Int)):(Int×Int)×Bool:=(o.getD (0,0),o.isSome)
theorem fc{cap Z I:Nat}{A:j4}(h:Rats w a n cap A)(h':Rats w b Z I B):
 Calls Tryz.prog 197 #[.slice a n cap,.slice b Z I] w fun e w'=>e=.returned (Bq (vS (vg A B)))/\Ext w w':=by
 have HL:=ae h.hlen;have Ll:=ae h'.hlen;have l8:=h.l8;have o0:=h.o0;have Kp:=h'.l8;have Ka:=h'.o0;have uS:=Ext.alloc w (.cells #[.int .i64 0,.int .i64 0] 62);have Z4:=ae (h.ext uS);have Z3:=ae (h'.ext uS);have uV:=ae uS;have wi:=ae (show(w.alloc (.cells #[.int .i64 0,.int .i64 0] 62)).heap[w.heap.size]?=some (.cells #[.int .i64 0,.int .i64 0] 62 (0,0))from aj _ _ _ rfl);clear h h' uS;by_cases hne:n=Z
 ·subst hne;have HD:=ae (show vg A B=xU A B n by unfold vg;rw[HL.o,Ll.o,if_pos rfl]);have LH:((n:Int) != (n:Int))=false:=by simp
  go_enter Tryz.func197,Tryz.ntmps197
  go_wp2_with fail;refine(cv 0 _).mono ?_;rintro e w1 ⟨rfl,vO⟩;have vh:=ae vO;have BM:=ae (ag.new (Ext.refl w1) 0 1);have zD:=ae (fun(w':World) (hx:Ext w1 w')=>(hx.block _ (by have:=lt_of_block wi.o;have:=vh.o.size;omega)).trans ((vh.o.block _ (lt_of_block wi.o)).trans wi.o));have Ey:=ae (uV.o.trans vh.o);have PO:w.heap.size<w1.heap.size:=by have:=lt_of_block wi.o;have:=vh.o.size;omega
  clear vO;go_wp2_with fail
  go_loopg [21] n (fun gk ii wr=>∃(k:Nat) (p q:Int),b7 (gk+k=n)/\ii=.int .i64 (k:Int)/\b7 (ag w1 wr w1.heap.size p q)/\b7 (xU A B k=some (p,q)))
  case atStart=>exact⟨0,0,1,ae e7,rfl,BM,ae rfl⟩
  case round =>
   obtain⟨g1,o6⟩:=b9 gk;subst o6;obtain⟨E,o4⟩:=b9 wr;subst o4;obtain⟨k,p,q,HK,rfl,HB,HT⟩:=hrel;have At:=HB.o.c0;have xL:=HB.o.c1;have LL:=HB.o.lt;have WQ:=HB.o.ext.size;by_cases hlt:k<n
   ·obtain⟨ab,U,ax,ay,ha,GD,zH,zG⟩:=(Z4.o.ext (vh.o.trans HB.o.ext)).at hlt;obtain⟨bb,W,bx,G,hb,yi,CA,Cz⟩:=(Z3.o.ext (vh.o.trans HB.o.ext)).at hlt;subst ha hb;obtain⟨mx,my,one,hm⟩:∃x y ok,mulR (ax,ay) (bx,G)=((x,y),ok):=⟨_,_,_,rfl⟩;have HM:=ae hm;obtain⟨p2,O,two,EW⟩:∃u v ok,we (p,q) (mx,my)=((u,v),ok):=⟨_,_,_,rfl⟩;have yX:=ae EW;have xh:=ae (show xU A B (k+1)=if one=true/\two=true then some (p2,O) else none by rw[mZ HT.o,GD,yi,hm];simp only;rw[EW]);clear GD yi hm EW;go_upto_region 7 with fail
    go_cut [8,9] (fun sx so wx=>∃g:Nat,sx=.pointer (some ⟨g,0,none⟩)/\so=.bool one/\b7 (ag E wx g mx my))
    case first =>
     have k7:Ext E E.drew:=Ext.drew E;have vt:Ext E (E.alloc (.cells #[.int .i64 0,.int .i64 0] 62)).drew:=(Ext.alloc _ _).trans (Ext.drew _);have k8:=ae (fun(w':World) (h:Ext E w')=>(⟨h.j9 zH,h.j9 zG,h.j9 CA,h.j9 Cz,h⟩:w'.cell? ⟨ab,U+k*2,none⟩=some (.int .i64 ax)/\w'.cell? ⟨ab,U+k*2+1,none⟩=some (.int .i64 ay)/\w'.cell? ⟨bb,W+k*2,none⟩=some (.int .i64 bx)/\w'.cell? ⟨bb,W+k*2+1,none⟩=some (.int .i64 G)/\Ext E w'))
     go_region_held3 (fun w'=>w'.cell? ⟨ab,U+k*2,none⟩=some (.int .i64 ax)/\w'.cell? ⟨ab,U+k*2+1,none⟩=some (.int .i64 ay)/\w'.cell? ⟨bb,W+k*2,none⟩=some (.int .i64 bx)/\w'.cell? ⟨bb,W+k*2+1,none⟩=some (.int .i64 G)/\Ext E w')
      (first
        | with_reducible exact k8.o _ k7
        | with_reducible exact k8.o _ vt
        | with_reducible exact k8.o _ ((k7.setCell (by first|(simp;done)|(simp;omega)) _).setCell (by first|(simp;done)|(simp;omega)) _)
        | with_reducible exact k8.o _ (k7.trans (Ext.alloc _ _))
        | with_reducible exact k8.o _ (p4.put _ _).ext)
      (first
        | (go_at_call 237
           (with_reducible refine(oY ax ay bx G _).mono ?_)
           rw[HM.o];rintro e w3 ⟨rfl,K⟩
           first|(with_reducible have p4:=ag.grow p4 K)|(with_reducible have p4:=ag.vm K)|(with_reducible have p4:=ag.vq k7 K)|skip
           first|(have Ag:=p4.c0;have Af:=p4.c1;have Bb:=p4.free)|skip
           have k7:Ext E w3:=by first|with_reducible exact k7.trans K|with_reducible exact vt.trans K|with_reducible exact(k7.trans (Ext.alloc _ _)).trans K
           have xu:=k7.size)
        | fail)
     all_goals(go_wp2_with fail;go_meet;first|exact⟨_,rfl,rfl,ae (p4.put _ _)⟩|exact⟨_,rfl,rfl,ae (ag.new k7 _ _)⟩|exact⟨_,rfl,rfl,ae (ag.new' k7 _ _ e8)⟩)
    obtain⟨g,rfl,rfl,wy⟩:=hcut;have g0:=wy.o.c0;have g1':=wy.o.c1;have Ns:=HB.o.grow wy.o.ext;have Kt:=Ns.c0;have Ks:=Ns.c1;have yF:=ae Ns;clear At xL zH zG CA Cz Ns;go_wp2_with fail;refine(iM p q mx my _).mono ?_;rw[yX.o];rintro e w4 ⟨rfl,vW⟩;have J:=ae (yF.o.grow vW);have DU:=ae (J.o.grow (Ext.alloc _ (.cells #[.int .i64 p2,.int .i64 O] 62)));have hr:=ah (zD.o _ DU.o.ext);obtain⟨xA,xm,CT⟩:=hr;have AH:=ae DU.o.ext;have Qm:=DU.o.free;have TN:=J.o.lt;have Gy:=J.o.ext.size;have h40:=J.o.c0;have h41:=J.o.c1;have h4f:=J.o.free;clear vW g0 g1' Kt Ks;cases one
    ·have HN:=ae (show vg A B=none by rw[HD.o];exact ik (k:=k+1) (by rw[xh.o];simp) hlt);go_wp2_with fail;refine bodyPost_ret (v:=.tuple #[.agg #[.int .i64 0,.int .i64 0],.bool false]) (by simp[results,Tryz.results197,go_sem,xA,xm]) rfl ⟨by rw[HN.o];rfl,(((Ey.o.trans AH.o).store 0 (Nat.le_refl _) _).store 1 (Nat.le_refl _) _)⟩
    ·cases two
     ·have HN:=ae (show vg A B=none by rw[HD.o];exact ik (k:=k+1) (by rw[xh.o];simp) hlt);go_wp2_with fail;refine bodyPost_ret (v:=.tuple #[.agg #[.int .i64 0,.int .i64 0],.bool false]) (by simp[results,Tryz.results197,go_sem,xA,xm]) rfl ⟨by rw[HN.o];rfl,(((Ey.o.trans AH.o).store 0 (Nat.le_refl _) _).store 1 (Nat.le_refl _) _)⟩
     ·have zO:=ae (show xU A B (k+1)=some (p2,O)by rw[xh.o];simp);have DT:=ae ((J.o.put p2 O).grow (Ext.alloc _ (.cells #[.int .i64 p2,.int .i64 O] 62)));go_wp2_with fail
      go_roundg (g1-1)
      case measure=>have:=HK.o;omega
      case rel=>exact⟨k+1,p2,O,ae (j1 HK.o),by go_num,DT,zO⟩
   ·have vZ:n=k:=by have:=HK.o;omega
    subst vZ;have HY:=ae (show vg A B=some (p,q)by rw[HD.o];exact HT.o);have hr:=ah (zD.o E HB.o.ext);obtain⟨xA,xm,CT⟩:=hr;go_wp2_with fail;refine bodyPost_ret (v:=.tuple #[.agg #[.int .i64 p,.int .i64 q],.bool true]) (by simp[results,Tryz.results197,go_sem,xA,xm]) rfl ⟨by rw[HY.o];rfl,(((Ey.o.trans HB.o.ext).store 0 (Nat.le_refl _) _).store 1 (Nat.le_refl _) _)⟩
 ·have HN:=ae (show vg A B=none by unfold vg;rw[HL.o,Ll.o,if_neg hne]);have LH:((n:Int) != (Z:Int))=true:=by simp;omega
  have hr:=ah wi.o;obtain⟨xA,xm,CT⟩:=hr;go_enter Tryz.func197,Tryz.ntmps197
  go_wp2_with fail;refine bodyPost_ret (v:=.tuple #[.agg #[.int .i64 0,.int .i64 0],.bool false]) (by simp[results,Tryz.results197,go_sem,xA,xm]) rfl ⟨by rw[HN.o];rfl,uV.o⟩
theorem mS{j:Nat}(h:k<A.length):vJ (A.take k) j++[(A[k]?.getD [])[j]?.getD 0]=vJ (A.take (k+1)) j:=by
 rw[eT h];simp[vJ]
theorem pd{E ca:Nat}{nb cb:Nat}{c:j6}{nc cc:Nat}(h:dV w a E ca A){m j:Nat}(hl:∀i,i<E->(A[i]?.getD []).length=m)(hj:j<m)(hm:m<=1000000)(hbig:E<=1048576):
 Calls Tryz.prog 198 #[Al a E ca b nb cb c nc cc,.int .i64 (j:Int)] w fun e w'=>(∃v,e=.returned v/\o5 w' w.heap.size v (vJ A j))/\Ext w w':=by
 have l8:=h.l8;have o0:=h.o0;have HL:=ae h.hlen;have uS:=Ext.alloc w (aV a E ca b nb cb c nc cc);have uV:=ae uS;have HI:=ae (h.ext uS);have xg:=ae hl;have HO:=ae (o5.wJ (w.alloc (aV a E ca b nb cb c nc cc)) (w.heap.size+1) _ rfl e8);clear h uS hl;go_enter Tryz.func198,Tryz.ntmps198
 go_wp2_with fail
 go_loopg [5,12] E (fun gk o ii wr=>∃(k:Nat) (a1:j6) (G p1:Nat),b7 (gk+k=E)/\ii=.int .i64 (k:Int)/\o=.slice a1 G p1/\b7 (o5 wr (w.heap.size+1) (.slice a1 G p1) (vJ (A.take k) j))/\b7 (Ext (w.alloc (aV a E ca b nb cb c nc cc)) wr))
 case atStart=>exact⟨0,_,_,_,ae e7,rfl,rfl,ae (by simpa[vJ]using HO.o),ae (Ext.alloc _ _)⟩
 case round =>
  obtain⟨g1,U⟩:=b9 gk;subst U;obtain⟨o8,W⟩:=b9 wr;subst W;obtain⟨k,a1,G,p1,I,rfl,rfl,vw,vh⟩:=hrel;have hsz:=vh.o.size;rw[World.size_alloc]at hsz;by_cases hlt:k<E
  ·obtain⟨gb,D4,ra,rn,rc,rfl,Nc,o7⟩:=(HI.o.ext vh.o).at hlt;have J:rn=m:=by rw[<-o7.hlen];exact xg.o k hlt
   subst J;obtain⟨eb,vd,rfl,OI⟩:=o7.at hj;obtain⟨x,hx⟩:=b9 ((A[k]?.getD [])[j]?.getD 0);rw[<-hx]at OI;have HS:=ae (show vJ (A.take k) j++[x]=vJ (A.take (k+1)) j by rw[hx];exact mS (by rw[HL.o];exact hlt));have DQ:=ae (show(vJ (A.take k) j).length=k by simp[vJ];have:=HL.o;omega);have J1:=o7.l8;have S4:=o7.o0;clear o7 hx
   go_wp2_with (first
    | (at_builtin;refine bv rfl _ _ rfl (w.heap.size+1) (.slice a1 G p1) _ rfl (vw.o.ext (Ext.alloc _ _)) _ 1 _ [x] rfl (Ints.zp _ _ _ _ e8) (by rw[DQ.o];omega) (by simp;omega) ?_;intro v2 w3 ho hg l7;have X5:=ae (ak (vh.o.trans (Ext.alloc _ _)) hg (fun i hi=>by have:=(vw.o.lt i hi).1;simpa using this));obtain⟨a2,Z,c2,rfl,ED⟩:=ho.var;have K:=ae ho;clear ho hg l7))
   go_roundg (g1-1)
   case measure=>have:=I.o;omega
   case rel=>exact⟨k+1,a2,Z,c2,ae (j1 I.o),by go_num,rfl,ae (by rw[<-HS.o];exact K.o),X5⟩
  ·have O:E=k:=by have:=I.o;omega
   subst O;have HT:=ae (show A.take E=A from List.take_of_length_le (by rw[HL.o];exact Nat.le_refl _));rw[HT.o]at vw;go_wp2_with fail;go_ret;exact⟨⟨_,rfl,vw.o.mono (Nat.le_succ _)⟩,uV.o.trans vh.o⟩
end Go.Proofs.YtdadoignenffgaaGreatDoor
