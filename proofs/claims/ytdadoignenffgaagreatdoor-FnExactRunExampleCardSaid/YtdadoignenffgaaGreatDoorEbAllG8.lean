import Derived.Test.YtdadoignenffgaaGreatDoorEbAllG2
import Derived.Test.YtdadoignenffgaaGreatDoorEbAllG5
import Derived.Test.YtdadoignenffgaaGreatDoorEbAllG1
set_option linter.unusedVariables false
set_option linter.unusedSimpArgs false
namespace Go.Proofs.YtdadoignenffgaaGreatDoor
variable{w w':World}{a:j6}{n k base base' N i bytes:Nat}{l:j4}{fid:FuncId}{L M:List (j4)}{v:Value}{vs:List Value}{α:Type}
set_option maxHeartbeats 16000000
open Go.RowKit
theorem eo(x y:Int)(w:World)(h0:-9223372036854775807<=x)(h1:x<=9223372036854775807):
 Calls Tryz.prog 74 #[Aj x y] w fun e w'=>e=.returned (Aj (-x) y)/\Ext w w':=by
 go_enter Tryz.func74,Tryz.ntmps74
 go_wp2_with fail;refine bR (v:=Aj (-x) y) (by simp[results,Tryz.results74,go_sem]) rfl ⟨rfl,?_⟩;exact(Ext.alloc _ _).trans (Ext.alloc _ _)
theorem fm(x y:Int)(w:World)(h0:-9223372036854775807<=x)(h1:x<=9223372036854775807):
 Calls Tryz.prog 51 #[Aj x y] w fun e w'=>e=.returned (Aj (-x) y)/\Ext w w':=by
 go_enter Tryz.func51,Tryz.ntmps51
 go_wp2_with fail;refine bR (v:=Aj (-x) y) (by simp[results,Tryz.results51,go_sem]) rfl ⟨rfl,?_⟩;exact(Ext.alloc _ _).trans (Ext.alloc _ _)
set_option maxRecDepth 100000
def TM(P:Program)(w:World)(fid:FuncId)(ca:Array Value)(p:j8->Bool):Prop :=
 ∀x y (w1:World),Ext w w1->Calls P fid (#[Aj x y]++ca) w1 fun e w2=>e=.returned (.bool (p (x,y)))/\Ext w1 w2
theorem pO{cap:Nat}{ca:Array Value}{p:j8->Bool}(h:Rats w a n cap l)(hg:IsGo Tryz.prog fid)(hf:TM Tryz.prog w fid ca p):
 Calls Tryz.prog 249 #[.slice a n cap,.func (.func fid) #[] ca] w fun e w'=>e=.returned (.int .i64 (cl p l))/\Ext w w':=by
 have hn:=h.l8;have hm:=h.l9;have HL:=ae h.hlen;have HI:=ae h;have J:=ae hf;clear h hf;have OI:∀(args:Array Value) (w:World),(callFunc fid args).run Tryz.prog w=.ok (.enter fid args) w:=hg;go_enter Tryz.func249,Tryz.ntmps249
 go_wp2_with fail
 go_loopg [8] n (fun gk ii wr=>∃k:Nat,b7 (gk+k=n)/\ii=.int .i64 (k:Int)/\b7 ((l.take k).all (fun x=>!p x)=true)/\b7 (Ext w wr))
 case atStart=>exact⟨0,ae e7,rfl,ae rfl,ae (Ext.refl _)⟩
 case round =>
  obtain⟨g1,K⟩:=b9 gk;subst K;obtain⟨O,U⟩:=b9 wr;subst U;obtain⟨k,I,rfl,HA,HX⟩:=hrel;by_cases hlt:k<n
  ·obtain⟨b,off,x,y,rfl,G,AB,Ba⟩:=(HI.o.ext HX.o).at hlt;have HF:=ae (J.o x y O HX.o);cases hb:p (x,y)
   all_goals
    rw[hb]at HF
   ·have HT:=ae (show(l.take (k+1)).all (fun x=>!p x)=true by
     rw[Kn (by rw[HL.o];exact hlt),RN,HA.o];have:l[k]'(by rw[HL.o];exact hlt)=(x,y):=by rw[bk (by rw[HL.o];exact hlt)]at G;simpa using G
     rw[this];simp[hb])
    clear G hb;go_wp2_with fail;refine HF.o.mono ?_;rintro e w2 ⟨rfl,zJ⟩;go_wp2_with fail
    go_roundg (g1-1)
    case measure=>have:=I.o;omega
    case rel=>exact⟨k+1,ae (j1 I.o),by go_num,HT,ae (HX.o.trans zJ)⟩
   ·have HB:=ae (show cl p l=k from eQ (d:=(0,0)) (by rw[HL.o];exact hlt) HA.o (by rw[G];exact hb));clear G hb;go_wp2_with fail;refine HF.o.mono ?_;rintro e w2 ⟨rfl,zJ⟩;go_wp2_with fail;go_ret;exact⟨ap HB.o.symm,HX.o.trans zJ⟩
  ·have HT:=ae (show cl p l=-1 by
    have h2:=HA.o;rw[p4 (by rw[HL.o];have:=I.o;omega)]at h2
    exact dP h2)
   go_wp2_with fail;go_ret;exact⟨ap HT.o.symm,HX.o⟩
theorem ir{cap:Nat}{ca:Array Value}{p:j8->Bool}(h:Rats w a n cap l)(hg:IsGo Tryz.prog fid)(hf:TM Tryz.prog w fid ca p):
 Calls Tryz.prog 229 #[.slice a n cap,.func (.func fid) #[] ca] w fun e w'=>e=.returned (.bool (l.any p))/\Ext w w':=by
 have HC:=ae (pO h hg hf);clear h hf;go_enter Tryz.func229,Tryz.ntmps229
 go_wp2_with fail;refine HC.o.mono ?_;rintro e w2 ⟨rfl,zJ⟩
 go_wp2
 all_goals go_ret;refine⟨ag ?_,zJ⟩;rw[<-gG]
theorem uA(x y:Int)(w:World):Calls Tryz.prog 230 #[Aj x y] w fun e w'=>e=.returned (.bool (!o9 (x,y)))/\Ext w w':=by
 have HX:=ae (Ext.alloc w (.cells #[.int .i64 x,.int .i64 y] 62));go_enter Tryz.func230,Tryz.ntmps230
 go_wp2_with fail;refine(av x y _).mono ?_;rintro e w1 ⟨rfl,hx⟩;have X1:=ae (HX.o.trans hx);clear hx;go_wp2_with fail;go_ret;exact⟨rfl,X1.o⟩
theorem se:IsGo Tryz.prog 230:=isGo Tryz.func230 e9 e9
theorem oB{cap:Nat}(h:Rats w a n cap l):
 Calls Tryz.prog 188 #[.slice a n cap] w fun e w'=>e=.returned (.bool (Bb l))/\Ext w w':=by
 have HC:=ae (ir h se (ca:=#[]) (p:=fun r=>!o9 r) (fun x y w1 _=>uA x y w1));have HE:=ae (show(!l.any (fun r=>!o9 r))=Bb l by unfold Bb;rw[aaw];simp);clear h;go_enter Tryz.func188,Tryz.ntmps188
 go_wp2_with fail;refine HC.o.mono ?_;rintro e w1 ⟨rfl,hx⟩;have X1:=ae hx;clear hx;go_wp2_with fail;go_ret;exact⟨ag HE.o,X1.o⟩
theorem pL(x y:Int)(w:World):Calls Tryz.prog 238 #[Aj x y] w fun e w'=>e=.returned (.bool (!(o9 (x,y)&&decide (0<=x))))/\Ext w w':=by
 have HX:=ae (Ext.alloc w (.cells #[.int .i64 x,.int .i64 y] 62));have HV:=ae (fun w=>av x y w);cases hv:o9 (x,y)
 ·rw[hv]at HV;clear hv;go_enter ado,aeb
  go_wp2_with fail;refine(HV.o _).mono ?_;rintro e w1 ⟨rfl,hx⟩;have X1:=ae (HX.o.trans hx);clear hx;go_wp2_with fail;go_ret;exact⟨rfl,X1.o⟩
 ·rw[hv]at HV;clear hv;cases y9:decide (0<=x)
  ·have hlt:decide (x<0)=true:=by simp at y9⊢;omega
   clear y9;go_enter ado,aeb
   go_wp2_with fail;refine(HV.o _).mono ?_;rintro e w1 ⟨rfl,hx⟩;have hc:w1.cell? ⟨w.heap.size,0,none⟩=some (.int .i64 x):=hx.j9 e8;have X1:=ae (HX.o.trans hx);clear hx;go_wp2_with fail;go_ret;exact⟨rfl,X1.o⟩
  ·have hlt:decide (x<0)=false:=by simp at y9⊢;omega
   clear y9;go_enter ado,aeb
   go_wp2_with fail;refine(HV.o _).mono ?_;rintro e w1 ⟨rfl,hx⟩;have hc:w1.cell? ⟨w.heap.size,0,none⟩=some (.int .i64 x):=hx.j9 e8;have X1:=ae (HX.o.trans hx);clear hx;go_wp2_with fail;go_ret;exact⟨rfl,X1.o⟩
theorem oA:IsGo Tryz.prog 238:=isGo ado e9 e9
theorem kF{cap:Nat}(h:Rats w a n cap l)(m:Nat):
 Calls Tryz.prog 199 #[.slice a n cap,.int .i64 (m:Int)] w fun e w'=>e=.returned (.bool (decide (l.length=m)&&DN l))/\Ext w w':=by
 have l8:=h.l8;have l9:=h.l9;have HL:=ae h.hlen;have HC:=ae (ir h oA (ca:=#[]) (p:=fun r=>!(o9 r&&decide (0<=r.1))) (fun x y w1 _=>pL x y w1));have HE:=ae (show(!l.any (fun r=>!(o9 r&&decide (0<=r.1))))=DN l by unfold DN;rw[aaw];simp);clear h;cases hn:((n:Int) == (m:Int))
 ·have HN:=ae (show decide (l.length=m)=false by rw[HL.o];simp at hn⊢;omega);go_enter Tryz.func199,Tryz.ntmps199
  go_wp2_with fail;go_ret;exact⟨ag (by rw[HN.o];rfl),Ext.refl _⟩
 ·have HN:=ae (show decide (l.length=m)=true by rw[HL.o];simp at hn⊢;omega);go_enter Tryz.func199,Tryz.ntmps199
  go_wp2_with fail;refine HC.o.mono ?_;rintro e w1 ⟨rfl,hx⟩;have X1:=ae hx;clear hx;go_wp2_with fail;go_ret;exact⟨ag (by rw[HN.o,<-HE.o];simp),X1.o⟩
structure gY(w:World)(a:j6)(n cap:Nat)(L:List (j4)):Prop where
 hlen:L.length=n
 l8:n<=cap
 l9:cap<=9223372036854775807
 cell:∀k,k<n->∃b off,a=some ⟨b,off,none⟩/\∀k,k<n->∃a' n' c',w.cell? ⟨b,off+k,none⟩=some (.slice a' n' c')/\Rats w a' n' c' (L[k]?.getD [])
theorem gY.ext{cap:Nat}(h:gY w a n cap L)(hx:Ext w w'):gY w' a n cap L :=
 ⟨h.hlen,h.l8,h.l9,fun k hk=>let⟨b,off,e,hc⟩:=h.cell k hk;⟨b,off,e,fun k hk=>let⟨J,G,I,h1,h2⟩:=hc k hk;⟨J,G,I,hx.j9 h1,h2.ext hx⟩⟩⟩
theorem gY.at{cap:Nat}(h:gY w a n cap L)(hk:k<n):
 ∃b off a' n' c',a=some ⟨b,off,none⟩/\w.cell? ⟨b,off+k,none⟩=some (.slice a' n' c')/\Rats w a' n' c' (L[k]?.getD []) :=
 let⟨b,off,e,hc⟩:=h.cell k hk;let⟨a',n',c',h1,h2⟩:=hc k hk;⟨b,off,a',n',c',e,h1,h2⟩
def Bi(w:World)(base:Nat)(v:Value)(vs:List Value):Prop:=w.ownsRow base 35 1 v vs.length vs
theorem Bi.form(h:Bi w base v vs):∃a cap,v=.slice a vs.length cap/\vs.length<=cap/\cap<=9223372036854775807:=by
 rcases h.2 with⟨rfl,h0⟩|⟨g,cap,cur,rfl,_,_,h1,h2,_⟩
 ·exact⟨none,0,by rw[h0],by omega,by omega⟩
 ·exact⟨_,cap,rfl,h1,by simpa[maxLen]using h2⟩
theorem Bi.var(h:Bi w base v vs):∃a n cap,v=.slice a n cap/\b7 (vs.length=n):=by
 obtain⟨a,cap,e,_⟩:=h.form;exact⟨a,_,cap,e,rfl⟩
theorem Bi.cell{cap:Nat}(h:Bi w base (.slice a n cap) vs)(hk:k<n):∃g,a=some ⟨g,0,none⟩/\base<=g/\∀k,k<n->w.cell? ⟨g,k,none⟩=vs[k]?:=by
 rcases h.2 with⟨he,h0⟩|⟨g,cap',cur,he,hb,hg,h1,h2,hs,ht⟩
 ·simp only[C']at he;omega
 ·simp only[C']at he;obtain⟨rfl,rfl,rfl⟩:=he;refine⟨g,rfl,hb,fun k hk=>?_⟩;rw[tn w g k cur _ (0,0) hg];have:(cur.toList.take (vs.length*1))[k]?=vs[k]?:=by rw[ht]
  rw[aao,hI e7]at this
  simpa using this
theorem Bi.len{cap:Nat}(h:Bi w base (.slice a n cap) vs):vs.length=n:=by
 obtain⟨a',cap',he,_⟩:=h.form;simp only[C']at he;exact he.2.1.symm
theorem Bi.lt(h:Bi w base v vs):∀k,v.ownBlock=some k->base<=k/\k<w.heap.size:=abQ h
theorem Bi.keep(h:Bi w base v vs)(hk:∀k,v.ownBlock=some k->w'.heap[k]?=w.heap[k]?):Bi w' base v vs:=by
 refine⟨h.1,?_⟩
 rcases h.2 with hn|⟨g,cap,cur,rfl,hb,G,rest⟩
 ·exact .inl hn
 ·exact .inr ⟨g,cap,cur,rfl,hb,(hk g rfl).trans G,rest⟩
theorem Bi.ext(h:Bi w base v vs)(hx:Ext w w'):Bi w' base v vs:=h.keep fun k hk=>hx.block k (h.lt k hk).2
theorem o0.apart{G:Value}(h:o0 w base v l)(h':Bi w base' G vs):∀k,v.ownBlock=some k->G.ownBlock≠some k:=by
 intro k hk EL
 rcases h.2 with⟨rfl,_⟩|⟨g,cap,cur,rfl,_,hg,_⟩
 ·simp[Value.ownBlock]at hk
 ·rcases h'.2 with⟨rfl,_⟩|⟨g',cap',cur',rfl,_,I,_⟩
  ·simp[Value.ownBlock]at EL
  ·simp only[Value.ownBlock,bA]at hk EL;subst hk EL;rw[hg]at I;simp at I
theorem Tryz.NL:(Tryz.prog.info? 35).map (fun i=>(i.zero,i.size,i.bytes))=some (some (.slice none 0 0),1,24):=by kernel_rfl
section
variable{P:Program}{w:World}{ops:Array Oper}{rest:List Oper}{o:Oper}{a:Act}{Q:Exit->Act->World->Prop}
theorem eZ{K:Act->World->Prop}(s x:Operand)(ho:o.op=.call { callee:=.builtin .append,args:=#[s,x],argTypes:=#[114,114] })
 (base:Nat) (v:Value) (vs:List Value) (hs:a.eval s=v) (AI:Bi w base v vs) (U:Addr) (u:Value) (c:Nat) (hx:a.eval x=.slice (some U) 1 c)
 (G:w.cell? U=some u) (O:u.oneCell'=true) (hb:vs.length<=1099511627775) (I:base<=w.heap.size)
 (h:∀J w',Bi w' base J (vs++[u])->w.grownBy w' v.ownBlock->Cx w v J->K (a.put o.dst J) w'):o.wp Tryz.prog a w K Q:=by
 obtain⟨i,hi,AU,Fq,El⟩:=adf Tryz.NL;refine eP w s x 114 ho base 35 i (.slice none 0 0) 1 24 Tryz.underlying114 hi AU Fq El rfl (by decide) v vs.length vs hs AI U 1 c [u] hx rfl ?_ ?_ (by simp[maxLen];omega) e7 I ?_
 ·intro j Z hu
  match j with
  | 0=>simpa[Addr.add]using hu▸G
  | j+1=>simp at hu
 ·intro Z hu;simp only[aav]at hu;rw[hu];exact O
 ·intro J w' h1 h2 h3;refine h J w' ?_ h2 h3;unfold Bi;rw[pk];exact h1
end
structure dJ(w:World)(base:Nat)(vs:List Value)(L:List (j4)):Prop where
 len:vs.length=L.length
 row:∀i,i<L.length->o0 w base (vs[i]?.getD undef) (L[i]?.getD [])
 apart:∀i j k,i<j->j<L.length->(vs[i]?.getD undef).ownBlock=some k->(vs[j]?.getD undef).ownBlock≠some k
theorem dJ.keep(h:dJ w base vs L)(hk:∀i k,i<L.length->(vs[i]?.getD undef).ownBlock=some k->w'.heap[k]?=w.heap[k]?):dJ w' base vs L :=
 ⟨h.len,fun i hi=>(h.row i hi).keep fun k EL=>hk i k hi EL,h.apart⟩
theorem dJ.ext(h:dJ w base vs L)(hx:Ext w w'):dJ w' base vs L :=
 h.keep fun i k hi hk=>hx.block k ((h.row i hi).lt k hk).2
theorem dJ.nil(w:World)(base:Nat):dJ w base [] []:=⟨rfl,fun i hi=>absurd hi e8,fun i j k _ hj=>absurd hj e8⟩
theorem dJ.snoc(h:dJ w base vs L)(hx:Ext w w')(ho:o0 w' w.heap.size v l)(hb:base<=w.heap.size):dJ w' base (vs++[v]) (L++[l]):=by
 have h':=h.ext hx;refine⟨by simp[h.len],fun i hi=>?_,fun i j k LB hj hk=>?_⟩
 ·by_cases hl:i<L.length
  ·rw[Ep (by rw[h.len];exact hl),Ep hl];exact h'.row i hl
  ·have:i=L.length:=by simp at hi;omega
   subst this;rw[<-h.len];simp only[Y',l'];rw[h.len];simp only[Y',l'];exact ho.mono hb
 ·by_cases hl:j<L.length
  ·rw[Ep (by rw[h.len];omega)]at hk;rw[Ep (by rw[h.len];exact hl)];exact h.apart i j k LB hl hk
  ·have:j=L.length:=by simp at hj;omega
   subst this;rw[Ep (by rw[h.len];omega)]at hk;rw[<-h.len];simp only[Y',l'];intro G;have h1:=((h.row i e7).lt k hk).2;have h2:=(ho.lt k G).1;omega
def nZ(w:World)(base:Nat)(v:Value)(L:List (j4)):Prop:=∃vs,Bi w base v vs/\dJ w base vs L
theorem nZ.form(h:nZ w base v L):∃a cap,v=.slice a L.length cap/\L.length<=cap/\cap<=9223372036854775807:=by
 obtain⟨vs,h1,h2⟩:=h;have:=h1.form
 rwa [h2.len]at this
theorem nZ.Xu{cap:Nat}(h:nZ w base (.slice a n cap) L):gY w a n cap L:=by
 obtain⟨I,G,he,h1,h2⟩:=h.form;simp only[C']at he;obtain⟨rfl,rfl,rfl⟩:=he;obtain⟨vs,h3,h4⟩:=h;refine⟨rfl,h1,h2,fun k hk=>?_⟩;obtain⟨g,rfl,_,hc⟩:=h3.cell hk;refine⟨g,0,rfl,fun k hk=>?_⟩;have hv:k<vs.length:=by rw[h4.len];exact hk
 obtain⟨I,G,hf,_⟩:=(h4.row k hk).form;have ho:=h4.row k hk;rw[hf]at ho;refine⟨I,_,G,?_,ho.zj⟩;rw[Mf,hc k hk,<-hf];simp[hv]
structure Cq(w:World)(base:Nat)(a:j6)(N cap:Nat)(vs:List Value)(M:List (j4)):Prop where
 own:Bi w base (.slice a N cap) vs
 rows:dJ w base vs M
theorem Cq.BW{cap:Nat}(h:Cq w base a N cap vs M):vs.length=N:=h.own.len
theorem Cq.len{cap:Nat}(h:Cq w base a N cap vs M):M.length=N:=by rw[<-h.rows.len];exact h.own.len
theorem Cq.keep{cap:Nat}(h:Cq w base a N cap vs M)(h0:∀k,(Value.slice a N cap).ownBlock=some k->w'.heap[k]?=w.heap[k]?)
 (h1:∀i k,i<N->(vs[i]?.getD undef).ownBlock=some k->w'.heap[k]?=w.heap[k]?):Cq w' base a N cap vs M :=
 ⟨h.own.keep h0,h.rows.keep fun i k hi hk=>h1 i k (by rw[<-h.len];exact hi) hk⟩
theorem Cq.ext{cap:Nat}(h:Cq w base a N cap vs M)(hx:Ext w w'):Cq w' base a N cap vs M:=⟨h.own.ext hx,h.rows.ext hx⟩
theorem Cq.outer{cap:Nat}(h:Cq w base a N cap vs M)(hN:0<N):∃G,a=some ⟨G,0,none⟩/\base<=G/\G<w.heap.size/\∀j,w.frozen? ⟨G,j,none⟩=false:=by
 rcases h.own.2 with⟨he,h0⟩|⟨g,cap',cur,he,hb,hg,_⟩
 ·simp only[C']at he;omega
 ·simp only[C']at he;obtain⟨rfl,_⟩:=he;exact⟨g,rfl,hb,mr hg,fun j=>sd w g j cur _ hg⟩
theorem Cq.row{G cap:Nat}(h:Cq w base (some ⟨G,0,none⟩) N cap vs M)(hi:i<N)(hn:(M[i]?.getD []).length=n)(h1:1<=n):
 ∃g c,vs[i]?.getD undef=.slice (some ⟨g,0,none⟩) n c/\w.cell? ⟨G,i,none⟩=some (.slice (some ⟨g,0,none⟩) n c)/\o0 w base (.slice (some ⟨g,0,none⟩) n c) (M[i]?.getD [])/\g≠G/\base<=g/\g<w.heap.size/\n<=c/\c<=9223372036854775807:=by
 have hr:=h.rows.row i (by rw[h.len];exact hi);obtain⟨a',c,he,Ba,K⟩:=hr.form;rw[he]at hr;rw[hn]at he hr Ba;obtain⟨g,rfl,hb,_,J⟩:=hr.block (k:=0) e7;obtain⟨G',I,_,hc⟩:=h.own.cell hi;simp only[bA,mq,zz]at I;subst I;refine⟨g,c,he,?_,hr,fun e=>hr.apart h.own g rfl (by subst e;rfl),hb,J,Ba,K⟩;rw[hc i hi,<-he];have:i<vs.length:=by rw[h.BW];exact hi
 simp[this]
theorem Cq.put{w0:World}{G cap:Nat}(h:Cq w0 base (some ⟨G,0,none⟩) N cap vs M)(hx:Ext w0 w)(hb:base<=w0.heap.size)(ho:o0 w w0.heap.size v l)(hi:i<N):
 Cq (w.setCell ⟨G,i,none⟩ v) base (some ⟨G,0,none⟩) N cap (vs.set i v) (M.set i l):=by
 have DI:i<M.length:=by rw[h.len];exact hi
 have SR:i<vs.length:=by rw[h.BW];exact hi
 have hW:=h.ext hx;obtain⟨G',J,Gf,LH,_⟩:=h.outer e7;simp only[bA,mq,zz]at J;subst J;have D6:∀k,k≠G->(w.setCell ⟨G,i,none⟩ v).heap[k]?=w.heap[k]?:=fun k hk=>bB _ _ _ _ hk
 refine⟨?_,⟨by rw[H4,H4];exact h.rows.len,fun k hk=>?_,fun a b k OT AD hk k7=>?_⟩⟩
 ·have ho:=hW.own;unfold Bi at ho;rw[hW.BW]at ho;have:=(aaH ho i v).1;unfold Bi;rw[H4,hW.BW];exact this
 ·rw[H4]at hk;by_cases CX:k=i
  ·subst CX;rw[H3 SR,H3 DI];exact(ho.keep fun b K2=>D6 b (j1 ((ho.lt b K2).1))).mono hb
  ·rw[DZ (aax CX),DZ (aax CX)];refine(hW.rows.row k hk).keep fun b K2=>D6 b fun e=>?_
   subst e;exact(hW.rows.row k hk).apart hW.own _ K2 rfl
 ·rw[H4]at AD;by_cases I:a=i
  ·subst I;rw[H3 SR]at hk;rw[DZ e7]at k7;have h1:=(ho.lt k hk).1;have h2:=((h.rows.row b AD).lt k k7).2;omega
  ·rw[DZ (aax I)]at hk;by_cases K:b=i
   ·subst K;rw[H3 SR]at k7;have h1:=(ho.lt k k7).1;have h2:=((h.rows.row a e7).lt k hk).2;omega
   ·rw[DZ (aax K)]at k7;exact h.rows.apart a b k OT AD hk k7
structure Enc(α:Type) where
 enc:α->List Value
 c:Nat
 hc:∀x,(enc x).length=c
 pos:0<c
 one:∀x,∀u∈enc x,u.oneCell'=true
def Enc.all{α:Type}(E:Enc α)(l:List α):List Value:=l.flatMap E.enc
theorem Enc.all_append(E:Enc α)(l G:List α):E.all (l++G)=E.all l++E.all G:=by simp[Enc.all]
theorem Enc.all_cons(E:Enc α)(x:α)(l:List α):E.all (x::l)=E.enc x++E.all l:=by simp[Enc.all]
theorem Enc.DK(E:Enc α):∀l:List α,(E.all l).length=l.length*E.c
 | []=>by simp[Enc.all]
 | x::l=>by rw[E.all_cons,pk,E.hc,E.DK l,OX,ab4,Nat.add_comm]
theorem Enc.KB(E:Enc α):∀{l:List α} {k j:Nat} {x:α} {v:Value},l[k]?=some x->(E.enc x)[j]?=some v->(E.all l)[k*E.c+j]?=some v
 | [],k,j,x,v,h,_=>by simp at h
 | y::l,0,j,x,v,h,hj=>by
   simp only[Xm,bA]at h;subst h;have hl:=(RI.1 hj).1;rw[E.all_cons,Nat.zero_mul,Mf,Ep hl,hj]
 | y::l,k+1,j,x,v,h,hj=>by
   simp only[aae]at h;rw[E.all_cons,Vy (by rw[E.hc,ab4];omega),E.hc];rw[show(k+1)*E.c+j-E.c=k*E.c+j by rw[ab4];omega];exact E.KB h hj
theorem Enc.Sa(E:Enc α)(l:List α):∀u∈E.all l,u.oneCell'=true:=by
 intro u hu;obtain⟨x,_,hx⟩:=adi.1 hu;exact E.one x u hx
theorem Enc.split(E:Enc α){l:List α}{u:Value}(h:(E.all l)[i]?=some u):∃k j x,i=k*E.c+j/\l[k]?=some x/\(E.enc x)[j]?=some u:=by
 have hi:i<l.length*E.c:=by have:=(RI.1 h).1;rwa [E.DK]at this
 have hp:=E.pos;have hk:i/E.c<l.length:=(Nat.div_lt_iff_lt_mul hp).2 hi;have hm:i % E.c<E.c:=Nat.mod_lt _ hp;have he:i=i/E.c*E.c+i % E.c:=by rw[acw];exact(Nat.div_add_mod i E.c).symm
 refine⟨i/E.c,i % E.c,l[i/E.c],he,bk hk,?_⟩;have hj:i % E.c<(E.enc l[i/E.c]).length:=by rw[E.hc];exact hm
 have:=E.KB (bk hk) (bk hj);rw[<-he,h]at this;rw[bk hj,this]
structure BU{α:Type}(E:Enc α)(w:World)(a:j6)(n cap:Nat)(l:List α):Prop where
 hlen:l.length=n
 l8:n<=cap
 l9:cap<=9223372036854775807
 cell:∀k,k<n->∃b off,a=some ⟨b,off,none⟩/\∀k x j v,l[k]?=some x->(E.enc x)[j]?=some v->w.cell? ⟨b,off+k*E.c+j,none⟩=some v
theorem BU.ext{E:Enc α}{cap:Nat}{l:List α}(h:BU E w a n cap l)(hx:Ext w w'):BU E w' a n cap l :=
 ⟨h.hlen,h.l8,h.l9,fun k hk=>let⟨b,off,e,hc⟩:=h.cell k hk;⟨b,off,e,fun k x j v h1 h2=>hx.j9 (hc k x j v h1 h2)⟩⟩
theorem BU.at{E:Enc α}{cap:Nat}{l:List α}(h:BU E w a n cap l)(hk:k<n):
 ∃b off x,a=some ⟨b,off,none⟩/\l[k]?=some x/\∀j v,(E.enc x)[j]?=some v->w.cell? ⟨b,off+k*E.c+j,none⟩=some v :=
 let⟨b,off,e,hc⟩:=h.cell k hk
 have hl:k<l.length:=by rw[h.hlen];exact hk
 ⟨b,off,l[k],e,bk hl,fun j v hj=>hc k _ j v (bk hl) hj⟩
theorem eX{l:List α}{x:α}(h:l[k]?=some x):l.take (k+1)=l.take k++[x]:=by
 obtain⟨hk,rfl⟩:=RI.1 h;rw[Kn hk]
def zd{α:Type}(E:Enc α)(t:TypeId)(w:World)(base:Nat)(v:Value)(l:List α):Prop:=w.ownsRow base t E.c v l.length (E.all l)
section
variable{α:Type}{E:Enc α}{t:TypeId}{w:World}{base:Nat}{l:List α}
theorem zd.form{v:Value}(h:zd E t w base v l):∃a cap,v=.slice a l.length cap/\l.length<=cap/\cap<=9223372036854775807:=by
 rcases h.2 with⟨rfl,h0⟩|⟨g,cap,cur,rfl,_,_,h1,h2,_⟩
 ·exact⟨none,0,by rw[h0],by omega,by omega⟩
 ·exact⟨_,cap,rfl,h1,by simpa[maxLen]using h2⟩
theorem zd.var{v:Value}(h:zd E t w base v l):∃a n cap,v=.slice a n cap/\b7 (l.length=n):=by
 obtain⟨a,cap,e,_⟩:=h.form;exact⟨a,_,cap,e,rfl⟩
theorem zd.Ej{a:j6}{n cap:Nat}(h:zd E t w base (.slice a n cap) l):BU E w a n cap l:=by
 rcases h.2 with⟨he,h0⟩|⟨g,cap',cur,he,_,hg,h1,h2,hs,ht⟩
 ·simp only[C']at he;obtain⟨rfl,rfl,rfl⟩:=he;exact⟨h0,ao _,by omega,fun k hk=>absurd hk e7⟩
 ·simp only[C']at he;obtain⟨rfl,rfl,rfl⟩:=he;refine⟨rfl,h1,by simpa[maxLen]using h2,fun k hk=>⟨g,0,rfl,fun k x j v hx hv=>?_⟩⟩;rw[Mf,tn w g _ cur _ (0,0) hg];have q:=E.KB hx hv;rw[<-ht,aao]at q
  split at q
  ·simpa using q
  ·cases q
theorem zd.lt{v:Value}(h:zd E t w base v l):∀k,v.ownBlock=some k->base<=k/\k<w.heap.size:=abQ h
theorem zd.keep{w':World}{v:Value}(h:zd E t w base v l)(hk:∀k,v.ownBlock=some k->w'.heap[k]?=w.heap[k]?):zd E t w' base v l:=by
 refine⟨h.1,?_⟩
 rcases h.2 with hn|⟨g,cap,cur,rfl,hb,G,rest⟩
 ·exact .inl hn
 ·exact .inr ⟨g,cap,cur,rfl,hb,(hk g rfl).trans G,rest⟩
theorem zd.ext{w':World}{v:Value}(h:zd E t w base v l)(hx:Ext w w'):zd E t w' base v l:=h.keep fun k hk=>hx.block k (h.lt k hk).2
theorem zd.mono{base':Nat}{v:Value}(h:zd E t w base v l)(hb:base'<=base):zd E t w base' v l:=by
 refine⟨h.1,?_⟩
 rcases h.2 with hn|⟨g,cap,cur,rfl,Bg,rest⟩
 ·exact .inl hn
 ·exact .inr ⟨g,cap,cur,rfl,by omega,rest⟩
theorem zd.nil(E:Enc α)(t:TypeId)(w:World)(base:Nat):zd E t w base (.slice none 0 0) []:=aaC w base t _
theorem zd.block{a:j6}{n cap:Nat}(h:zd E t w base (.slice a n cap) l){k:Nat}(hk:k<n):∃g,a=some ⟨g,0,none⟩/\base<=g/\(∀j,w.frozen? ⟨g,j,none⟩=false)/\g<w.heap.size:=by
 rcases h.2 with⟨he,h0⟩|⟨g,cap',cur,he,hb,hg,_⟩
 ·simp only[C']at he;omega
 ·simp only[C']at he;obtain⟨rfl,_⟩:=he;exact⟨g,rfl,hb,fun j=>sd w g j cur _ hg,mr hg⟩
theorem zd.Az(E:Enc α)(t:TypeId)(W:World)(base:Nat)(n:Nat)(hn:n=W.heap.size)(hb:base<=W.heap.size):zd E t (W.alloc (.cells #[] t)) base (.slice (some ⟨n,0,none⟩) 0 0) []:=by
 subst hn;exact aaY W #[] 0 hb e7 e8
theorem zd.lit(E:Enc α)(t:TypeId)(W:World)(base:Nat)(l:List α)(cs:Array Value)(G:cs=(E.all l).toArray)(n:Nat)(hn:n=W.heap.size)(hb:base<=W.heap.size)(hm:l.length<=1099511627776):zd E t (W.alloc (.cells cs t)) base (.slice (some ⟨n,0,none⟩) l.length l.length) l:=by
 subst hn G;refine⟨E.DK l,.inr ⟨_,l.length,(E.all l).toArray,rfl,hb,L' W _,ao _,by simp[maxLen];omega,by simp[E.DK],?_⟩⟩
 show List.take _ (E.all l)=_;exact p4 (by rw[E.DK];exact ao _)
theorem bh{w:World}{base base':Nat}{e e':TypeId}{s K:Nat}{v J:Value}{n O:Nat}{xs G:List Value}(hne:e≠e')(h:w.ownsRow base e s v n xs)(h':w.ownsRow base' e' K J O G):∀k,v.ownBlock=some k->J.ownBlock≠some k:=by
 intro k hk EL
 rcases h.2 with⟨rfl,_⟩|⟨g,cap,cur,rfl,_,hg,_⟩
 ·simp[Value.ownBlock]at hk
 ·rcases h'.2 with⟨rfl,_⟩|⟨g',cap',cur',rfl,_,I,_⟩
  ·simp[Value.ownBlock]at EL
  ·simp only[Value.ownBlock,bA]at hk EL;subst hk EL;rw[hg]at I;simp only[bA,adO]at I;exact hne I.2.1
theorem au{w:World}{base g:Nat}{e e':TypeId}{s:Nat}{v:Value}{n:Nat}{xs:List Value}{c:Array Value}{z:Nat×Nat}(h:w.ownsRow base e s v n xs)(hb:w.heap[g]?=some (.cells c e' z))(hne:e≠e'):some g≠v.ownBlock:=by
 intro hk
 rcases h.2 with⟨rfl,_⟩|⟨g',cap,cur,rfl,_,hg,_⟩
 ·simp[Value.ownBlock]at hk
 ·simp only[Value.ownBlock,bA]at hk;subst hk;rw[hg]at hb;simp only[bA,adO]at hb;exact hne hb.2.1
theorem BU.lit(E:Enc α)(t:TypeId)(W:World)(l:List α)(m:Nat)(hm:l.length=m)(cs:Array Value)(G:cs=(E.all l).toArray)(n:Nat)(hn:n=W.heap.size)(hb:m<=1099511627776):BU E (W.alloc (.cells cs t)) (some ⟨n,0,none⟩) m m l:=by
 subst hm;exact(zd.lit E t W 0 l cs G n hn (KJ _) hb).Ej
end
section
variable{α:Type}{E:Enc α}{t:TypeId}{P:Program}{w:World}{ops:Array Oper}{rest:List Oper}{o:Oper}{a:Act}{Q:Exit->Act->World->Prop}
theorem fS{K:Act->World->Prop}{O:TypeId}{z:Value}{bytes:Nat}(E:Enc α)(I:(P.info? t).map (fun i=>(i.zero,i.size,i.bytes))=some (some z,E.c,bytes))(hz:z.cells.size=E.c)(ht:P.underlying O=some (.slice t))(JD:bytes<=64)
 (s x:Operand) (ho:o.op=.call { callee:=.builtin .append,args:=#[s,x],argTypes:=#[O,O] })
 (base:Nat) (v:Value) (l:List α) (hs:a.eval s=v) (AI:zd E t w base v l) (Z:j6) (m c:Nat) (U:List α) (hx:a.eval x=.slice Z m c) (C7:BU E w Z m c U) (hb:l.length+m<=1099511627776) (G:base<=w.heap.size)
 (h:∀J w',zd E t w' base J (l++U)->w.grownBy w' v.ownBlock->Cx w v J->K (a.put o.dst J) w'):o.wp P a w K Q:=by
 obtain⟨i,hi,AU,Fq,El⟩:∃i,P.info? t=some i/\i.zero=some z/\i.size=E.c/\i.bytes=bytes:=by
  cases hq:P.info? t with
  | none=>rw[hq]at I;simp at I
  | some i=>rw[hq]at I;simp at I;exact⟨i,rfl,I.1,I.2.1,I.2.2⟩
 cases Z with
 | none =>
   have hm:m=0:=by
    rcases acW m with h0|h0
    ·exact h0
    ·obtain⟨b,off,e,_⟩:=C7.cell 0 h0;cases e
   subst hm;have hl:U=[]:=Lj C7.hlen;subst hl;refine fN w s x O ho base t i E.c ht hi v l.length _ hs AI c hx ?_;exact h v w (by simpa using AI) (ac4 _ _) (Cx.refl _ _)
 | some ad =>
   refine eP w s x O ho base t i z E.c bytes ht hi AU Fq El hz E.pos v l.length (E.all l) hs AI ad m c (E.all U) hx (by rw[E.DK,C7.hlen]) ?_ (E.Sa U) (by simp[maxLen];omega) (j1 (Y4 hb JD)) G ?_
   ·intro i u hu;obtain⟨k,j,y,he,hk,hj⟩:=E.split hu;have Ci:k<m:=by rw[<-C7.hlen];exact(RI.1 hk).1
    obtain⟨b,off,e,hc⟩:=C7.cell k Ci;simp only[bA]at e;subst e;have ha:∀k,(⟨b,off,none⟩:Addr).add k=⟨b,off+k,none⟩:=fun k=>by unfold Addr.add;split<;>simp_all
    rw[ha,he,<-Nat.add_assoc];exact hc k y j u hk hj
   ·intro J w' h1 h2 h3;refine h J w' ?_ h2 h3;unfold zd;rw[pk,C7.hlen,E.all_append];exact h1
theorem eU{J:TypeId}{z:Value}{bytes:Nat}(E:Enc α)(Dv:(P.info? t).map (fun i=>(i.zero,i.size,i.bytes))=some (some z,E.c,bytes))(hz:z.cells.size=E.c)(ht:P.underlying J=some (.slice t))(U:bytes<=64)(Z:o.guard=none)
 (s x:Operand) (ho:o.op=.call { callee:=.builtin .append,args:=#[s,x],argTypes:=#[J,J] })
 (base:Nat) (v:Value) (l:List α) (hs:a.eval s=v) (AI:zd E t w base v l) (O:j6) (m c:Nat) (K:List α) (hx:a.eval x=.slice O m c) (C7:BU E w O m c K) (hb:l.length+m<=1099511627776) (G:base<=w.heap.size)
 (h:∀I w',zd E t w' base I (l++K)->w.grownBy w' v.ownBlock->Cx w v I->wpList P ops Q rest (a.put o.dst I) w'):wpList P ops Q (o::rest) a w :=
 adm Z fun _ hK=>fS E Dv hz ht U s x ho base v l hs AI O m c K hx C7 hb G fun I w' h1 h2 h3=>hK _ _ (h I w' h1 h2 h3)
end
