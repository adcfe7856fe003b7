import Derived.Test.YtdadoignenffgaaGreatDoorSvAllG16
import Derived.Test.YtdadoignenffgaaGreatDoorSvAllG3
import Derived.Deep.DeepCutAuto
import Derived.Outline
set_option linter.unusedVariables false
set_option linter.unusedSimpArgs false
namespace Go.Proofs.YtdadoignenffgaaGreatDoor
variable{w w' w1 w2:World}{ra ba a:j6}{rn rc bn bc base' base g n m:Nat}{t:Tb}{x y z vb va:Value}{r cost costs:j4}{vs:List Value}{fid:FuncId}
set_option maxHeartbeats 16000000
set_option maxRecDepth 100000
open Go.RowKit
structure Ds(w:World)(ra:j6)(rn rc:Nat)(ba:j6)(bn bc:Nat)(t:Tb):Prop where
 rows:fF w ra rn rc t.rows
 basis:Ints w ba bn bc t.basis
theorem Ds.ext(h:Ds w ra rn rc ba bn bc t)(hx:Ext w w'):Ds w' ra rn rc ba bn bc t:=⟨h.rows.ext hx,h.basis.ext hx⟩
abbrev CR(ra:j6)(rn rc:Nat)(ba:j6)(bn bc:Nat)(x:Int):Value:=.agg #[.slice ra rn rc,.slice ba bn bc,.int .i64 x]
abbrev bT(ra:j6)(rn rc:Nat)(ba:j6)(bn bc:Nat)(x:Int):Obj:=.cells #[.slice ra rn rc,.slice ba bn bc,.int .i64 x] 116
structure Ah(w:World)(base g:Nat)(va vb:Value)(x:Int)(vs:List Value)(M:List (j4))(l:j7):Prop where
 box:w.heap[g]?=some (.cells #[va,vb,.int .i64 x] 116 (0,0))
 hg:base<=g
 a:xM w base va vs
 rows:di w base vs M
 b:o5 w base vb l
section
variable{w:World}{base g:Nat}{va vb:Value}{x:Int}{vs:List Value}{M:List (j4)}{l:j7}
theorem Ah.lt(h:Ah w base g va vb x vs M l):g<w.heap.size:=lt_of_block h.box
theorem Ah.ext{w':World}(h:Ah w base g va vb x vs M l)(hx:Ext w w'):Ah w' base g va vb x vs M l :=
 ⟨(hx.block _ h.lt).trans h.box,h.hg,h.a.ext hx,h.rows.ext hx,h.b.ext hx⟩
theorem al{x y z:Value}{t:TypeId}(h:w.heap[g]?=some (.cells #[x,y,z] t (0,0))):w.cell? ⟨g,0,none⟩=some x:=by rw[cell_of_row w g 0 _ _ _ h];rfl
theorem au{x y z:Value}{t:TypeId}(h:w.heap[g]?=some (.cells #[x,y,z] t (0,0))):w.cell? ⟨g,1,none⟩=some y:=by rw[cell_of_row w g 1 _ _ _ h];rfl
theorem av{x y z:Value}{t:TypeId}(h:w.heap[g]?=some (.cells #[x,y,z] t (0,0))):w.cell? ⟨g,2,none⟩=some z:=by rw[cell_of_row w g 2 _ _ _ h];rfl
theorem cO{x y z:Value}{t:TypeId}(h:w.heap[g]?=some (.cells #[x,y,z] t (0,0)))(k:Nat):w.frozen? ⟨g,k,none⟩=false:=frozen_of_row w g k _ _ h
theorem Ah.Ch{w1 w2:World}(h:Ah w base g va vb x vs M l)(hx:Ext w w1){E G:Value}{r:j4}(hr:l9 w1 w.heap.size E r)(K:base<=w.heap.size)(I:w1.grownBy w2 va.ownBlock)(J:xM w2 base G (vs++[E])):
 Ah (w2.setCell ⟨g,0,none⟩ G) base g G vb x (vs++[E]) (M++[r]) l:=by
 have h1:=h.ext hx;have xe:w2.heap[g]?=some (.cells #[va,vb,.int .i64 x] 116 (0,0)):=(I.block g h1.lt (an h1.a h1.box (by decide))).trans h1.box;have yf:∀k,k≠g->(w2.setCell ⟨g,0,none⟩ G).heap[k]?=w2.heap[k]?:=fun k hk=>heap_setCell_other _ _ _ _ hk
 have OQ:o5 w2 base vb l:=h1.b.keep fun k hk=>I.block k (h1.b.lt k hk).2 fun e=>aU (by decide) h1.b h1.a k hk e.symm
 have Qw:di w1 base (vs++[E]) (M++[r]):=h.rows.snoc hx hr K;have GF:di w2 base (vs++[E]) (M++[r]):=Qw.keep fun i k hi hk=>I.block k ((Qw.row i hi).lt k hk).2 fun e=>(Qw.row i hi).apart h1.a k hk e.symm
 refine⟨?_,h.hg,?_,?_,?_⟩
 ·have:=heap_setCell_same w2 g 0 _ _ G xe;exact this
 ·exact J.keep fun k hk=>yf k fun e=>(an J xe (by decide)) (by rw[hk,e])
 ·exact GF.keep fun i k hi hk=>yf k fun e=>(an (GF.row i hi) xe (by decide)) (by rw[hk,e])
 ·exact OQ.keep fun k hk=>yf k fun e=>(an OQ xe (by decide)) (by rw[hk,e])
theorem Ah.F'{w1 w2:World}(h:Ah w base g va vb x vs M l)(hx:Ext w w1)(hg:w1.grownBy w2 va.ownBlock):w2.heap[g]?=some (.cells #[va,vb,.int .i64 x] 116 (0,0)) :=
 (hg.block g (h.ext hx).lt (an (h.ext hx).a (h.ext hx).box (by decide))).trans (h.ext hx).box
theorem Ah.Hm{w1 w2:World}(h:Ah w base g va vb x vs M l)(hx:Ext w w1)(hg:w1.grownBy w2 vb.ownBlock):w2.heap[g]?=some (.cells #[va,vb,.int .i64 x] 116 (0,0)) :=
 (hg.block g (h.ext hx).lt (an (h.ext hx).b (h.ext hx).box (by decide))).trans (h.ext hx).box
theorem Ah.pushB{w1 w2:World}(h:Ah w base g va vb x vs M l)(hx:Ext w w1){E:Value}{I:j7}(G:w1.grownBy w2 vb.ownBlock)(J:o5 w2 base E I):
 Ah (w2.setCell ⟨g,1,none⟩ E) base g va E x vs M I:=by
 have h1:=h.ext hx;have xe:=h.Hm hx G;have yf:∀k,k≠g->(w2.setCell ⟨g,1,none⟩ E).heap[k]?=w2.heap[k]?:=fun k hk=>heap_setCell_other _ _ _ _ hk
 have OR:xM w2 base va vs:=h1.a.keep fun k hk=>G.block k (h1.a.lt k hk).2 fun e=>aU (by decide) h1.a h1.b k hk e.symm
 have GF:di w2 base vs M:=h1.rows.keep fun i k hi hk=>G.block k ((h1.rows.row i hi).lt k hk).2 fun e=>aU (by decide) (h1.rows.row i hi) h1.b k hk e.symm
 refine⟨?_,h.hg,?_,?_,?_⟩
 ·have:=heap_setCell_same w2 g 1 _ _ E xe;exact this
 ·exact OR.keep fun k hk=>yf k fun e=>(an OR xe (by decide)) (by rw[hk,e])
 ·exact GF.keep fun i k hi hk=>yf k fun e=>(an (GF.row i hi) xe (by decide)) (by rw[hk,e])
 ·exact J.keep fun k hk=>yf k fun e=>(an J xe (by decide)) (by rw[hk,e])
theorem Ah.new{E:World}{vb:Value}{base':Nat}(hb:o5 E base' vb l)(G:base<=base')(hs:base<=E.heap.size):
 Ah (E.alloc (.cells #[.slice none 0 0,vb,.int .i64 x] 116)) base E.heap.size (.slice none 0 0) vb x [] [] l :=
 ⟨heap_alloc_new _ _,hs,World.ownsRow_nil _ base _ 1,di.nil _ _,(hb.mono G).ext (Ext.alloc _ _)⟩
theorem Ah.Ms{E:World}{vb v0 v1 v2:Value}{base':Nat}(xe:E.heap[g]?=some (.cells #[v0,v1,v2] 116 (0,0)))(hb:o5 E base' vb l)(G:base<=base')(hs:base<=g):
 Ah (((E.setCell ⟨g,0,none⟩ (.slice none 0 0)).setCell ⟨g,1,none⟩ vb).setCell ⟨g,2,none⟩ (.int .i64 x)) base g (.slice none 0 0) vb x [] [] l:=by
 have e1:=heap_setCell_same E g 0 _ _ (.slice none 0 0) xe;have e2:=heap_setCell_same _ g 1 _ _ vb e1;have e3:=heap_setCell_same _ g 2 _ _ (.int .i64 x) e2;refine⟨e3,hs,World.ownsRow_nil _ base _ 1,di.nil _ _,?_⟩;refine(hb.mono G).keep fun k hk=>?_
 have hne:k≠g:=fun e=>(an hb xe (by decide)) (by rw[hk,e])
 rw[heap_setCell_other _ _ _ _ hne,heap_setCell_other _ _ _ _ hne,heap_setCell_other _ _ _ _ hne]
end
structure wS(w:World)(base:Nat)(va vb:Value)(vs:List Value)(t:Tb):Prop where
 a:xM w base va vs
 rows:di w base vs t.rows
 b:o5 w base vb t.basis
theorem wS.ext(h:wS w base va vb vs t)(hx:Ext w w'):wS w' base va vb vs t:=⟨h.a.ext hx,h.rows.ext hx,h.b.ext hx⟩
theorem wS.mono(h:wS w base va vb vs t)(hb:base'<=base):wS w base' va vb vs t :=
 ⟨by
  refine⟨h.a.1,?_⟩
  rcases h.a.2 with hn|⟨g,cap,cur,rfl,xS,rest⟩
  ·exact .inl hn
  ·exact .inr ⟨g,cap,cur,rfl,Nat.le_trans hb xS,rest⟩,⟨h.rows.len,fun i hi=>(h.rows.row i hi).mono hb,h.rows.apart⟩,h.b.mono hb⟩
theorem wS.zB(h:wS w base (.slice ra rn rc) (.slice ba bn bc) vs t):Ds w ra rn rc ba bn bc t :=
 ⟨lh.So ⟨vs,h.a,h.rows⟩,h.b.ints⟩
theorem wS.wW(h:wS w base va vb vs t)(hk:∀k,base<=k->w'.heap[k]?=w.heap[k]?):wS w' base va vb vs t :=
 ⟨h.a.keep fun k e=>hk k (h.a.lt k e).1,h.rows.keep fun i k hi e=>hk k ((h.rows.row i hi).lt k e).1,h.b.keep fun k e=>hk k (h.b.lt k e).1⟩
theorem cz(w:World)(b k:Nat)(x y z:Value)(h:k≠b):(((w.setCell ⟨b,0,none⟩ x).setCell ⟨b,1,none⟩ y).setCell ⟨b,2,none⟩ z).heap[k]?=w.heap[k]?:=by
 rw[heap_setCell_other _ _ _ _ h,heap_setCell_other _ _ _ _ h,heap_setCell_other _ _ _ _ h]
theorem Ah.own{x:Int}{M:List (j4)}{l:j7}(h:Ah w base g va vb x vs M l):wS w base va vb vs ⟨M,l,x⟩:=⟨h.a,h.rows,h.b⟩
theorem Ext.zl(h:Ext w w'){b:Nat}(hb:w.heap.size<=b)(x y z:Value):Ext w (((w'.setCell ⟨b,0,none⟩ x).setCell ⟨b,1,none⟩ y).setCell ⟨b,2,none⟩ z):=((h.setCell (p:=⟨b,0,none⟩) hb _).setCell (p:=⟨b,1,none⟩) hb _).setCell (p:=⟨b,2,none⟩) hb _
theorem lm{cap:Nat}{l:j4}(h:Rats w a n cap l)(hb:n<=1099511627776):
 Calls Tryz.prog 250 #[.slice a n cap] w fun e w'=>∃v,e=.returned v/\l9 w' w.heap.size v l/\Ext w w':=by
 have heq:∀w':World,(binOp .eql 35 (.slice a n cap) (.slice none 0 0)).run Tryz.prog w'=.ok (.bool a.isNone) w':=fun w'=>Lib.run_eql_slice_nil w' _ _ a n cap 0 0 Tryz.underlying35
 have HL:=ae h.hlen;cases a with
 | none =>
   have hl:l=[]:=by
    have:¬0<n:=fun hn=>by obtain⟨b,off,e,_⟩:=h.cell 0 hn;cases e
    exact List.eq_nil_of_length_eq_zero (j1 HL.o)
   simp only[Option.isNone_none]at heq;go_enter Tryz.func250,Tryz.ntmps250
   go_wp2
   go_ret;exact⟨_,rfl,by rw[hl];exact l9.nil w _,Ext.refl _⟩
 | some ad =>
   simp only[Option.isNone_some]at heq;have HI:=ae (h.ext (Ext.alloc w (.cells #[] 62)));have HO:=ae (l9.made w w.heap.size (Nat.le_refl _));clear h;go_enter Tryz.func250,Tryz.ntmps250
   go_wp2_with (first|(at_builtin;refine aI rfl _ _ rfl w.heap.size _ _ rfl HO.o _ n _ l rfl HI.o (by simpa using hb) e8 ?_;intro v' w1 ho hg l7));go_ret;exact⟨_,rfl,by simpa using ho,ak (Ext.alloc _ _) hg (fun k hk=>Nat.le_of_eq (Option.some.inj (show some w.heap.size=some k from hk)))⟩
def Pg(P:Program)(w:World)(fid:FuncId)(ca:Array Value)(p:j4->Bool):Prop :=
 ∀a n cap r (w1:World),Ext w w1->Rats w1 a n cap r->Calls P fid (#[.slice a n cap]++ca) w1 fun e w2=>e=.returned (.bool (p r))/\Ext w1 w2
theorem mG{cap:Nat}{l:List (j4)}{ca:Array Value}{p:j4->Bool}(h:fF w a n cap l)(hg:IsGo Tryz.prog fid)(hf:Pg Tryz.prog w fid ca p):
 Calls Tryz.prog 264 #[.slice a n cap,.func (.func fid) #[] ca] w fun e w'=>e=.returned (.int .i64 (bX p l))/\Ext w w':=by
 have hn:=h.l8;have hm:=h.o0;have HL:=ae h.hlen;have HI:=ae h;have G:=ae hf;clear h hf;have RP:∀(args:Array Value) (w:World),(callFunc fid args).run Tryz.prog w=.ok (.enter fid args) w:=hg;go_enter Tryz.func264,Tryz.ntmps264
 go_wp2_with fail
 go_loopg [8] n (fun gk ii wr=>∃k:Nat,b7 (gk+k=n)/\ii=.int .i64 (k:Int)/\b7 ((l.take k).all (fun x=>!p x)=true)/\b7 (Ext w wr))
 case atStart=>exact⟨0,ae e7,rfl,ae rfl,ae (Ext.refl _)⟩
 case round =>
  obtain⟨g1,K⟩:=b9 gk;subst K;obtain⟨J,O⟩:=b9 wr;subst O;obtain⟨k,E,rfl,HA,HX⟩:=hrel;by_cases hlt:k<n
  ·obtain⟨b,off,ra,rn,rc,rfl,wK,o7⟩:=(HI.o.ext HX.o).at hlt;have HF:=ae (G.o _ _ _ _ J HX.o o7);clear o7;have I:=ae (show k<l.length by rw[HL.o];exact hlt);cases hb:p (l[k]?.getD [])
   all_goals
    rw[hb]at HF
   ·have HT:=ae (show(l.take (k+1)).all (fun x=>!p x)=true by
     rw[eT I.o,List.all_append,HA.o];simp only[List.all_cons,List.all_nil,hb];rfl)
    clear hb;go_wp2_with fail;refine HF.o.mono ?_;rintro e w2 ⟨rfl,vL⟩;go_wp2_with fail
    go_roundg (g1-1)
    case measure=>have:=E.o;omega
    case rel=>exact⟨k+1,ae (j1 E.o),by go_num,HT,ae (HX.o.trans vL)⟩
   ·have HB:=ae (show bX p l=k from eH (d:=[]) I.o HA.o hb);clear hb;go_wp2_with fail;refine HF.o.mono ?_;rintro e w2 ⟨rfl,vL⟩;go_wp2_with fail;go_ret;exact⟨aD HB.o.symm,HX.o.trans vL⟩
  ·have HT:=ae (show bX p l=-1 by
    have h2:=HA.o;rw[List.take_of_length_le (by rw[HL.o];have:=E.o;omega)]at h2
    exact dL h2)
   go_wp2_with fail;go_ret;exact⟨aD HT.o.symm,HX.o⟩
theorem jX{cap:Nat}{l:List (j4)}{ca:Array Value}{p:j4->Bool}(h:fF w a n cap l)(hg:IsGo Tryz.prog fid)(hf:Pg Tryz.prog w fid ca p):
 Calls Tryz.prog 256 #[.slice a n cap,.func (.func fid) #[] ca] w fun e w'=>e=.returned (.bool (l.any p))/\Ext w w':=by
 have HC:=ae (mG h hg hf);clear h hf;go_enter Tryz.func256,Tryz.ntmps256
 go_wp2_with fail;refine HC.o.mono ?_;rintro e w2 ⟨rfl,vL⟩
 go_wp2
 all_goals go_ret;refine⟨ai ?_,vL⟩;rw[<-gh]
theorem tT(z:Int){h:Nat}{x:Int}(hx:0<=x/\x<=1000)(hm:m<=1048576)(h1:w.cell? ⟨g,2,none⟩=some (.int .i64 x))(h2:w.cell? ⟨h,0,none⟩=some (.int .i64 (m:Int))):
 Calls Tryz.prog 255 #[.int .i64 z,.pointer (some ⟨g,0,none⟩),.pointer (some ⟨h,0,none⟩)] w fun e w'=>e=.returned (.bool (!r' z 0 (x+(m:Int)-1)))/\Ext w w':=by
 obtain⟨uS,vO⟩:=hx;go_enter Tryz.func255,Tryz.ntmps255
 go_wp2_with (first|(go_at_call 61;refine(aJ _ _ _ _).mono ?_;rintro e w' ⟨rfl,rfl⟩));go_ret;exact⟨rfl,Ext.refl _⟩
theorem sD:IsGo Tryz.prog 255:=isGo Tryz.func255 e9 e9
theorem tU{cap:Nat}(hr:Rats w a n cap r){h:Nat}{x:Int}(hx:0<=x/\x<=1000)(hm:m<=1048576)(h1:w.cell? ⟨g,2,none⟩=some (.int .i64 x))(h2:w.cell? ⟨h,0,none⟩=some (.int .i64 (m:Int))):
 Calls Tryz.prog 257 #[.slice a n cap,.pointer (some ⟨g,0,none⟩),.pointer (some ⟨h,0,none⟩)] w fun e w'=>e=.returned (.bool (!decide ((r.length:Int)=x+(m:Int)+1)))/\Ext w w':=by
 obtain⟨uS,vO⟩:=hx;have hc:=hr.l8;have hm:=hr.o0;have HL:=ae hr.hlen;clear hr;go_enter Tryz.func257,Tryz.ntmps257
 go_wp2_with fail;go_ret;refine⟨ai ?_,Ext.refl _⟩;rw[HL.o];by_cases e:(n:Int)=x+(m:Int)+1
 ·rw[decide_eq_true e];simpa using e
 ·rw[decide_eq_false e];simpa using e
theorem sE:IsGo Tryz.prog 257:=isGo Tryz.func257 e9 e9
theorem My{α:Type}(l:List α)(p:α->Bool):(!l.any fun x=>!p x)=l.all p:=by rw[List.not_any_eq_all_not];simp
theorem qY{α:Type}(l:List α)(p:α->Bool):(l.any fun x=>!p x)=!l.all p:=by rw[<-My,Bool.not_not]
section
variable{w:World}{ra:j6}{rn rc:Nat}{ba:j6}{bn bc:Nat}{t:Tb}
theorem gT(h:Ds w ra rn rc ba bn bc t)(I:rn<=1048576):
 Calls Tryz.prog 236 #[CR ra rn rc ba bn bc t.q8] w fun e w'=>e=.returned (.bool (yO t))/\Ext w w':=by
 obtain⟨rows,basis,x⟩:=t;have uS:=(Ext.alloc w (bT ra rn rc ba bn bc x)).trans (Ext.alloc _ (.cells #[.int .i64 (rn:Int)] 3));have uV:=ae uS;have H:=ae (h.ext uS);have xm:=h.rows.l8;have yI:=h.rows.o0;have xL:=h.basis.l8;have wU:=h.basis.o0;have xE:=ae h.rows.hlen;have xi:=ae h.basis.hlen
 have HE:=ae (show yO ⟨rows,basis,x⟩=(r' x 0 1000&&(decide (bn=rn)&&(basis.all (fun b=>r' b 0 (x+(rn:Int)-1))&&rows.all (fun r=>decide ((r.length:Int)=x+(rn:Int)+1)))))by
  unfold yO;simp only
  rw[h.rows.hlen,h.basis.hlen])
 clear h uS
 show Calls _ _ #[CR ra rn rc ba bn bc x] w _;have E:=ae (fun w=>aJ x 0 1000 w);cases wq:r' x 0 1000
 ·rw[wq]at E HE;clear wq;go_enter Tryz.func236,Tryz.ntmps236
  go_wp2_with fail;refine(E.o _).mono ?_;rintro e w1 ⟨rfl,rfl⟩;go_wp2_with fail;go_ret;exact⟨ai HE.o.symm,uV.o⟩
 ·have K:0<=x/\x<=1000:=by unfold r' at wq;simp at wq;exact wq
  have NL:=ae K;rw[wq]at E HE;clear wq K;by_cases O:bn=rn
  ·subst O;have xS:((bn:Int) != (bn:Int))=false:=by simp
   have zz:=ae (show yO ⟨rows,basis,x⟩=(basis.all (fun b=>r' b 0 (x+(bn:Int)-1))&&rows.all (fun r=>decide ((r.length:Int)=x+(bn:Int)+1)))by rw[HE.o,decide_eq_true rfl];rfl);have G:=ae (ei (ca:=#[.pointer (some ⟨w.heap.size,0,none⟩),.pointer (some ⟨w.heap.size+1,0,none⟩)]) H.o.basis sD (p:=fun b=>!r' b 0 (x+(bn:Int)-1)) (fun z w1 hx=>tT z NL.o I (hx.j9 e8) (hx.j9 e8)));rw[qY]at G;cases hb:basis.all (fun b=>r' b 0 (x+(bn:Int)-1))
   ·rw[hb]at G zz;clear hb;go_enter Tryz.func236,Tryz.ntmps236
    go_wp2_with fail;refine(E.o _).mono ?_;rintro e w1 ⟨rfl,rfl⟩;go_wp2_with fail;refine G.o.mono ?_;rintro e w2 ⟨rfl,hx⟩;have X2:=ae (uV.o.trans hx);clear hx;go_wp2_with fail;go_ret;exact⟨ai zz.o.symm,X2.o⟩
   ·rw[hb]at G zz;clear hb;go_enter Tryz.func236,Tryz.ntmps236
    go_wp2_with fail;refine(E.o _).mono ?_;rintro e w1 ⟨rfl,rfl⟩;go_wp2_with fail;refine G.o.mono ?_;rintro e w2 ⟨rfl,hx⟩;have J:=ae (jX (ca:=#[.pointer (some ⟨w.heap.size,0,none⟩),.pointer (some ⟨w.heap.size+1,0,none⟩)]) (H.o.ext hx).rows sE (p:=fun r=>!decide ((r.length:Int)=x+(bn:Int)+1)) (fun a n cap r w1 vL hr=>tU hr NL.o I ((hx.trans vL).j9 e8) ((hx.trans vL).j9 e8)));rw[qY]at J;have hq:w2.cell? ⟨w.heap.size,0,none⟩=some (.slice ra bn rc):=hx.j9 e8;have X2:=ae (uV.o.trans hx);clear hx;go_wp2_with fail;refine J.o.mono ?_;rintro e w3 ⟨rfl,hx⟩;have X3:=ae (X2.o.trans hx);clear hx;go_wp2_with fail;go_ret;exact⟨ai (by rw[zz.o];simp),X3.o⟩
  ·have xS:((bn:Int) != (rn:Int))=true:=by simp;omega
   have HF:=ae (show yO ⟨rows,basis,x⟩=false by rw[HE.o,decide_eq_false O];rfl);go_enter Tryz.func236,Tryz.ntmps236
   go_wp2_with fail;refine(E.o _).mono ?_;rintro e w1 ⟨rfl,rfl⟩;go_wp2_with fail;go_ret;exact⟨ai HF.o.symm,uV.o⟩
theorem iy(h:Ds w ra rn rc ba bn bc t)(zu:rn<=1048576)(Dn:bn<=1048576)(CS:∀i,i<rn->(t.row i).length<=1048576):
 Calls Tryz.prog 254 #[CR ra rn rc ba bn bc t.q8] w fun e w'=>(∃va vb vs,e=.returned (.agg #[va,vb,.int .i64 t.q8])/\wS w' w.heap.size va vb vs t)/\Ext w w':=by
 obtain⟨rows,basis,x⟩:=t;have uS:=(Ext.alloc w (bT ra rn rc ba bn bc x)).trans (Ext.alloc _ (.cells #[.slice none 0 0,.slice none 0 0,.int .i64 0] 116));obtain⟨W,hW⟩:=b9 ((w.alloc (bT ra rn rc ba bn bc x)).alloc (.cells #[.slice none 0 0,.slice none 0 0,.int .i64 0] 116));rw[<-hW]at uS;have uV:=ae uS;have H:=ae (h.ext uS);have xm:=h.rows.l8;have yI:=h.rows.o0;have O:=ae h.rows.hlen;have xW:=ae CS;have p0:W.cell? ⟨w.heap.size,0,none⟩=some (.slice ra rn rc):=by rw[hW];simp
 have p1:W.cell? ⟨w.heap.size,1,none⟩=some (.slice ba bn bc):=by rw[hW];simp
 have p2:W.cell? ⟨w.heap.size,2,none⟩=some (.int .i64 x):=by rw[hW];simp
 have wL:=ae (show W.heap[w.heap.size+1]?=some (.cells #[.slice none 0 0,.slice none 0 0,.int .i64 0] 116 (0,0))by rw[hW];exact aj _ _ _ e8);have zx:=ae (show W.heap.size=w.heap.size+1+1 by rw[hW];simp);clear h uS CS
 show Calls _ _ #[CR ra rn rc ba bn bc x] w _;go_enter Tryz.func254,Tryz.ntmps254
 go_upto_region 1 with fail;rw[<-hW];clear hW
 go_cut [3] (fun s wx=>∃(g:Nat) (a3:j6) (E c3:Nat),s=.pointer (some ⟨g,0,none⟩)/\b7 (Ah wx W.heap.size g (.slice none 0 0) (.slice a3 E c3) x [] [] basis)/\b7 (Ext W wx))
 case first =>
  have k7:Ext W W.drew:=Ext.drew W;have I:Ext W (W.alloc (.cells #[.slice none 0 0,.slice none 0 0,.int .i64 0] 116)).drew:=(Ext.alloc _ _).trans (Ext.drew _);have k8:=ae (fun(w':World) (h:Ext W w')=>(⟨h.j9 p0,h.j9 p1,h.j9 p2,h⟩:w'.cell? ⟨w.heap.size,0,none⟩=some (.slice ra rn rc)/\w'.cell? ⟨w.heap.size,1,none⟩=some (.slice ba bn bc)/\w'.cell? ⟨w.heap.size,2,none⟩=some (.int .i64 x)/\Ext W w'))
  go_region_held3 (fun w'=>w'.cell? ⟨w.heap.size,0,none⟩=some (.slice ra rn rc)/\w'.cell? ⟨w.heap.size,1,none⟩=some (.slice ba bn bc)/\w'.cell? ⟨w.heap.size,2,none⟩=some (.int .i64 x)/\Ext W w')
   (first
     | with_reducible exact k8.o _ k7
     | with_reducible exact k8.o _ I
     | with_reducible exact k8.o _ (k7.trans (Ext.alloc _ _))
     | with_reducible exact k8.o _ (((k7.setCell (Nat.le_refl _) _).setCell (Nat.le_refl _) _).setCell (Nat.le_refl _) _))
   (first
     | (go_at_call 62
        (with_reducible refine(iG (H.o.ext (by first|with_reducible exact k7|with_reducible exact I|with_reducible exact k7.trans (Ext.alloc _ _))).basis e7).mono ?_)
        rintro e w3 ⟨v3,rfl,K,Q⟩;obtain⟨a3,E,c3,rfl,Fx⟩:=K.var
        first|(
           have RX:w3.heap[W.heap.size]?=some (.cells #[.slice none 0 0,.slice none 0 0,.int .i64 0] 116 (0,0)):=Ext.blk Q (show(W.alloc (.cells #[.slice none 0 0,.slice none 0 0,.int .i64 0] 116)).drew.heap[W.heap.size]?=_ from heap_alloc_new W _);have Ag:=al RX;have Af:=au RX;have Ub:=av RX;have T':=cO RX;have BM:=ae RX
           clear RX)|skip
        have k7:Ext W w3:=by first|with_reducible exact k7.trans Q|with_reducible exact I.trans Q
        have xu:=k7.size)
     | fail)
  all_goals
   go_wp2_with fail;go_meet
  ·exact⟨_,a3,E,c3,rfl,ae (Ah.new K (Nat.le_refl _) xu),ae (k7.trans (Ext.alloc _ _))⟩
  ·exact⟨_,a3,E,c3,rfl,ae (Ah.Ms BM.o K I.size (Nat.le_refl _)),ae (((k7.setCell (Nat.le_refl _) _).setCell (Nat.le_refl _) _).setCell (Nat.le_refl _) _)⟩
 obtain⟨g,a3,E,c3,rfl,HT,vh⟩:=hcut;replace p0:=vh.o.j9 p0;clear p1 p2;go_wp2_with fail
 go_loopg [15] rn (fun gk ii wr=>∃(k:Nat) (va:Value) (vs:List Value),b7 (gk+k=rn)/\ii=.int .i64 (k:Int)/\b7 (Ah wr W.heap.size g va (.slice a3 E c3) x vs (rows.take k) basis)/\b7 (Ext W wr))
 case atStart=>exact⟨0,_,_,ae e7,rfl,HT,vh⟩
 case round =>
  obtain⟨g1,o6⟩:=b9 gk;subst o6;obtain⟨o8,o4⟩:=b9 wr;subst o4;obtain⟨k,va,vs,U,rfl,T,HX⟩:=hrel;clear p0;by_cases hlt:k<rn
  ·obtain⟨zb,vF,za,zn,zc,zX,xr,o7⟩:=(H.o.ext HX.o).rows.at hlt;subst zX;have G4:zn<=1048576:=by rw[<-o7.hlen];exact xW.o k hlt
   have ze:=ae o7;have t0:=al T.o.box;have Ev:=T.o.lt;have MU:=HX.o.size;have xJ:=ae (show vs.length=k by rw[T.o.rows.len,List.length_take];have h2:rows.length=rn:=O.o;omega);clear o7;go_upto_region 5 with fail
   go_region_law (first
    | (refine bW _ rfl (eu _ _ rfl W.heap.size va vs rfl ((T.o.ext AH.o).a.ext (Ext.alloc _ _)) _ _ 1 rfl (by first|(simp;done)|(simp;rfl)) rfl (j1 xJ.o) (by first|(simp;done)|(simp;omega)) ?_);intro v6 w6 J8 OH hn6;have J:=T.o.F' (AH.o.trans (Ext.alloc _ _)) OH;have c0:=al J;have cf:=cO J;obtain⟨a6,n6,c6,rfl,Eh⟩:=J8.var;have yT:=ae J8;have O':=ae OH;clear J8 OH hn6 J)
    | (go_simp;go_at_call 250;refine(lm (ze.o.ext (Ext.drew _)) e7).mono ?_;rintro e w5 ⟨v5,rfl,Z,wX⟩;obtain⟨a5,n5,c5,rfl,zj⟩:=Z.var;have AH:=ae ((Ext.drew o8).trans wX);have vU:=ae Z;have Bm:=AH.o.size;have Yi:g<w5.heap.size:=e7;replace t0:=AH.o.j9 t0;clear Z wX))
   all_goals
    go_wp2_with fail;have GP:=ae (T.o.Ch (AH.o.trans (Ext.alloc _ _)) (vU.o.ext (Ext.alloc _ _)) MU O'.o yT.o);have D7:=ae ((ak ((HX.o.trans AH.o).trans (Ext.alloc _ _)) O'.o (fun i hi=>(T.o.a.lt i hi).1)).setCell (p:=⟨g,0,none⟩) T.o.hg (.slice a6 n6 c6))
    go_roundg (g1-1)
    case measure=>have:=U.o;omega
    case rel=>exact⟨k+1,_,_,ae (j1 U.o),by go_num,ae (by have:=GP.o;rw[<-eT (by have h2:rows.length=rn:=O.o;omega)]at this;exact this),D7⟩
  ·have vZ:rn=k:=by have:=U.o;omega
   subst vZ;have GO:=ae (show rows.take rn=rows from List.take_of_length_le (Nat.le_of_eq O.o));have GP:=ae (show Ah o8 W.heap.size g va (.slice a3 E c3) x vs rows basis by have:=T.o;rw[GO.o]at this;exact this);have t0:=al T.o.box;have t1:=au T.o.box;have t2:=av T.o.box;obtain⟨a7,n7,c7,rfl,DP⟩:=T.o.a.var;have G:=HX.o.blk wL.o;have r0:=al G;have r1:=au G;have r2:=av G;have rf:=cO G;have Gx:=zx.o;have MU:=HX.o.size;clear G;go_wp2_with fail;refine bodyPost_ret (v:=.agg #[.slice a7 n7 c7,.slice a3 E c3,.int .i64 x]) (by simp[results,Tryz.results254,go_sem,r0,r1,r2,rf]) rfl ⟨⟨_,_,vs,rfl,?_⟩,?_⟩
   ·exact(GP.o.own.wW fun k hk=>cz _ _ _ _ _ _ e7).mono e7
   ·exact(uV.o.trans HX.o).zl (Nat.le_succ _) _ _ _
end
theorem lq{k:Nat}(h:cG t cost k=none):∀{n:Nat},k<=n->cG t cost n=none
 | n,hn=>by
   obtain⟨d,rfl⟩:∃d,n=k+d:=⟨n-k,by omega⟩;clear hn
   induction d with
   | zero=>exact h
   | succ d ih=>show(cG t cost (k+d)).bind _=none;rw[ih];rfl
theorem I2{A B:j4}{k:j8}(h:xP A k B=some r):r.length=A.length:=by
 unfold xP at h;split at h
 ·exact dp h
 ·cases h
theorem jh{t:Tb}{cost:j4}:∀{k:Nat} {cs:j4},cG t cost k=some cs->cs.length=cost.length+1
 | 0,cs,h=>by simp only[cG,Option.some.injEq]at h;rw[<-h];simp
 | k+1,cs,h=>by
   simp only[cG]at h;cases e:cG t cost k with
   | none=>rw[e]at h;cases h
   | some c0=>rw[e]at h;simp only[Option.bind_some]at h;rw[I2 h,jh e]
theorem ft(h:Ds w ra rn rc ba bn bc t)(ok:yO t=true):
 ∃m:Nat,t.q8=m/\m<=1000/\bn=rn/\(∀i,i<rn->(t.row i).length=m+rn+1)/\∀i,i<rn->∃b:Nat,t.basis[i]?.getD 0=(b:Int)/\b<m+rn:=by
 have l1:=h.rows.hlen;have l2:=h.basis.hlen;unfold yO at ok;simp only[Bool.and_eq_true,decide_eq_true_eq,List.all_eq_true,r']at ok;obtain⟨⟨h1,h2⟩,h3,h4,h5⟩:=ok;refine⟨t.q8.toNat,by omega,by omega,by omega,fun i hi=>?_,fun i hi=>?_⟩
 ·have:=h5 _ (List.getElem_mem (l:=t.rows) (n:=i) e7);unfold Tb.row;rw[List.getElem?_eq_getElem e7,Option.getD_some];omega
 ·have:=h4 _ (List.getElem_mem (l:=t.basis) (n:=i) e7);rw[List.getElem?_eq_getElem e7,Option.getD_some];exact⟨t.basis[i].toNat,by omega,by omega⟩
section
variable{w:World}{ra:j6}{rn rc:Nat}{ba:j6}{bn bc:Nat}{t:Tb}
theorem tQ(h:Ds w ra rn rc ba bn bc t)(zu:rn<=100000){U:j6}{E Q:Nat}{cost:j4}(hk:Rats w U E Q cost):
 Calls Tryz.prog 231 #[CR ra rn rc ba bn bc t.q8,.slice U E Q] w fun e w'=>(∃v,e=.returned (.tuple #[v,.bool (ch t cost).isSome])/\l9 w' w.heap.size v ((ch t cost).getD []))/\Ext w w':=by
 have HF:=ae (gT (h.ext (Ext.alloc w (bT ra rn rc ba bn bc t.q8))) e7);have Uq:=ae (fun ok=>ft h ok);obtain⟨rows,basis,x⟩:=t;have uS:=Ext.alloc w (bT ra rn rc ba bn bc x);have uV:=ae uS;have H:=ae (h.ext uS);have L2:=ae (hk.ext uS);have xm:=h.rows.l8;have yI:=h.rows.o0;have xL:=h.basis.l8;have wU:=h.basis.o0;have yx:=hk.l8;have k7:=hk.o0;have xE:=ae h.rows.hlen;have DQ:=ae hk.hlen
 have HE:=ae (show ch ⟨rows,basis,x⟩ cost=if(yO ⟨rows,basis,x⟩&&(decide ((E:Int)=x+(rn:Int))&&xC cost))=true then cG ⟨rows,basis,x⟩ cost rn else none by
  unfold ch lu;simp only;rw[h.rows.hlen,hk.hlen])
 clear h hk uS
 show Calls _ _ #[CR ra rn rc ba bn bc x,.slice U E Q] w _;cases wj:yO ⟨rows,basis,x⟩
 ·rw[wj]at HF;have HN:=ae (show ch ⟨rows,basis,x⟩ cost=none by rw[HE.o,wj];rfl);clear wj;go_enter Tryz.func231,Tryz.ntmps231
  go_wp2_with fail;refine HF.o.mono ?_;rintro e w1 ⟨rfl,hx⟩;have X1:=ae (uV.o.trans hx);clear hx;go_wp2_with fail;refine bodyPost_ret (v:=.tuple #[.slice none 0 0,.bool false]) (by simp[results,Tryz.results231,go_sem]) rfl ⟨⟨.slice none 0 0,by rw[HN.o];rfl,by rw[HN.o];exact l9.nil _ _⟩,X1.o⟩
 ·rw[wj]at HF;obtain⟨m,Ep,hm,CY,xW,GX⟩:=Uq.o wj;simp only at Ep;subst Ep CY;have RE:=ae wj;replace xW:=ae xW;replace GX:=ae GX;clear wj;by_cases Ab:E=m+bn
  ·subst Ab;have Dl:((m+bn:Nat):Int)=(m:Int)+(bn:Int):=by simp
   have hne:(((m+bn:Nat):Int) != (m:Int)+(bn:Int))=false:=by simp
   have HV:=ae (fun(W:World) (hx:Ext (w.alloc (bT ra bn rc ba bn bc (m:Int))) W)=>lF (L2.o.ext hx));cases hv:xC cost
   ·simp only[hv]at HV;have HN:=ae (show ch ⟨rows,basis,(m:Int)⟩ cost=none by rw[HE.o,RE.out,hv,Dl];simp);clear hv;go_enter Tryz.func231,Tryz.ntmps231
    go_wp2_with fail;refine HF.o.mono ?_;rintro e w1 ⟨rfl,hx⟩;have c0:w1.cell? ⟨w.heap.size,0,none⟩=some (.slice ra bn rc):=hx.j9 e8;have c2:w1.cell? ⟨w.heap.size,2,none⟩=some (.int .i64 (m:Int)):=hx.j9 e8;have X1:=ae hx;clear hx;go_wp2_with fail;refine(HV.o _ X1.o).mono ?_;rintro e w2 ⟨rfl,hx⟩;have X2:=ae ((uV.o.trans X1.o).trans hx);clear hx;go_wp2_with fail;refine bodyPost_ret (v:=.tuple #[.slice none 0 0,.bool false]) (by simp[results,Tryz.results231,go_sem]) rfl ⟨⟨.slice none 0 0,by rw[HN.o];rfl,by rw[HN.o];exact l9.nil _ _⟩,X2.o⟩
   ·simp only[hv]at HV;have HV2:=ae (show cost.all o9=true from hv);have zz:=ae (show ch ⟨rows,basis,(m:Int)⟩ cost=cG ⟨rows,basis,(m:Int)⟩ cost bn by rw[HE.o,RE.out,hv,Dl];simp);clear hv;go_enter Tryz.func231,Tryz.ntmps231
    go_wp2_with fail;refine HF.o.mono ?_;rintro e w1 ⟨rfl,hx⟩;have c0:w1.cell? ⟨w.heap.size,0,none⟩=some (.slice ra bn rc):=hx.j9 e8;have c2:w1.cell? ⟨w.heap.size,2,none⟩=some (.int .i64 (m:Int)):=hx.j9 e8;have X1:=ae hx;clear hx;go_wp2_with fail;refine(HV.o _ X1.o).mono ?_;rintro e w2 ⟨rfl,hx⟩;have X2:=ae (X1.o.trans hx);clear hx c0 c2;have zA:=ae (lm (L2.o.ext X2.o) e7);go_wp2_with fail;refine zA.o.mono ?_;rintro e w3 ⟨v3,rfl,O,hx⟩;obtain⟨a3,n3,p3,rfl,FF⟩:=O.var;have X3:=ae (X2.o.trans hx);have vi:=ae (O.mono (show w.heap.size+1<=w2.heap.size by have:=X2.o.size;simpa using this));clear hx O;go_wp2_with fail;refine(cv 0 _).mono ?_;rintro e w4 ⟨rfl,hx⟩;have X4:=ae (X3.o.trans hx);have wV:=ae (vi.o.ext hx);have PQ:w.heap.size+1<=w4.heap.size:=by have:=X4.o.size;simpa using this
    clear hx
    go_wp2_with (first
     | (at_builtin;refine aI rfl _ _ rfl (w.heap.size+1) (.slice a3 n3 p3) _ rfl (wV.o.ext (Ext.alloc _ _)) _ 1 _ [(0,1)] rfl (Rats.one' _ _ _ _ _ e8) (by rw[DQ.o];omega) (by simp;omega) ?_;intro v5 w5 ho hg l7;have X5:=ae (ak (X4.o.trans (Ext.alloc _ _)) hg (fun j hj=>by have:=(wV.o.lt j hj).1;simpa using this));obtain⟨a5,n5,p5,rfl,zj⟩:=ho.var;have vU:=ae ho;clear ho hg l7;have c0:w5.cell? ⟨w.heap.size,0,none⟩=some (.slice ra bn rc):=X5.o.j9 e8))
    go_loopg [6,38] bn (fun gk o ii wr=>∃(k:Nat) (a1:j6) (I p1:Nat) (cs:j4),b7 (gk+k=bn)/\ii=.int .i64 (k:Int)/\o=.slice a1 I p1/\b7 (cG ⟨rows,basis,(m:Int)⟩ cost k=some cs)/\b7 (l9 wr (w.heap.size+1) (.slice a1 I p1) cs)/\b7 (Ext (w.alloc (bT ra bn rc ba bn bc (m:Int))) wr))
    case atStart=>exact⟨0,_,_,_,_,ae e7,rfl,rfl,ae rfl,vU,X5⟩
    case round =>
     obtain⟨g1,o6⟩:=b9 gk;subst o6;obtain⟨o8,o4⟩:=b9 wr;subst o4;obtain⟨k,a1,I,p1,cs,HK,rfl,rfl,HC,HO,HX⟩:=hrel;clear c0;by_cases hlt:k<bn
     ·obtain⟨zb,vF,za,zn,zc,zX,xr,o7⟩:=(H.o.ext HX.o).rows.at hlt;subst zX;have ze:=ae o7;obtain⟨b,DO,LL⟩:=GX.o k hlt;obtain⟨yb,vB,Bs,AL⟩:=(H.o.ext HX.o).basis.at hlt;subst Bs;simp only[DO]at AL;obtain⟨xb,II,p,q,Om,vK,uS,vO⟩:=(L2.o.ext HX.o).at (show b<m+bn from LL);subst Om;have wI:=ae vK;have Vg:=ae DO;have c1:o8.cell? ⟨w.heap.size,1,none⟩=some (.slice (some ⟨yb,vB,none⟩) bn bc):=HX.o.j9 e8;have Ce:=ae (aL (p:=(p,q)) (by rw[<-wI.o,List.getElem?_eq_getElem (by rw[DQ.o];exact LL),Option.getD_some];exact(List.all_eq_true.1 HV2.o) _ (List.getElem_mem _)));have CV:-9223372036854775807<=p:=by have:=Ce.o.2.2.1;simp only at this;omega
      have Dk:p<=9223372036854775807:=by have:=Ce.o.2.2.2;simp only at this;omega
      have yw:=ae (jh HC.o);have hbl0:(b:Int)<((m+bn:Nat):Int):=by omega
      clear vK DO o7;go_wp2_with fail;refine(dS p q _ CV Dk).mono ?_;rintro e w6 ⟨rfl,hx⟩;have Z:=ae (HX.o.trans hx);have G:=ae (kg (k1:=-p) (k2:=q) ((HO.o.ext hx).uZ) (ze.o.ext hx) (by have:=(HO.o).uZ.hlen;have:=yw.o;have:=DQ.o;omega));obtain⟨sv,Es⟩:=b9 (xP cs (-p,q) (rows[k]?.getD []))
      have xh:=ae (show cG ⟨rows,basis,(m:Int)⟩ cost (k+1)=sv by
       rw[Es]
       show(cG ⟨rows,basis,(m:Int)⟩ cost k).bind _=_;rw[HC.o]
       show xP cs (uU (cost[(basis[k]?.getD 0).toNat]?.getD (0,0))) (rows[k]?.getD [])=_
       rw[show basis[k]?.getD 0=(b:Int)from Vg.o,Int.toNat_natCast,wI.o];rfl)
      rw[<-Es]at G;clear Es hx;cases sv with
      | none =>
        have HN:=ae (show ch ⟨rows,basis,(m:Int)⟩ cost=none by rw[zz.o];exact lq xh.o hlt);go_wp2_with fail;refine G.o.mono ?_;rintro e w7 ⟨⟨v7,rfl,K⟩,hx⟩;have X7:=ae ((uV.o.trans Z.o).trans hx);clear K hx;go_wp2_with fail;refine bodyPost_ret (v:=.tuple #[.slice none 0 0,.bool false]) (by simp[results,Tryz.results231,go_sem]) rfl ⟨⟨.slice none 0 0,by rw[HN.o];rfl,by rw[HN.o];exact l9.nil _ _⟩,X7.o⟩
      | some J =>
        go_wp2_with fail;refine G.o.mono ?_;rintro e w7 ⟨⟨v7,rfl,K⟩,hx⟩;obtain⟨a7,n7,p7,rfl,DP⟩:=K.var;have Fj:=ae (show l9 w7 (w.heap.size+1) (.slice a7 n7 p7) J from l9.mono K (by have:=Z.o.size;simpa using this));have X7:=ae (Z.o.trans hx);clear K hx;go_wp2_with fail
        go_roundg (g1-1)
        case measure=>have:=HK.o;omega
        case rel=>exact⟨k+1,a7,n7,p7,J,ae (j1 HK.o),by go_num,rfl,xh,Fj,X7⟩
     ·have vZ:bn=k:=by have:=HK.o;omega
      subst vZ;have HY:=ae (show ch ⟨rows,basis,(m:Int)⟩ cost=some cs by rw[zz.o];exact HC.o);go_wp2_with fail;refine bodyPost_ret (v:=.tuple #[.slice a1 I p1,.bool true]) (by simp[results,Tryz.results231,go_sem]) rfl ⟨⟨.slice a1 I p1,by rw[HY.o];rfl,by rw[HY.o];exact HO.o.mono (Nat.le_succ _)⟩,uV.o.trans HX.o⟩
  ·have hne:((E:Int) != (m:Int)+(bn:Int))=true:=by simp;omega
   have HN:=ae (show ch ⟨rows,basis,(m:Int)⟩ cost=none by rw[HE.o,decide_eq_false (by omega:¬(E:Int)=(m:Int)+(bn:Int))];simp);go_enter Tryz.func231,Tryz.ntmps231
   go_wp2_with fail;refine HF.o.mono ?_;rintro e w1 ⟨rfl,hx⟩;have c0:w1.cell? ⟨w.heap.size,0,none⟩=some (.slice ra bn rc):=hx.j9 e8;have c2:w1.cell? ⟨w.heap.size,2,none⟩=some (.int .i64 (m:Int)):=hx.j9 e8;have X1:=ae (uV.o.trans hx);clear hx;go_wp2_with fail;refine bodyPost_ret (v:=.tuple #[.slice none 0 0,.bool false]) (by simp[results,Tryz.results231,go_sem]) rfl ⟨⟨.slice none 0 0,by rw[HN.o];rfl,by rw[HN.o];exact l9.nil _ _⟩,X1.o⟩
end
theorem JC(x y:Int)(w:World):Calls Tryz.prog 252 #[wk x y] w fun e w'=>e=.returned (.int .i64 (vP (x,y) (0,1)))/\Ext w w':=by
 obtain⟨W,hW⟩:=b9 (w.alloc (.cells #[.int .i64 x,.int .i64 y] 62));have HX:=ae (show Ext w W by rw[hW];exact Ext.alloc _ _);have c0:W.cell? ⟨w.heap.size,0,none⟩=some (.int .i64 x):=by rw[hW];simp
 have c1:W.cell? ⟨w.heap.size,1,none⟩=some (.int .i64 y):=by rw[hW];simp
 go_enter Tryz.func252,Tryz.ntmps252
 go_upto_region 1 with fail;rw[<-hW];clear hW;have k7:Ext W W.drew:=Ext.drew W;have E:=k7;have k8:=ae (fun(w':World) (h:Ext W w')=>(⟨h.j9 c0,h.j9 c1,h⟩:w'.cell? ⟨w.heap.size,0,none⟩=some (.int .i64 x)/\w'.cell? ⟨w.heap.size,1,none⟩=some (.int .i64 y)/\Ext W w'))
 go_region_held3 (fun w'=>w'.cell? ⟨w.heap.size,0,none⟩=some (.int .i64 x)/\w'.cell? ⟨w.heap.size,1,none⟩=some (.int .i64 y)/\Ext W w')
  (with_reducible exact k8.o _ k7)
  (first
    | (go_at_call 71
       (with_reducible refine(cv 0 _).mono ?_)
       rintro e w3 ⟨rfl,I⟩;have k7:Ext W w3:=k7.trans I
       have Cr:=k7.size)
    | (go_at_call 73
       (with_reducible refine(gS x y 0 1 _).mono ?_)
       rintro e w4 ⟨rfl,G⟩;have k7:Ext W w4:=k7.trans G
       have DI:=k7.size)
    | fail)
 clear k8 E;go_wp2_with fail;go_ret;exact⟨rfl,HX.o.trans k7⟩
theorem tL(h:costs.length<m):aZ costs m=-1:=by unfold aZ;rw[if_pos e7]
theorem nd{j:Nat}(h:m<=costs.length)(E:j<m)(h0:(costs.take j).all (fun c=>!eG c)=true)(h1:eG (costs[j]?.getD (0,0))=true):aZ costs m=j:=by
 unfold aZ;rw[if_neg e7];refine eH (d:=(0,0)) (by simp;omega) (by rw[Int.toNat_natCast,List.take_take,Nat.min_eq_left e7];exact h0) ?_;rw[Int.toNat_natCast,List.getElem?_take,if_pos E];exact h1
theorem jZ(h:m<=costs.length)(h0:(costs.take m).all (fun c=>!eG c)=true):aZ costs m=-1:=by
 unfold aZ;rw[if_neg e7,Int.toNat_natCast];exact dL h0
theorem jY{j:Nat}{c:j8}(E:j<costs.length)(hc:costs[j]?.getD (0,0)=c)(h0:(costs.take j).all (fun c=>!eG c)=true)(h1:eG c=false):(costs.take (j+1)).all (fun c=>!eG c)=true:=by
 rw[fs E,List.all_append,h0,hc];simp[h1]
theorem kD{x:Int}{cap:Nat}(h:Rats w a n cap costs)(m:Nat)(hm:m<=100000):
 Calls Tryz.prog 232 #[CR ra rn rc ba bn bc x,.slice a n cap,.int .i64 (m:Int)] w fun e w'=>e=.returned (.int .i64 (aZ costs m))/\Ext w w':=by
 have uS:=Ext.alloc w (bT ra rn rc ba bn bc x);have uV:=ae uS;have H:=ae (h.ext uS);have xB:=h.l8;have zC:=h.o0;have HL:=ae h.hlen;clear h uS;by_cases Vv:n<m
 ·have HN:=ae (show aZ costs m=-1 from tL (by rw[HL.o];exact Vv));have AX:(m:Int) > (n:Int):=by omega
  go_enter Tryz.func232,Tryz.ntmps232
  go_wp2_with fail;go_ret;exact⟨aD HN.o.symm,uV.o⟩
 ·have hle:¬(m:Int) > (n:Int):=by omega
  go_enter Tryz.func232,Tryz.ntmps232
  go_wp2_with fail
  go_loopg [7] m (fun gk ii wr=>∃k:Nat,b7 (gk+k=m)/\ii=.int .i64 (k:Int)/\b7 ((costs.take k).all (fun c=>!eG c)=true)/\b7 (Ext (w.alloc (bT ra rn rc ba bn bc x)) wr))
  case atStart=>exact⟨0,ae e7,rfl,ae rfl,ae (Ext.refl _)⟩
  case round =>
   obtain⟨g1,W⟩:=b9 gk;subst W;obtain⟨U,Z⟩:=b9 wr;subst Z;obtain⟨k,E,rfl,HA,HX⟩:=hrel;by_cases hlt:k<m
   ·have I:k<n:=by omega
    obtain⟨zb,vF,p,q,O,J,xr,Cm⟩:=(H.o.ext HX.o).at I;subst O;have wI:=ae J;have HS:=ae (JC p q U);obtain⟨K,G⟩:=b9 (vP (p,q) (0,1));have A1:=ae (show eG (p,q)=decide (K<0)by rw[G];rfl);rw[<-G]at HS;clear J G;by_cases AO:K<0
    ·have HR:=ae (show aZ costs m=k from nd (by rw[HL.o];omega) hlt HA.o (by rw[wI.o,A1.o,decide_eq_true AO]));go_wp2_with fail;refine HS.o.mono ?_;rintro e w3 ⟨rfl,hx⟩;have X3:=ae (HX.o.trans hx);clear hx;go_wp2_with fail;go_ret;exact⟨aD HR.o.symm,uV.o.trans X3.o⟩
    ·have HT:=ae (jY (by rw[HL.o];exact I) wI.o HA.o (by rw[A1.o,decide_eq_false AO]));go_wp2_with fail;refine HS.o.mono ?_;rintro e w3 ⟨rfl,hx⟩;have X3:=ae (HX.o.trans hx);clear hx;go_wp2_with fail
     go_roundg (g1-1)
     case measure=>have:=E.o;omega
     case rel=>exact⟨k+1,ae (j1 E.o),by go_num,HT,X3⟩
   ·have Q:m=k:=by have:=E.o;omega
    subst Q;have HR:=ae (show aZ costs m=-1 from jZ (by rw[HL.o];omega) HA.o);go_wp2_with fail;go_ret;exact⟨aD HR.o.symm,uV.o.trans HX.o⟩
end Go.Proofs.YtdadoignenffgaaGreatDoor
