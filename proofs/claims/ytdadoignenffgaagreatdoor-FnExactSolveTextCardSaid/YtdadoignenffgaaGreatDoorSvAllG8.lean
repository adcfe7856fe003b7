import Derived.Test.YtdadoignenffgaaGreatDoorSvAllG3
import Derived.Test.YtdadoignenffgaaGreatDoorSvAllG7
import Derived.Test.YtdadoignenffgaaGreatDoorSvAllG6
import Derived.Lib.AppendStr
import Derived.Shelf.Strings.OnBuilder
import Derived.Test.YtdadoignenffgaaGreatDoorSvAllG1
set_option linter.unusedVariables false
set_option linter.unusedSimpArgs false
namespace Go.Proofs.YtdadoignenffgaaGreatDoor
variable{w:World}{base n k c j i d:Nat}{v:Value}{l:j4}{a:j6}{L:List (List UInt8)}{α:Type}{r m:j7}{M:j5}{B:Int}
set_option maxHeartbeats 16000000
open Go.RowKit
def yP(l:j4):List Value:=l.flatMap fun p=>[Value.int .i64 p.1,Value.int .i64 p.2]
theorem qQ(l E:j4):yP (l++E)=yP l++yP E:=by simp[yP]
theorem pF:∀(l:j4),∀u∈yP l,u.oneCell'=true
 | [],u,h=>by simp[yP]at h
 | p::l,u,h=>by
   simp only[yP,List.flatMap_cons,List.mem_append,List.mem_cons,List.not_mem_nil,or_false]at h
   rcases h with(rfl|rfl)|h
   ·rfl
   ·rfl
   ·exact pF l u h
def l9(w:World)(base:Nat)(v:Value)(l:j4):Prop:=w.ownsRow base 62 2 v l.length (yP l)
theorem l9.form(h:l9 w base v l):∃a cap,v=.slice a l.length cap/\l.length<=cap/\cap<=9223372036854775807:=by
 rcases h.2 with⟨rfl,h0⟩|⟨g,cap,cur,rfl,_,_,h1,h2,_⟩
 ·exact⟨none,0,by rw[h0],by omega,by omega⟩
 ·exact⟨_,cap,rfl,h1,by simpa[maxLen]using h2⟩
theorem l9.var(h:l9 w base v l):∃a n cap,v=.slice a n cap/\b7 (l.length=n):=by
 obtain⟨a,cap,e,_⟩:=h.form;exact⟨a,_,cap,e,rfl⟩
theorem l9.uZ{cap:Nat}(h:l9 w base (.slice a n cap) l):Rats w a n cap l:=by
 rcases h.2 with⟨he,h0⟩|⟨g,cap',cur,he,_,hg,h1,h2,hs,ht⟩
 ·simp only[Value.slice.injEq]at he;obtain⟨rfl,rfl,rfl⟩:=he;exact⟨h0,Nat.le_refl _,by omega,fun k hk=>absurd hk e7⟩
 ·simp only[Value.slice.injEq]at he;obtain⟨rfl,rfl,rfl⟩:=he;refine⟨rfl,h1,by simpa[maxLen]using h2,fun k hk=>⟨g,0,rfl,fun k hk=>?_⟩⟩;rw[Nat.zero_add,cell_of_row w g _ cur _ (0,0) hg,cell_of_row w g _ cur _ (0,0) hg];obtain⟨q1,E⟩:=mt l k hk;change(yP l)[k*2]?=_ at q1;change(yP l)[k*2+1]?=_ at E;rw[<-ht,List.getElem?_take,if_pos e7]at q1 E;exact⟨by simpa using q1,by simpa using E⟩
theorem l9.lt(h:l9 w base v l):∀k,v.ownBlock=some k->base<=k/\k<w.heap.size:=World.ownsRow.lt h
theorem l9.keep{w':World}(h:l9 w base v l)(hk:∀k,v.ownBlock=some k->w'.heap[k]?=w.heap[k]?):l9 w' base v l:=by
 refine⟨h.1,?_⟩
 rcases h.2 with hn|⟨g,cap,cur,rfl,hb,E,rest⟩
 ·exact .inl hn
 ·exact .inr ⟨g,cap,cur,rfl,hb,(hk g rfl).trans E,rest⟩
theorem l9.ext{w':World}(h:l9 w base v l)(hx:Ext w w'):l9 w' base v l:=h.keep fun k hk=>hx.block k (h.lt k hk).2
theorem l9.on(h:l9 w base v l):On base w (fun W=>l9 W base v l):=fun w2 h2=>h.keep fun k hk=>h2 k (h.lt k hk).1 (h.lt k hk).2
theorem l9.mono{base':Nat}(h:l9 w base v l)(hb:base'<=base):l9 w base' v l:=by
 refine⟨h.1,?_⟩
 rcases h.2 with hn|⟨g,cap,cur,rfl,xS,rest⟩
 ·exact .inl hn
 ·exact .inr ⟨g,cap,cur,rfl,by omega,rest⟩
theorem l9.nil(w:World)(base:Nat):l9 w base (.slice none 0 0) []:=World.ownsRow_nil w base _ 2
section
variable{P:Program}{w:World}{ops:Array Oper}{rest:List Oper}{o:Oper}{a:Act}{Q:Exit->Act->World->Prop}
theorem cU{K:Act->World->Prop}(s x:Operand)(ho:o.op=.call { callee:=.builtin .append,args:=#[s,x],argTypes:=#[35,35] })
 (base:Nat) (v:Value) (l:j4) (hs:a.eval s=v) (U:l9 w base v l) (W:j6) (m c:Nat) (E:j4) (hx:a.eval x=.slice W m c) (I:Rats w W m c E) (hb:l.length+m<=1099511627776) (G:base<=w.heap.size)
 (h:∀J w',l9 w' base J (l++E)->w.grownBy w' v.ownBlock->y9 w v J->K (a.put o.dst J) w'):o.wp Tryz.prog a w K Q:=by
 obtain⟨i,hi,xr,Cm,A4⟩:=info_parts Tryz.MG;cases W with
 | none =>
   have hm:m=0:=by
    rcases Nat.eq_zero_or_pos m with h0|h0
    ·exact h0
    ·obtain⟨b,off,e,_⟩:=I.cell 0 h0;cases e
   subst hm;have hl:E=[]:=List.eq_nil_of_length_eq_zero I.hlen;subst hl;refine eU w s x 35 ho base 62 i 2 Tryz.underlying35 hi v l.length _ hs U c hx ?_;exact h v w (by simpa using U) (World.grownBy.refl _ _) (y9.refl _ _)
 | some ad =>
   refine el w s x 35 ho base 62 i (.agg #[.int .i64 0,.int .i64 0]) 2 16 Tryz.underlying35 hi xr Cm A4 rfl (by decide) v l.length (yP l) hs U ad m c (yP E) hx (by have:=kz E;have:=I.hlen;unfold yP;omega) ?_ (pF E) (by simp[maxLen];omega) e7 G ?_
   ·intro j u hu;have yW:j<E.length*2:=by
     have:=(List.getElem?_eq_some_iff.1 hu).1;have h2:=kz E;unfold yP at this;omega
    have hml:=I.hlen;obtain⟨b,off,e,hc⟩:=I.cell (j/2) e7;simp only[Option.some.injEq]at e;subst e;obtain⟨c1,c2⟩:=hc (j/2) e7;obtain⟨q1,Z⟩:=mt E (j/2) e7;change(yP E)[j/2*2]?=_ at q1;change(yP E)[j/2*2+1]?=_ at Z;have O:j=j/2*2∨j=j/2*2+1:=by omega
    have ha:∀k,(⟨b,off,none⟩:Addr).add k=⟨b,off+k,none⟩:=fun k=>by unfold Addr.add;split<;>simp_all
    rw[ha]
    rcases O with O|O
    ·rw[O]at hu⊢;rw[q1]at hu;rw[c1,<-hu]
    ·rw[O]at hu⊢;rw[Z]at hu;rw[<-Nat.add_assoc,c2,<-hu]
   ·intro J w' h1 h2 h3;refine h J w' ?_ h2 h3;unfold l9;rw[List.length_append,I.hlen,qQ];exact h1
theorem aI(U:o.guard=none)(s x:Operand)(O:o.op=.call { callee:=.builtin .append,args:=#[s,x],argTypes:=#[35,35] })
 (base:Nat) (v:Value) (l:j4) (hs:a.eval s=v) (K:l9 w base v l) (J:j6) (m c:Nat) (I:j4) (hx:a.eval x=.slice J m c) (W:Rats w J m c I) (hb:l.length+m<=1099511627776) (E:base<=w.heap.size)
 (h:∀G w',l9 w' base G (l++I)->w.grownBy w' v.ownBlock->y9 w v G->wpList Tryz.prog ops Q rest (a.put o.dst G) w'):wpList Tryz.prog ops Q (o::rest) a w :=
 wpList_plain U fun _ hK=>cU s x O base v l hs K J m c I hx W hb E fun G w' h1 h2 h3=>hK _ _ (h G w' h1 h2 h3)
end
theorem l9.made(w:World)(base:Nat)(hb:base<=w.heap.size):l9 (w.alloc (.cells #[] 62)) base (.slice (some ⟨w.heap.size,0,none⟩) 0 0) [] :=
 World.ownsRow_lit w #[] 0 hb e7 rfl
theorem Rats.one(w:World)(x y:Int)(t:TypeId):Rats (w.alloc (.cells #[.int .i64 x,.int .i64 y] t)) (some ⟨w.heap.size,0,none⟩) 1 1 [(x,y)] :=
 ⟨rfl,Nat.le_refl _,by omega,fun k hk=>⟨_,0,rfl,fun k hk=>by
  obtain rfl:k=0:=by omega
  simp⟩⟩
theorem Rats.one'(w:World)(x y:Int)(t:TypeId)(n:Nat)(hn:n=w.heap.size):Rats (w.alloc (.cells #[.int .i64 x,.int .i64 y] t)) (some ⟨n,0,none⟩) 1 1 [(x,y)]:=by
 subst hn;exact Rats.one w x y t
theorem l9.set{g cap:Nat}(h:l9 w base (.slice (some ⟨g,0,none⟩) n cap) l)(hk:k<l.length)(x y:Int):
 l9 ((w.setCell ⟨g,k*2,none⟩ (.int .i64 x)).setCell ⟨g,k*2+1,none⟩ (.int .i64 y)) base (.slice (some ⟨g,0,none⟩) n cap) (l.set k (x,y)):=by
 obtain⟨a',c',he,_⟩:=l9.form h;simp only[Value.slice.injEq]at he;obtain⟨_,rfl,_⟩:=he;have h1:=(World.ownsRow.stored h (k*2) (.int .i64 x)).1;have h2:=(World.ownsRow.stored h1 (k*2+1) (.int .i64 y)).1;unfold l9;rw[List.length_set];have e:=oP l k x y hk;change _=yP (l.set k (x,y))at e;rw[<-e];exact h2
theorem l9.block{cap:Nat}(h:l9 w base (.slice a n cap) l)(hk:k<n):∃g,a=some ⟨g,0,none⟩/\base<=g/\(∀j,w.frozen? ⟨g,j,none⟩=false)/\g<w.heap.size:=by
 rcases h.2 with⟨he,h0⟩|⟨g,cap',cur,he,hb,hg,_⟩
 ·simp only[Value.slice.injEq]at he;omega
 ·simp only[Value.slice.injEq]at he;obtain⟨rfl,_⟩:=he;exact⟨g,rfl,hb,fun j=>frozen_of_row w g j cur _ hg,lt_of_block hg⟩
set_option maxRecDepth 100000
theorem qI {w: World}(x y : Int)(ht : Lib.TabIs Tryz.prog w "internal/strconv.uint64pow10" .u64 Lib.pow10Tab) :
 Calls Tryz.prog 77 #[wk x y] w fun e w'=>e=.returned (.string (bs (wO (x,y))))/\Ext w w':=by
 have HX:=ae (Ext.alloc w (.cells #[.int .i64 x,.int .i64 y] 62));have HT:=ae ht;clear ht;have HC:=ae (fun w=>ap x y w);cases hv:o9 (x,y)
 ·rw[hv]at HC;have HR:=ae (show wO (x,y)=[]by unfold wO;rw[hv];rfl);clear hv;go_enter Tryz.func77,Tryz.ntmps77
  go_wp2_with fail;refine(HC.o _).mono ?_;rintro e w1 ⟨rfl,hx⟩;have X1:=ae (HX.o.trans hx);clear hx;go_wp2_with fail;go_ret;exact⟨bS (by rw[HR.o];rfl),X1.o⟩
 ·rw[hv]at HC;have hb:(1<=y/\y<=1000000000)/\(-1000000000<=x/\x<=1000000000):=by
   have:=hv;simp only[o9,r',Bool.and_eq_true,decide_eq_true_eq]at this;omega
  have HB:=ae hb;have Rl:=ae (fun(w':World) (hx:Ext w w')=>fk (w:=w') x e7 e7 (eS HT.o hx));have U7:=ae (fun(w':World) (hx:Ext w w')=>fk (w:=w') y e7 e7 (eS HT.o hx));have MU:(bs (Lib.itoa x)).size<=21:=by rw[aQ];exact Lib.itoa_length_le x e7 e7
  have WU:(bs (Lib.itoa y)).size<=21:=by rw[aQ];exact Lib.itoa_length_le y e7 e7
  clear hb;by_cases h1:y=1
  ·subst h1;have HR:=ae (show wO (x,1)=Lib.itoa x by unfold wO;rw[hv];rfl);clear hv;have G0:=ae (show(w.alloc (.cells #[.int .i64 x,.int .i64 1] 62)).cell? ⟨w.heap.size,0,none⟩=some (.int .i64 x)by simp);have G1:=ae (show(w.alloc (.cells #[.int .i64 x,.int .i64 1] 62)).cell? ⟨w.heap.size,1,none⟩=some (.int .i64 1)by simp);go_enter Tryz.func77,Tryz.ntmps77
   go_wp2_with fail;refine(HC.o _).mono ?_;rintro e w1 ⟨rfl,hx⟩;have X1:=ae (HX.o.trans hx);have g0:=hx.j9 G0.o;have g1:=hx.j9 G1.o;clear hx;go_wp2_with fail;refine(Rl.o _ X1.o).mono ?_;rintro e w2 ⟨rfl,hx⟩;have X2:=ae (X1.o.trans hx);clear hx g0 g1;go_wp2_with fail;go_ret;exact⟨bS (by rw[HR.o]),X2.o⟩
  ·have HR:=ae (show wO (x,y)=Lib.itoa x++([47]++Lib.itoa y)by unfold wO;rw[hv,if_pos rfl,if_neg h1]);have hne:(y == 1)=false:=by simp[h1]
   clear hv;have G0:=ae (show(w.alloc (.cells #[.int .i64 x,.int .i64 y] 62)).cell? ⟨w.heap.size,0,none⟩=some (.int .i64 x)by simp);have G1:=ae (show(w.alloc (.cells #[.int .i64 x,.int .i64 y] 62)).cell? ⟨w.heap.size,1,none⟩=some (.int .i64 y)by simp);obtain⟨tx,BG⟩:=b9 (bs (Lib.itoa x));obtain⟨ty,PH⟩:=b9 (bs (Lib.itoa y))
   have HJ:=ae (show tx++{ data:=#[47] }++ty=bs (wO (x,y))by
    rw[HR.o,BG,PH]
    show bs _++bs [47]++bs _=_
    rw[bG,bG,List.append_assoc])
   rw[<-BG]at Rl MU;rw[<-PH]at U7 WU;clear BG PH h1;go_enter Tryz.func77,Tryz.ntmps77
   go_wp2_with fail;refine(HC.o _).mono ?_;rintro e w1 ⟨rfl,hx⟩;have X1:=ae (HX.o.trans hx);have g0:=hx.j9 G0.o;have g1:=hx.j9 G1.o;clear hx;go_wp2_with fail;have xL:¬9223372036854775807<tx.size+1:=by omega
   have wU:¬9223372036854775807<tx.size+1+ty.size:=by omega
   have k7:Ext w1 w1.drew:=Ext.drew w1;have vt:=k7;have k8:=ae (fun(w':World) (h:Ext w1 w')=>(⟨h.j9 g0,h.j9 g1,h⟩:w'.cell? ⟨w.heap.size,0,none⟩=some (.int .i64 x)/\w'.cell? ⟨w.heap.size,1,none⟩=some (.int .i64 y)/\Ext w1 w'));go_wp2_with fail
   go_region_held3 (fun w'=>w'.cell? ⟨w.heap.size,0,none⟩=some (.int .i64 x)/\w'.cell? ⟨w.heap.size,1,none⟩=some (.int .i64 y)/\Ext w1 w')
    (with_reducible exact k8.o _ k7)
    (first
      | (go_at_call 23
         (with_reducible refine(Rl.o _ (X1.o.trans (by first|with_reducible exact k7|with_reducible exact vt|with_reducible exact k7.trans (Ext.alloc _ _)))).mono ?_)
         rintro e w3 ⟨rfl,r9⟩;have k7:Ext w1 w3:=k7.trans r9
         have Cr:=k7.size)
      | (go_at_call 23
         (with_reducible refine(U7.o _ (X1.o.trans (by first|with_reducible exact k7|with_reducible exact vt|with_reducible exact k7.trans (Ext.alloc _ _)))).mono ?_)
         rintro e w4 ⟨rfl,uX⟩;have k7:Ext w1 w4:=k7.trans uX
         have DI:=k7.size)
      | fail)
   clear k8 vt;go_wp2_with fail;go_ret;exact⟨bS HJ.o,X1.o.trans k7⟩
theorem qS(x y:Int):
 Calls Tryz.prog 52 #[wk x y] w fun e w'=>e=.returned (.string (bs (wO (x,y))))/\Ext w w':=by
 have HX:=ae (Ext.alloc w (.cells #[.int .i64 x,.int .i64 y] 62));have HC:=ae (fun w=>aw x y w);cases hv:o9 (x,y)
 ·rw[hv]at HC;have HR:=ae (show wO (x,y)=[]by unfold wO;rw[hv];rfl);clear hv;go_enter Tryz.func52,Tryz.ntmps52
  go_wp2_with fail;refine(HC.o _).mono ?_;rintro e w1 ⟨rfl,hx⟩;have X1:=ae (HX.o.trans hx);clear hx;go_wp2_with fail;go_ret;exact⟨bS (by rw[HR.o];rfl),X1.o⟩
 ·rw[hv]at HC;have hb:(1<=y/\y<=1000000000)/\(-1000000000<=x/\x<=1000000000):=by
   have:=hv;simp only[o9,r',Bool.and_eq_true,decide_eq_true_eq]at this;omega
  have HB:=ae hb;have I:=ae (fun(w':World) (hx:Ext w w')=>eI (w:=w') x e7 e7);have W:=ae (fun(w':World) (hx:Ext w w')=>eI (w:=w') y e7 e7);have MU:(bs (Lib.itoa x)).size<=21:=by rw[aQ];exact Lib.itoa_length_le x e7 e7
  have WU:(bs (Lib.itoa y)).size<=21:=by rw[aQ];exact Lib.itoa_length_le y e7 e7
  clear hb;by_cases h1:y=1
  ·subst h1;have HR:=ae (show wO (x,1)=Lib.itoa x by unfold wO;rw[hv];rfl);clear hv;have O:=ae (show(w.alloc (.cells #[.int .i64 x,.int .i64 1] 62)).cell? ⟨w.heap.size,0,none⟩=some (.int .i64 x)by simp);have K:=ae (show(w.alloc (.cells #[.int .i64 x,.int .i64 1] 62)).cell? ⟨w.heap.size,1,none⟩=some (.int .i64 1)by simp);go_enter Tryz.func52,Tryz.ntmps52
   go_wp2_with fail;refine(HC.o _).mono ?_;rintro e w1 ⟨rfl,hx⟩;have X1:=ae (HX.o.trans hx);have g0:=hx.j9 O.o;have g1:=hx.j9 K.o;clear hx;go_wp2_with fail;refine(I.o _ X1.o).mono ?_;rintro e w2 ⟨rfl,hx⟩;have X2:=ae (X1.o.trans hx);clear hx g0 g1;go_wp2_with fail;go_ret;exact⟨bS (by rw[HR.o]),X2.o⟩
  ·have HR:=ae (show wO (x,y)=Lib.itoa x++([47]++Lib.itoa y)by unfold wO;rw[hv,if_pos rfl,if_neg h1]);have hne:(y == 1)=false:=by simp[h1]
   clear hv;have O:=ae (show(w.alloc (.cells #[.int .i64 x,.int .i64 y] 62)).cell? ⟨w.heap.size,0,none⟩=some (.int .i64 x)by simp);have K:=ae (show(w.alloc (.cells #[.int .i64 x,.int .i64 y] 62)).cell? ⟨w.heap.size,1,none⟩=some (.int .i64 y)by simp);obtain⟨G,U⟩:=b9 (bs (Lib.itoa x));obtain⟨ty,J⟩:=b9 (bs (Lib.itoa y))
   have HJ:=ae (show G++{ data:=#[47] }++ty=bs (wO (x,y))by
    rw[HR.o,U,J]
    show bs _++bs [47]++bs _=_
    rw[bG,bG,List.append_assoc])
   rw[<-U]at I MU;rw[<-J]at W WU;clear U J h1;go_enter Tryz.func52,Tryz.ntmps52
   go_wp2_with fail;refine(HC.o _).mono ?_;rintro e w1 ⟨rfl,hx⟩;have X1:=ae (HX.o.trans hx);have g0:=hx.j9 O.o;have g1:=hx.j9 K.o;clear hx;go_wp2_with fail;have xL:¬9223372036854775807<G.size+1:=by omega
   have wU:¬9223372036854775807<G.size+1+ty.size:=by omega
   have k7:Ext w1 w1.drew:=Ext.drew w1;have E:=k7;have k8:=ae (fun(w':World) (h:Ext w1 w')=>(⟨h.j9 g0,h.j9 g1,h⟩:w'.cell? ⟨w.heap.size,0,none⟩=some (.int .i64 x)/\w'.cell? ⟨w.heap.size,1,none⟩=some (.int .i64 y)/\Ext w1 w'));go_wp2_with fail
   go_region_held3 (fun w'=>w'.cell? ⟨w.heap.size,0,none⟩=some (.int .i64 x)/\w'.cell? ⟨w.heap.size,1,none⟩=some (.int .i64 y)/\Ext w1 w')
    (with_reducible exact k8.o _ k7)
    (first
      | (go_at_call 16
         (with_reducible refine(I.o _ (X1.o.trans (by first|with_reducible exact k7|with_reducible exact E|with_reducible exact k7.trans (Ext.alloc _ _)))).mono ?_)
         rintro e w3 ⟨rfl,r9⟩;have k7:Ext w1 w3:=k7.trans r9
         have Cr:=k7.size)
      | (go_at_call 16
         (with_reducible refine(W.o _ (X1.o.trans (by first|with_reducible exact k7|with_reducible exact E|with_reducible exact k7.trans (Ext.alloc _ _)))).mono ?_)
         rintro e w4 ⟨rfl,Z⟩;have k7:Ext w1 w4:=k7.trans Z
         have DI:=k7.size)
      | fail)
   clear k8 E;go_wp2_with fail;go_ret;exact⟨bS HJ.o,X1.o.trans k7⟩
theorem KH(l:List UInt8):Lib.strCells (bs l)=D5.all l:=by
 unfold Lib.strCells Enc.all
 show(bs l).data.toList.map _=l.flatMap fun c=>[Value.int .u8 (c.toNat:Int)]
 rw[<-List.map_eq_flatMap]
 rfl
theorem iE{P:Program}{w:World}{ops:Array Oper}{rest:List Oper}{o:Oper}{a:Act}{Q:Exit->Act->World->Prop}{t O K:TypeId}(G:(P.info? t).map (fun i=>(i.zero,i.size,i.bytes))=some (some (.int .u8 0),1,1))(ht:P.underlying O=some (.slice t))(hu:P.underlying K=some .string)(D0:o.guard=none)
 (s x:Operand) (Z:o.op=.call { callee:=.builtin .append,args:=#[s,x],argTypes:=#[O,K] })
 (base:Nat) (v:Value) (l:List UInt8) (hs:a.eval s=v) (W:uT D5 t w base v l) (I:List UInt8) (hx:a.eval x=.string (bs I)) (hb:l.length+I.length<=1099511627776) (E:base<=w.heap.size)
 (h:∀J w',uT D5 t w' base J (l++I)->w.grownBy w' v.ownBlock->wpList P ops Q rest (a.put o.dst J) w'):wpList P ops Q (o::rest) a w:=by
 obtain⟨i,hi,U,Cm,A4⟩:∃i,P.info? t=some i/\i.zero=some (.int .u8 0)/\i.size=1/\i.bytes=1:=by
  cases hq:P.info? t with
  | none=>rw[hq]at G;simp at G
  | some i=>rw[hq]at G;simp at G;exact⟨i,rfl,G.1,G.2.1,G.2.2⟩
 refine Lib.wpList_append_own_string w D0 s x O K Z base t i ht hu hi U Cm A4 v l.length (D5.all l) hs W (bs I) hx (by rw[aQ];simp[maxLen];omega) (by rw[aQ];omega) E fun J w' h1 h2 _=>h J w' ?_ h2
 unfold uT;rw[List.length_append,D5.all_append,<-KH I,<-aQ I];exact h1
theorem rW{cap:Nat}{l:List UInt8}(h:uT D5 5 w base (.slice a n cap) l):(convert 26 9 (.slice a n cap)).run Tryz.prog w=.ok (.string (bs l)) w:=by
 have hl:=h.A2.hlen;by_cases h0:n=0
 ·subst h0;obtain rfl:=List.eq_nil_of_length_eq_zero hl;cases a with
  | none =>
    rw[run_convert_bytes_string w 26 9 5 none 0 cap Tryz.underlying26 Tryz.underlying5 Tryz.underlying9]
    rfl
  | some ad=>exact run_convert_bytes_back (P:=Tryz.prog) w 26 9 5 ad cap [] Tryz.underlying26 Tryz.underlying5 Tryz.underlying9 (fun j hj=>absurd hj (Nat.not_lt_zero _))
 ·obtain⟨b,off,x,rfl,_⟩:=h.A2.at (k:=0) e7;obtain⟨b',off',e,hc⟩:=h.A2.cell 0 e7;simp only[Option.some.injEq,Addr.mk.injEq,and_true]at e;obtain⟨rfl,rfl⟩:=e;rw[<-hl]
  exact run_convert_bytes_back (P:=Tryz.prog) w 26 9 5 ⟨b,off,none⟩ cap l Tryz.underlying26 Tryz.underlying5 Tryz.underlying9 (fun j hj=>by
   have h1:=hc j _ 0 _ (List.getElem?_eq_getElem hj) rfl;simp only[Addr.add_lit]
   simpa[D5]using h1)
theorem dD{b o cap:Nat}{l:List (List UInt8)}(h:yM vI w (some ⟨b,o,none⟩) n cap l){x:List UInt8}(hk:l[k]?=some x):w.cell? ⟨b,o+k,none⟩=some (.string (bs x)):=by
 have hlt:k<n:=by rw[<-h.hlen];exact(List.getElem?_eq_some_iff.1 hk).1
 obtain⟨b',o',e,hc⟩:=h.cell k hlt;simp only[Option.some.injEq,Addr.mk.injEq,and_true]at e;obtain⟨rfl,rfl⟩:=e
 simpa[vI]using hc k x 0 _ hk rfl
theorem Tryz.infoByte:(Tryz.prog.info? 5).map (fun i=>(i.zero,i.size,i.bytes))=some (some (.int .u8 0),1,1):=by kernel_rfl
theorem MF{cap:Nat}(h:uT vI 9 w base (.slice a n cap) L)(sep:List UInt8)(hn:n<=1000000)(hlen:(Lib.join L sep).length<=140737488355328):
 Calls Tryz.prog 132 #[.slice a n cap,.string (bs sep)] w fun e w'=>e=.returned (.string (bs (Lib.join L sep)))/\Ext w w':=by
 have hl:L.length=n:=h.A2.hlen;by_cases h0:n=0
 ·subst h0;obtain rfl:=List.eq_nil_of_length_eq_zero hl;exact(Any.strings_Join_none pk ng a cap (bs sep) w).mono fun e w' ⟨he,hw⟩=>⟨he,hw▸Ext.refl _⟩
 ·obtain⟨g,rfl,_,_,hg⟩:=h.block (k:=0) e7;have hm:(L.map bs).map (·.data.toList)=L:=by
   rw[List.map_map];exact List.map_id L
  obtain⟨b,off,e,hc⟩:=h.A2.cell 0 e7;simp only[Option.some.injEq,Addr.mk.injEq,and_true]at e;obtain⟨rfl,rfl⟩:=e
  have H:=Any.strings_Join pk ng g 0 cap (L.map bs) (bs sep) w (fun j x hj=>by
   rw[List.getElem?_map,Option.map_eq_some_iff]at hj;obtain⟨y,hy,rfl⟩:=hj
   simpa[vI]using hc j y 0 _ hy rfl) hg (by rw[List.length_map];omega) (by rw[List.length_map,hl];exact h.A2.l8) (by rw[hm];exact hlen)
  rw[List.length_map,hl,hm]at H;exact H
theorem Px{cap:Nat}(h:uT vI 9 w base (.slice a n cap) L)(sep:List UInt8)(hn:n<=1000000)(hlen:(Lib.join L sep).length<=140737488355328):
 Calls Tryz.prog 78 #[.slice a n cap,.string (bs sep)] w fun e w'=>e=.returned (.string (bs (Lib.join L sep)))/\Ext w w':=by
 have H:=ae (MF h sep hn hlen);clear h hlen;go_enter Tryz.func78,Tryz.ntmps78
 go_wp2_with fail;refine H.o.mono ?_;rintro e w1 ⟨rfl,hx⟩;have X1:=ae hx;clear hx;go_wp2_with fail;go_ret;exact⟨rfl,X1.o⟩
theorem np{sep:List UInt8}{x:List UInt8}(hx:L[k]?=some x):Lib.join (L.take (k+1)) sep=(Lib.join (L.take k) sep++if k=0 then [] else sep)++x:=by
 rw[es hx];by_cases h0:k=0
 ·subst h0;rw[if_pos rfl];simp[Lib.join_one,Lib.join_nil]
 ·rw[if_neg h0,tV];intro e;have:=congrArg List.length e;have hk:=(List.getElem?_eq_some_iff.1 hx).1;rw[List.length_take,List.length_nil]at this;omega
theorem oy(L:List (List UInt8))(sep:List UInt8):∀k,k<=L.length->(Lib.join (L.take k) sep).length<=(Lib.join L sep).length:=by
 intro k hk;obtain⟨d,hd⟩:∃d,k+d=L.length:=⟨L.length-k,by omega⟩
 induction d generalizing k with
 | zero =>
   rw[List.take_of_length_le e7];exact Nat.le_refl _
 | succ d ih =>
   have h1:=ih (k+1) e7 e7;have E:k<L.length:=by omega
   rw[np (List.getElem?_eq_getElem E),List.length_append,List.length_append]at h1;omega
theorem Pq{cap:Nat}(h:uT vI 9 w base (.slice a n cap) L)(sep:List UInt8)(hn:n<=1000000)(hlen:(Lib.join L sep).length+sep.length<=1099511627776):
 Calls Tryz.prog 53 #[.slice a n cap,.string (bs sep)] w fun e w'=>e=.returned (.string (bs (Lib.join L sep)))/\Ext w w':=by
 have HL:=ae h.A2.hlen;have Td:=h.A2.l8;have D2:=h.A2.o0;have HS:=ae (fun(w':World) (hx:Ext w w')=>h.A2.ext hx);have HO:=ae (uT.wJ D5 5 w w.heap.size _ rfl (Nat.le_refl _));have Z:=ae (fun(k:Nat) (hk:k<=n)=>(show(Lib.join (L.take k) sep).length+sep.length<=1099511627776 by have:=oy L sep k (by rw[HL.o];exact hk);omega));clear h hlen;go_enter Tryz.func53,Tryz.ntmps53
 go_wp2_with fail
 go_loopg [5,6] n (fun gk oo ii wr=>∃(k m G:Nat) (b:j6),b7 (gk+k=n)/\oo=.slice b m G/\ii=.int .i64 (k:Int)/\b7 (uT D5 5 wr w.heap.size (.slice b m G) (Lib.join (L.take k) sep))/\b7 (Ext w wr))
 case atStart=>exact⟨0,0,0,_,ae e7,rfl,rfl,HO,ae (Ext.alloc _ _)⟩
 case round =>
  obtain⟨g1,o6⟩:=b9 gk;subst o6;obtain⟨wr,wR⟩:=b9 wr;subst wR;obtain⟨k,m,G,b,I,rfl,rfl,HB,HX⟩:=hrel;have Tn:(0:Int)<=(k:Int):=by omega
  by_cases hlt:k<n
  ·have Aq:(k:Int)<(n:Int):=by omega
   obtain⟨lb,lo,x,rfl,U,Cy⟩:=(HS.o _ HX.o).at hlt;have Gr:=ae (fun(w':World) (hx:Ext w w')=>dD (HS.o _ hx) U);have HJ:=ae (np (sep:=sep) U);have L3:=ae (show(Lib.join (L.take (k+1)) sep).length<=1099511627776 by have:=Z.o (k+1) e7;omega);have W:=ae (Z.o k e7);clear Cy U;by_cases h0:k=0
   ·have BU:¬(0:Int)<(k:Int):=by omega
    have U6:=ae (show Lib.join (L.take (k+1)) sep=Lib.join (L.take k) sep++x by rw[HJ.o,if_pos h0,List.append_nil]);have E:=Gr.o _ HX.o;clear h0;go_wp2_with (first|(at_builtin;refine iE Tryz.infoByte Tryz.underlying26 Tryz.underlying9 rfl _ _ rfl w.heap.size (.slice b m G) (Lib.join (L.take k) sep) rfl HB.o x rfl (by have:=L3.o;rw[U6.o,List.length_append]at this;exact this) HX.o.size ?_;intro v6 w6 ho hg;obtain⟨O,K,c6,rfl,Eh⟩:=ho.var;rw[<-U6.o]at ho;have J:=ae ho;have BA:=ae (ak HX.o hg (fun j hj=>(HB.o.lt j hj).1));clear ho hg))
    go_roundg (g1-1)
    case measure=>have:=I.o;omega
    case rel=>exact⟨k+1,K,c6,O,ae (j1 I.o),rfl,by go_num,J,BA⟩
   ·have BU:(0:Int)<(k:Int):=by omega
    have U6:=ae (show Lib.join (L.take (k+1)) sep=Lib.join (L.take k) sep++sep++x by rw[HJ.o,if_neg h0]);clear h0;have E:=Gr.o _ HX.o
    go_wp2_with (first
     | (at_builtin;refine iE Tryz.infoByte Tryz.underlying26 Tryz.underlying9 rfl _ _ rfl w.heap.size (.slice b m G) (Lib.join (L.take k) sep) rfl HB.o sep rfl W.o HX.o.size ?_;intro v5 w5 ho hg;obtain⟨a5,n5,c5,rfl,zj⟩:=ho.var;have vU:=ae ho;have AH:=ae (ak HX.o hg (fun j hj=>(HB.o.lt j hj).1));have YA:=Gr.o _ AH.o;clear E;clear ho hg)
     | (at_builtin;refine iE Tryz.infoByte Tryz.underlying26 Tryz.underlying9 rfl _ _ rfl w.heap.size (.slice a5 n5 c5) (Lib.join (L.take k) sep++sep) rfl vU.o x rfl (by have:=L3.o;rw[U6.o,List.length_append]at this;exact this) AH.o.size ?_;intro v6 w6 ho hg;obtain⟨O,K,c6,rfl,Eh⟩:=ho.var;rw[<-U6.o]at ho;have J:=ae ho;have BA:=ae (ak AH.o hg (fun j hj=>(vU.o.lt j hj).1));clear ho hg))
    go_roundg (g1-1)
    case measure=>have:=I.o;omega
    case rel=>exact⟨k+1,K,c6,O,ae (j1 I.o),rfl,by go_num,J,BA⟩
  ·have vZ:k=n:=by have:=I.o;omega
   have HCV:=ae (rW HB.o);have HE:=ae (show L.take k=L from List.take_of_length_le (by rw[HL.o];omega));have Aq:¬(k:Int)<(n:Int):=by omega
   have hcv:=HCV.o;clear vZ;go_wp2_with fail;go_ret;exact⟨bS (by rw[HE.o]),HX.o⟩
def wP(M:j5)(c d:Nat):Nat:=match (M.drop d).findIdx? (fun r=>r[c]?.getD 0 != 0)with|some k=>d+k|none=>M.length
def swp{α:Type}[Inhabited α](l:List α)(a b:Nat):List α:=(l.set a (l[b]?.getD default)).set b (l[a]?.getD default)
theorem cI[Inhabited α](l:List α)(a b:Nat):(swp l a b).length=l.length:=by simp[swp]
theorem hU[Inhabited α]{l:List α}{a b:Nat}(ha:a<l.length)(hb:b<l.length)(i:Nat):(swp l a b)[i]?.getD default=if i=b then l[a]?.getD default else if i=a then l[b]?.getD default else l[i]?.getD default:=by
 unfold swp;by_cases h1:i=b
 ·subst h1;rw[if_pos rfl];simp[hb]
 ·rw[if_neg h1,List.getElem?_set_ne (Ne.symm h1)];by_cases h2:i=a
  ·subst h2;rw[if_pos rfl];simp[ha]
  ·rw[if_neg h2,List.getElem?_set_ne (Ne.symm h2)]
theorem IP[Inhabited α](l:List α){a b:Nat}(ha:a<l.length)(hb:b<l.length):swp l a b=swp l b a:=by
 apply List.ext_getElem?
 intro i;by_cases hi:i<l.length
 ·have h1:=hU ha hb i;have h2:=hU hb ha i;have e:(if i=b then l[a]?.getD default else if i=a then l[b]?.getD default else l[i]?.getD default)=(if i=a then l[b]?.getD default else if i=b then l[a]?.getD default else l[i]?.getD default):=by
   by_cases h3:i=b
   ·subst h3;by_cases h4:i=a
    ·subst h4;simp
    ·simp[h4]
   ·simp[h3]
  rw[e,<-h2]at h1;have l1:i<(swp l a b).length:=by rw[cI];exact hi
  have l2:i<(swp l b a).length:=by rw[cI];exact hi
  rw[List.getElem?_eq_getElem l1,List.getElem?_eq_getElem l2]at h1⊢
  simpa using h1
 ·rw[List.getElem?_eq_none (by rw[cI];omega),List.getElem?_eq_none (by rw[cI];omega)]
def vC(c:Nat)(p r:j7):j7:=(List.range r.length).map fun j=>r[j]?.getD 0*p[c]?.getD 0-r[c]?.getD 0*p[j]?.getD 0
def zI(l:j7):Int:=l.foldl gI 0
def bJ(c:Nat)(p r:j7):j7:=if r[c]?.getD 0=0 then r else(vC c p r).map fun x=>x.tdiv (max (zI (vC c p r)) 1)
theorem ef(c:Nat)(p r:j7):(vC c p r).length=r.length:=by simp[vC]
theorem tK(c:Nat)(p r:j7):(bJ c p r).length=r.length:=by unfold bJ;split<;>simp[ef]
theorem gG{p:j7}(h:j<r.length):(vC c p r)[j]?.getD 0=r[j]?.getD 0*p[c]?.getD 0-r[c]?.getD 0*p[j]?.getD 0:=by simp[vC,h]
def xY(e:Nat->j7->j7->j7)(c:Nat)(M:j5)(d t:Nat):j5:=(List.range M.length).map fun i=>if d<i/\i<t then e c (M[d]?.getD []) (M[i]?.getD []) else M[i]?.getD []
theorem dm(e:Nat->j7->j7->j7)(c:Nat)(M:j5)(d t:Nat):(xY e c M d t).length=M.length:=by simp[xY]
theorem fB(e:Nat->j7->j7->j7)(c:Nat)(M:j5)(d t:Nat)(h:i<M.length):(xY e c M d t)[i]?.getD []=if d<i/\i<t then e c (M[d]?.getD []) (M[i]?.getD []) else M[i]?.getD []:=by simp[xY,h]
theorem iQ{l E:j5}(hl:l.length=E.length)(h:∀i,i<l.length->l[i]?.getD []=E[i]?.getD []):l=E:=by
 apply List.ext_getElem hl
 intro i h1 h2;have:=h i h1;rw[List.getElem?_eq_getElem h1,List.getElem?_eq_getElem h2]at this
 simpa using this
theorem lV(e:Nat->j7->j7->j7)(c:Nat)(M:j5)(d:Nat):xY e c M d (d+1)=M:=by
 refine iQ (dm _ _ _ _ _) fun i hi=>?_
 rw[dm]at hi;rw[fB _ _ _ _ _ hi,if_neg e7]
theorem jy(e:Nat->j7->j7->j7)(c:Nat)(M:j5)(d t:Nat)(h:d<t)(ht:t<M.length):(xY e c M d t).set t (e c (M[d]?.getD []) (M[t]?.getD []))=xY e c M d (t+1):=by
 refine iQ (by simp[dm]) fun i hi=>?_
 rw[List.length_set,dm]at hi;rw[fB _ _ _ _ _ hi];by_cases M8:i=t
 ·subst M8;rw[if_pos ⟨h,by omega⟩,List.getElem?_set_self (by rw[dm];exact ht)];rfl
 ·rw[List.getElem?_set_ne (Ne.symm M8),fB _ _ _ _ _ hi];by_cases h2:d<i/\i<t
  ·rw[if_pos h2,if_pos ⟨h2.1,by omega⟩]
  ·rw[if_neg h2,if_neg e7]
theorem fC(e:Nat->j7->j7->j7)(c:Nat)(M:j5)(d t i:Nat)(h:i<M.length)(hi:t<=i∨i<=d):(xY e c M d t)[i]?.getD []=M[i]?.getD []:=by
 rw[fB _ _ _ _ _ h,if_neg e7]
theorem uy{e:Nat->j7->j7->j7}{t:Nat}(h:d<t)(ht:t<M.length)(he:e c (M[d]?.getD []) (M[t]?.getD [])=M[t]?.getD []):xY e c M d t=xY e c M d (t+1):=by
 rw[<-jy e c M d t h ht,he];refine iQ e8 fun i hi=>?_
 rw[dm]at hi;by_cases M8:i=t
 ·subst M8;rw[List.getElem?_set_self (by rw[dm];exact hi),fC _ _ _ _ _ _ hi e7];rfl
 ·rw[List.getElem?_set_ne (Ne.symm M8)]
def Az(m r:j7)(j:Nat):j7:=m.take j++r.drop j
theorem nz(m r:j7):Az m r 0=r:=by simp[Az]
theorem pA(h:m.length=r.length):Az m r m.length=m:=by unfold Az;rw[List.take_length,h,List.drop_length,List.append_nil]
theorem ru(h:m.length=r.length)(hj:j<r.length):(Az m r j)[j]?.getD 0=r[j]?.getD 0:=by
 unfold Az;have hl:(m.take j).length=j:=by simp;omega
 rw[List.getElem?_append_right e7,hl,List.getElem?_drop];simp
theorem Jv(h:m.length=r.length)(E:j<r.length):(Az m r j).set j (m[j]?.getD 0)=Az m r (j+1):=by
 unfold Az;have hl:(m.take j).length=j:=by simp;omega
 rw[List.set_append_right _ _ e7,hl,Nat.sub_self,List.drop_eq_getElem_cons E,List.set_cons_zero,cH e7,List.append_assoc]
 rfl
theorem IY(hi:i<M.length)(h:M[i]?.getD []=r):M.set i r=M:=by
 refine iQ e8 fun k hk=>?_
 rw[List.length_set]at hk;by_cases e:k=i
 ·subst e;rw[List.getElem?_set_self hi,h];rfl
 ·rw[List.getElem?_set_ne (Ne.symm e)]
theorem oh(hi:i<M.length)(hl:m.length=r.length)(E:j<r.length):(M.set i (Az m r j)).set i (((M.set i (Az m r j))[i]?.getD []).set j (m[j]?.getD 0))=M.set i (Az m r (j+1)):=by
 rw[List.getElem?_set_self hi,Option.getD_some,List.set_set,Jv hl E]
def yQ(e:Nat->j7->j7->j7)(c:Nat)(s:j5×Nat):j5×Nat :=
 if wP s.1 c s.2<s.1.length then(xY e c (swp s.1 s.2 (wP s.1 c s.2)) s.2 s.1.length,s.2+1) else s
def runM(e:Nat->j7->j7->j7)(M:j5):Nat->j5×Nat
 | 0=>(M,0)
 | c+1=>yQ e c (runM e M c)
theorem ea(h:wP M c d<M.length):d<=wP M c d/\(M[wP M c d]?.getD [])[c]?.getD 0≠0/\∀i,d<=i->i<wP M c d->(M[i]?.getD [])[c]?.getD 0=0:=by
 unfold wP at h⊢;cases hf:(M.drop d).findIdx? (fun r=>r[c]?.getD 0 != 0)with
 | none=>rw[hf]at h;simp at h
 | some k =>
   simp only;rw[List.findIdx?_eq_some_iff_getElem]at hf;obtain⟨h1,h2,h3⟩:=hf;rw[List.length_drop]at h1;refine⟨by omega,?_,fun i hi Na=>?_⟩
   ·rw[List.getElem_drop]at h2;have:d+k<M.length:=by omega
    rw[List.getElem?_eq_getElem this];simpa using h2
   ·have h4:=h3 (i-d) e7;rw[List.getElem_drop]at h4;have:i<M.length:=by omega
    rw[List.getElem?_eq_getElem this];have e:d+(i-d)=i:=by omega
    simp only[e]at h4
    simpa using h4
theorem fP(h:¬wP M c d<M.length)(hd:d<=M.length):wP M c d=M.length/\∀i,d<=i->i<M.length->(M[i]?.getD [])[c]?.getD 0=0:=by
 unfold wP at h⊢;cases hf:(M.drop d).findIdx? (fun r=>r[c]?.getD 0 != 0)with
 | none =>
   refine⟨rfl,fun i hi Na=>?_⟩;rw[List.findIdx?_eq_none_iff]at hf;have:=hf (M[i]) (List.mem_drop_iff_getElem.2 ⟨i-d,by omega,by congr 1;omega⟩);rw[List.getElem?_eq_getElem Na]
   simpa using this
 | some k =>
   rw[hf]at h;simp only at h;rw[List.findIdx?_eq_some_iff_getElem]at hf;obtain⟨h1,_⟩:=hf;rw[List.length_drop]at h1;omega
theorem Mv(hk:d<=k)(Ab:k<M.length)(h:(M[k]?.getD [])[c]?.getD 0≠0)(hz:∀i,d<=i->i<k->(M[i]?.getD [])[c]?.getD 0=0):wP M c d=k:=by
 by_cases hp:wP M c d<M.length
 ·obtain⟨h1,h2,h3⟩:=ea hp
  rcases Nat.lt_trichotomy (wP M c d) k with h4|h4|h4
  ·exact absurd (hz _ h1 h4) h2
  ·exact h4
  ·exact absurd (h3 k hk h4) h
 ·exact absurd ((fP hp e7).2 k hk Ab) h
theorem Jh(hd:d<=M.length)(hz:∀i,d<=i->i<M.length->(M[i]?.getD [])[c]?.getD 0=0):wP M c d=M.length:=by
 by_cases hp:wP M c d<M.length
 ·obtain⟨h1,h2,h3⟩:=ea hp;exact absurd (hz _ h1 hp) h2
 ·exact(fP hp hd).1
theorem rC(M:j5)(c:Nat)(hd:d<=M.length):d<=wP M c d/\wP M c d<=M.length:=by
 by_cases hp:wP M c d<M.length
 ·exact⟨(ea hp).1,Nat.le_of_lt hp⟩
 ·rw[(fP hp hd).1];exact⟨hd,Nat.le_refl _⟩
theorem uo(hd:d<=M.length)(h1:d<=k)(h2:k<wP M c d):(M[k]?.getD [])[c]?.getD 0=0:=by
 by_cases hp:wP M c d<M.length
 ·exact(ea hp).2.2 k h1 h2
 ·have:=fP hp hd;exact this.2 k h1 e7
def Good(n:Nat)(B:Int)(M:j5):Prop:=∀i,i<M.length->(M[i]?.getD []).length=n/\∀j:Nat,-B<=(M[i]?.getD [])[j]?.getD 0/\(M[i]?.getD [])[j]?.getD 0<=B
def Fz:Nat->Int
 | 0=>1
 | d+1=>2*(Fz d*Fz d)
theorem fi:∀d,d<=4->1<=Fz d/\Fz d<=32768/\Fz d<=Fz (d+1):=by
 have:∀d:Fin 5,1<=Fz d.val/\Fz d.val<=32768/\Fz d.val<=Fz (d.val+1):=by decide +kernel
 exact fun d hd=>this ⟨d,by omega⟩
theorem fA{x y:Int}(h1:-B<=x)(h2:x<=B)(h3:-B<=y)(h4:y<=B):-(B*B)<=x*y/\x*y<=B*B:=by
 have hx:x.natAbs<=B.natAbs:=by omega
 have hy:y.natAbs<=B.natAbs:=by omega
 have h:(x*y).natAbs<=B.natAbs*B.natAbs:=by rw[Int.natAbs_mul];exact Nat.mul_le_mul hx hy
 have e:((B.natAbs*B.natAbs:Nat):Int)=B*B:=by
    rw[Int.natCast_mul];have:(B.natAbs:Int)=B:=by omega
    rw[this]
 omega
theorem pB{p:j7}(hp:∀j:Nat,-B<=p[j]?.getD 0/\p[j]?.getD 0<=B)(hr:∀j:Nat,-B<=r[j]?.getD 0/\r[j]?.getD 0<=B)(j:Nat):
 -(2*(B*B))<=(vC c p r)[j]?.getD 0/\(vC c p r)[j]?.getD 0<=2*(B*B):=by
 by_cases h:j<r.length
 ·rw[gG h];have h1:=fA (hr j).1 (hr j).2 (hp c).1 (hp c).2;have h2:=fA (hr c).1 (hr c).2 (hp j).1 (hp j).2;omega
 ·rw[List.getElem?_eq_none (by rw[ef];omega)];simp only[Option.getD_none];have:=fA (hr 0).1 (hr 0).2 (hr 0).1 (hr 0).2;have h0:0<=B*B:=by
     have h1:=hr 0;have:0<=B:=by omega
     exact Int.mul_nonneg this this
  omega
theorem Nv{p:j7}(E:1<=B)(hp:∀j:Nat,-B<=p[j]?.getD 0/\p[j]?.getD 0<=B)(hr:∀j:Nat,-B<=r[j]?.getD 0/\r[j]?.getD 0<=B)(j:Nat):
 -(2*(B*B))<=(bJ c p r)[j]?.getD 0/\(bJ c p r)[j]?.getD 0<=2*(B*B):=by
 have p4:B<=B*B:=by have:=Int.mul_le_mul_of_nonneg_left E (show 0<=B by omega);omega
 unfold bJ
 split
 ·have:=hr j;omega
 ·have h1:=pB (c:=c) hp hr j;by_cases h:j<r.length
  ·have e:((vC c p r).map fun x=>x.tdiv (max (zI (vC c p r)) 1))[j]?.getD 0=((vC c p r)[j]?.getD 0).tdiv (max (zI (vC c p r)) 1):=by
    simp[ef,h]
   rw[e];generalize(vC c p r)[j]?.getD 0=x at *;have h2:(x.tdiv (max (zI (vC c p r)) 1)).natAbs<=x.natAbs:=by rw[Int.natAbs_tdiv];exact Nat.div_le_self _ _
   omega
  ·rw[List.getElem?_eq_none (by simp[ef];omega)];simp only[Option.getD_none];omega
theorem gQ(h:Good n B M){a b:Nat}(ha:a<M.length)(hb:b<M.length):Good n B (swp M a b):=by
 intro i hi;rw[cI]at hi;have:=hU ha hb i;change(swp M a b)[i]?.getD []=_ at this;rw[this]
 split
 ·exact h a ha
 ·split
  ·exact h b hb
  ·exact h i hi
theorem kC{E:Int}(h:Good n B M)(p4:B<=E){e:Nat->j7->j7->j7}{t:Nat}(hd:d<M.length)
 (he:∀p r:j7,p.length=n->r.length=n->(∀j:Nat,-B<=p[j]?.getD 0/\p[j]?.getD 0<=B)->(∀j:Nat,-B<=r[j]?.getD 0/\r[j]?.getD 0<=B)->(e c p r).length=n/\∀j:Nat,-E<=(e c p r)[j]?.getD 0/\(e c p r)[j]?.getD 0<=E):Good n E (xY e c M d t):=by
 intro i hi;rw[dm]at hi;rw[fB _ _ _ _ _ hi]
 split
 ·exact he _ _ (h d hd).1 (h i hi).1 (h d hd).2 (h i hi).2
 ·have:=h i hi;exact⟨this.1,fun j=>by have:=this.2 j;omega⟩
def QO(e:Nat->j7->j7->j7):Prop:=∀(B:Int) (n c:Nat) (p r:j7),1<=B->p.length=n->r.length=n->(∀j:Nat,-B<=p[j]?.getD 0/\p[j]?.getD 0<=B)->(∀j:Nat,-B<=r[j]?.getD 0/\r[j]?.getD 0<=B)->(e c p r).length=n/\∀j:Nat,-(2*(B*B))<=(e c p r)[j]?.getD 0/\(e c p r)[j]?.getD 0<=2*(B*B)
theorem me:QO bJ:=fun B n c p r E hp hr h1 h2=>⟨by rw[tK,hr],fun j=>Nv E h1 h2 j⟩
theorem qq:QO vC:=fun B n c p r hB hp hr h1 h2=>⟨by rw[ef,hr],fun j=>pB h1 h2 j⟩
theorem gJ{e:Nat->j7->j7->j7}(he:QO e){n:Nat}{M:j5}(h:Good n 1 M):∀c,c<=5->(runM e M c).2<=c/\(runM e M c).1.length=M.length/\(runM e M c).2<=M.length/\Good n (Fz (runM e M c).2) (runM e M c).1
 | 0,_=>⟨Nat.le_refl _,rfl,Nat.zero_le _,h⟩
 | c+1,hc=>by
   obtain⟨h1,h2,h3,h4⟩:=gJ he h c e7
   show(yQ e c (runM e M c)).2<=c+1/\(yQ e c (runM e M c)).1.length=M.length/\(yQ e c (runM e M c)).2<=M.length/\Good n (Fz (yQ e c (runM e M c)).2) (yQ e c (runM e M c)).1;unfold yQ;generalize runM e M c=s at *
   split
   ·next hp =>
    have hb:=fi s.2 e7;have AG:=(ea hp).1;refine⟨by simp only;omega,by simp only[dm,cI];exact h2,by simp only;omega,?_⟩;refine kC (gQ h4 e7 hp) hb.2.2 (by rw[cI];omega) fun p r BR CS h5 h6=>he _ n c p r hb.1 BR CS h5 h6
   ·exact⟨by omega,h2,h3,h4⟩
def Dt(n:Nat)(a b:j7):Prop:=∃u v:Int,u≠0/\v≠0/\∀j,j<n->u*a[j]?.getD 0=v*b[j]?.getD 0
theorem Dt.refl(n:Nat)(a:j7):Dt n a a:=⟨1,1,by omega,by omega,fun _ _=>rfl⟩
theorem Dt.zero{a b:j7}(h:Dt n a b)(E:j<n):a[j]?.getD 0=0↔b[j]?.getD 0=0:=by
 obtain⟨u,v,hu,hv,h⟩:=h;have:=h j E;constructor
 ·intro e;rw[e,Int.mul_zero]at this
  rcases Int.mul_eq_zero.1 this.symm with h|h
  ·exact absurd h hv
  ·exact h
 ·intro e;rw[e,Int.mul_zero]at this
  rcases Int.mul_eq_zero.1 this with h|h
  ·exact absurd h hu
  ·exact h
theorem KD(l:j7):∀(g:Int),(l.foldl gI g)∣g/\∀x∈l,(l.foldl gI g)∣x:=by
 induction l with
 | nil=>intro g;exact⟨Int.dvd_refl _,fun x hx=>absurd hx e8⟩
 | cons a l ih =>
   intro g;obtain⟨h1,h2⟩:=ih (gI g a);refine⟨Int.dvd_trans h1 (mu g a),fun x hx=>?_⟩
   rcases List.mem_cons.1 hx with rfl|hx
   ·exact Int.dvd_trans h1 (jJ g x)
   ·exact h2 x hx
theorem qD(l:j7):∀g:Int,0<=g->0<=l.foldl gI g:=by
 induction l with
 | nil=>exact fun g h=>h
 | cons a l ih=>exact fun g h=>ih _ (nh g a)
theorem uQ{l:j7}{x:Int}(hx:x∈l):x.tdiv (max (zI l) 1)*max (zI l) 1=x:=by
 have h1:=(KD l 0).2 x hx;have h0:=qD l 0 (Int.le_refl _);change zI l∣x at h1;change 0<=zI l at h0;by_cases hg:zI l=0
 ·rw[hg]at h1⊢;have:x=0:=Int.zero_dvd.1 h1;subst this;simp
 ·rw[show max (zI l) 1=zI l by omega];exact Int.tdiv_mul_cancel h1
theorem IX{p q s:j7}(hc:c<n)(hr:r.length=n)(hs:s.length=n)(h:Dt n p q)(k:Dt n r s)(hp:p[c]?.getD 0≠0):Dt n (bJ c p r) (vC c q s):=by
 have hq:q[c]?.getD 0≠0:=fun e=>hp ((h.zero hc).2 e)
 have hz:=k.zero hc;obtain⟨E,J,K,I,h⟩:=h;obtain⟨u,v,hu,hv,k⟩:=k;unfold bJ
 split
 ·next h0 =>
  have s0:=hz.1 h0;refine⟨u*q[c]?.getD 0,v,Int.mul_ne_zero hu hq,hv,fun j hj=>?_⟩;rw[gG e7,s0];have:=k j hj
  grind
 ·refine⟨u*E*max (zI (vC c p r)) 1,v*J,Int.mul_ne_zero (Int.mul_ne_zero hu K) e7,Int.mul_ne_zero hv I,fun j hj=>?_⟩;have hj':j<(vC c p r).length:=by rw[ef];omega
  have e1:((vC c p r).map fun x=>x.tdiv (max (zI (vC c p r)) 1))[j]?.getD 0=((vC c p r)[j]?.getD 0).tdiv (max (zI (vC c p r)) 1):=by simp[hj']
  have e2:=uQ (l:=vC c p r) (x:=(vC c p r)[j]?.getD 0) (by rw[List.getElem?_eq_getElem hj'];simp);rw[e1,gG (show j<s.length by omega)];have e3:=gG (c:=c) (p:=p) (r:=r) (j:=j) e7;generalize((vC c p r)[j]?.getD 0).tdiv (max (zI (vC c p r)) 1)=z at *;generalize max (zI (vC c p r)) 1=G at *;have k1:=k j hj;have k2:=k c hc;have h1:=h j hj;have h2:=h c hc;rw[e3]at e2;generalize r[j]?.getD 0=rj at *;generalize r[c]?.getD 0=rc at *;generalize s[j]?.getD 0=sj at *;generalize s[c]?.getD 0=sc at *;generalize p[j]?.getD 0=pj at *;generalize p[c]?.getD 0=pc at *;generalize q[j]?.getD 0=qj at *;generalize q[c]?.getD 0=qc at *;have a1:u*E*G*z=u*E*(rj*pc-rc*pj):=by rw[<-e2];grind
  rw[a1];have a2:u*E*(rj*pc-rc*pj)=(u*rj)*(E*pc)-(u*rc)*(E*pj):=by grind
  rw[a2,k1,k2,h1,h2]
  grind
structure QP(n:Nat)(M K:j5):Prop where
 len:M.length=K.length
 row:∀i,i<M.length->Dt n (M[i]?.getD []) (K[i]?.getD [])
theorem Ml{K:j5}(hc:c<n)(hd:d<=M.length)(h:QP n M K):wP M c d=wP K c d:=by
 by_cases hp:wP M c d<M.length
 ·obtain⟨h1,h2,h3⟩:=ea hp;refine(Mv h1 (by rw[<-h.len];exact hp) (fun e=>h2 (((h.row _ hp).zero hc).2 e)) fun i hi Na=>((h.row i e7).zero hc).1 (h3 i hi Na)).symm
 ·obtain⟨h1,h2⟩:=fP hp hd;rw[h1,h.len];exact(Jh (by rw[<-h.len];exact hd) fun i hi Na=>((h.row i (by rw[h.len];exact Na)).zero hc).1 (h2 i hi (by rw[h.len];exact Na))).symm
theorem rJ{n:Nat}{M:j5}(h:Good n 1 M)(hn:n<=5):∀c,c<=n->QP n (runM bJ M c).1 (runM vC M c).1/\(runM bJ M c).2=(runM vC M c).2
 | 0,_=>⟨⟨rfl,fun i _=>Dt.refl _ _⟩,rfl⟩
 | c+1,hc=>by
   obtain⟨h1,h2⟩:=rJ h hn c e7;obtain⟨a1,a2,a3,a4⟩:=gJ me h c e7;obtain⟨b1,b2,b3,J⟩:=gJ qq h c e7
   show QP n (yQ bJ c (runM bJ M c)).1 (yQ vC c (runM vC M c)).1/\(yQ bJ c (runM bJ M c)).2=(yQ vC c (runM vC M c)).2;generalize runM bJ M c=s at *;generalize runM vC M c=t at *;obtain⟨S,d⟩:=s;obtain⟨T,d'⟩:=t;simp only at *;subst h2;have K:=Ml (show c<n by omega) (show d<=S.length by omega) h1;unfold yQ;simp only;rw[<-K];by_cases hp:wP S c d<S.length
   ·rw[if_pos hp,if_pos (by rw[<-h1.len];exact hp)];obtain⟨p1,p2,p3⟩:=ea hp;have hlen:=h1.len;have G:d<S.length:=by omega
    refine⟨⟨by simp[dm,cI,hlen],fun i hi=>?_⟩,rfl⟩;rw[dm,cI]at hi;have I:∀i,i<S.length->Dt n ((swp S d (wP S c d))[i]?.getD []) ((swp T d (wP S c d))[i]?.getD []):=by
     intro i hi;have e1:=hU G hp i;have e2:=hU (l:=T) (show d<T.length by omega) (show wP S c d<T.length by omega) i;change(swp S d (wP S c d))[i]?.getD []=_ at e1;change(swp T d (wP S c d))[i]?.getD []=_ at e2;rw[e1,e2]
     split
     ·exact h1.row d G
     ·split
      ·exact h1.row _ hp
      ·exact h1.row i hi
    rw[fB _ _ _ _ _ (by rw[cI];exact hi),fB _ _ _ _ _ (by rw[cI];omega),<-hlen]
    split
    ·next OJ =>
     have g1:=gQ a4 G hp;have g2:=gQ J (show d<T.length by omega) (show wP S c d<T.length by omega);refine IX e7 (g1 i (by rw[cI];exact hi)).1 (g2 i (by rw[cI];omega)).1 (I d G) (I i hi) ?_;have e1:=hU G hp d;change(swp S d (wP S c d))[d]?.getD []=_ at e1;rw[e1];by_cases E:d=wP S c d
     ·rw[if_pos E];rw[<-E]at p2;exact p2
     ·rw[if_neg E,if_pos rfl];exact p2
    ·exact I i hi
   ·rw[if_neg hp,if_neg (by rw[<-h1.len];exact hp)];exact⟨h1,rfl⟩
def ys(n:Nat)(s:Int):j7:=(List.range n).map fun(k:Nat)=>vX (yq s (k:Int))
theorem iK(n:Nat)(s:Int):(ys n s).length=n:=by simp[ys]
theorem mW(n:Nat)(s:Int):ys n s++[vX (yq s (n:Int))]=ys (n+1) s:=by simp[ys,List.range_succ]
theorem iL(n:Nat)(l:j7):Good n 1 (l.map (ys n)):=by
 intro i hi;have G:i<l.length:=by simpa using hi
 have e:(l.map (ys n))[i]?.getD []=ys n (l[i]):=by simp[G]
 rw[e];refine⟨iK _ _,fun j=>?_⟩;by_cases E:j<n
 ·simp only[ys,List.getElem?_map,List.getElem?_range E,Option.map_some,Option.getD_some];unfold vX;split<;>omega
 ·rw[List.getElem?_eq_none (by rw[iK];omega)];simp
def eC(n:Int)(l:j7):Int:=if r' n 1 5=true then((runM bJ (l.map (ys n.toNat)) n.toNat).2:Int) else 0
def gq(n:Int)(l:j7):Int:=if r' n 1 5=true then((runM vC (l.map (ys n.toNat)) n.toNat).2:Int) else 0
theorem ur(n:Int)(l:j7):eC n l=gq n l:=by
 unfold eC gq
 split
 ·next h =>
  simp only[r',Bool.and_eq_true,decide_eq_true_eq]at h;rw[(rJ (iL n.toNat l) e7 n.toNat (Nat.le_refl _)).2]
 ·rfl
end Go.Proofs.YtdadoignenffgaaGreatDoor
