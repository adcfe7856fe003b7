import Derived.Test.YtalmoolkhcgmmaaGreatNqAltG0
import Derived.Deep.Slices
import Derived.ProofKit
import Derived.OpenShut
import Derived.ShutString
import Derived.ChangeOld
import Derived.Lib.SmallJoins
import Derived.Deep.RegionLaw
set_option linter.unusedVariables false
set_option linter.unusedSimpArgs false
namespace Go.Proofs.YtalmoolkhcgmmaaGreat
open Go.RowKit
variable{w:World}{a:Act}{K:Act->World->Prop}{Q:Exit->Act->World->Prop}
structure et(w:World)(a:j8)(n cap:Nat)(L:j7):Prop where
 hlen:L.length=n
 o3:n<=cap
 l9:cap<=9223372036854775807
 cell:∀k,k<n->∃b off,a=some ⟨b,off,none⟩/\∀k,k<n->∃a' n' c',w.cell? ⟨b,off+k,none⟩=some (.slice a' n' c')/\Ints w a' n' c' (L[k]?.getD [])
theorem et.ext{w':World}{a:j8}{n cap:Nat}{L:j7}(h:et w a n cap L)(hx:Ext w w'):et w' a n cap L :=
 ⟨h.hlen,h.o3,h.l9,fun k hk=>let⟨b,off,e,hc⟩:=h.cell k hk;⟨b,off,e,fun k hk=>let⟨J,G,I,h1,h2⟩:=hc k hk;⟨J,G,I,hx.k6 h1,h2.ext hx⟩⟩⟩
theorem et.at{a:j8}{n cap:Nat}{L:j7}(h:et w a n cap L){k:Nat}(hk:k<n):
 ∃b off a' n' c',a=some ⟨b,off,none⟩/\w.cell? ⟨b,off+k,none⟩=some (.slice a' n' c')/\Ints w a' n' c' (L[k]?.getD []) :=
 let⟨b,off,e,hc⟩:=h.cell k hk;let⟨a',n',c',h1,h2⟩:=hc k hk;⟨b,off,a',n',c',e,h1,h2⟩
theorem fz{α:Type}{L:List (List α)}{k:Nat}(h:k<L.length):L.take (k+1)=L.take k++[L[k]?.getD []]:=by
 rw[List.take_succ_eq_append_getElem h];simp[h]
theorem Tryz.LU:(Tryz.prog.info? 24).map (fun i=>(i.zero,i.size,i.bytes))=some (some (.slice none 0 0),1,24):=by kernel_rfl
def Filled(w:World)(B:Nat)(vs:List Value)(L:j7)(k:Nat):Prop :=
 ∀j,j<k->∃b m,vs[j]?=some (.slice (some ⟨b,0,none⟩) m m)/\B<b/\(L[j]?.getD []).length=m/\Row w b 3 (L[j]?.getD [])
open Go.ChangeShapes Go.WideShapes Go.ChangeAt Go.RowKit Go.Joins Go.Deep
section
variable{H:Type}{enc:TypeId×Value->H}{P:Program}{w:World}{base:Nat}{spare:Nat->Bool}{held:Bool}
theorem vS{α:Type}[Inhabited α]{E:Value->α->Prop}{t e:TypeId}{fuel:Nat}{v:Value}{x:DataW H×List MemPlace}(ht:P.underlying t=some (.slice e))(hc:P.cellsOf e=1)
 (J:∀n u y,DataW.trod enc P w base spare held n e [u]=some y->∃z,E u z)
 (h:DataW.trod enc P w base spare held fuel t [v]=some x) :
 ∃(a:j8) (n cap:Nat) (l:List α),v=.slice a n cap/\l.length=n/\n<=cap/\cap<=9223372036854775807/\∀k,k<n->∃b off,a=some ⟨b,off,none⟩/\∀k,k<n->∃u,w.cell? ⟨b,off+k,none⟩=some u/\E u (l[k]?.getD default):=by
 rcases open_slice1 ht hc h with⟨G,_⟩|⟨a,len,cap,m,n,V,D,Pl,G,_,hl,hm,IU,_,hx⟩
 ·simp at G;exact⟨none,0,0,[],G,rfl,Nat.le_refl _,by omega,fun k hk=>absurd hk b9⟩
 ·simp at G;have hlen:len<=m:=by rw[IU];split<;>omega
  obtain⟨f,hf⟩:=choose_lt (α:=α) (n:=len) (p:=fun i z=>E (V i) z) (fun i hi=>J n (V i) _ (hx i b9).2);refine⟨some a,len,cap,(List.range len).map f,G,by simp,hl,by simpa[maxLen]using hm,fun k hk=>?_⟩;obtain⟨b,off,spot⟩:=a;have h0:=(hx 0 b9).1;have I:spot=none:=by simpa[Addr.add]using World.cell?_spot h0
  subst I;refine⟨b,off,rfl,fun k hk=>⟨V k,?_,?_⟩⟩
  ·have h1:=(hx k b9).1;have ha:(⟨b,off,none⟩:Addr).add k=⟨b,off+k,none⟩:=by unfold Addr.add;split<;>simp_all
   rwa [ha]at h1
  ·have:((List.range len).map f)[k]?.getD default=f k:=by simp[hk]
   rw[this];exact hf k hk
end
section
variable{H:Type}{enc:TypeId×Value->H}{P:Program}{w:World}{base:Nat}{spare:Nat->Bool}{held:Bool}
theorem wf_u8{n:Int}(h:(Lit.int .u8 n).wf=true):0<=n/\n<=255:=by
 simp only[Lit.wf,Bool.and_eq_true,decide_eq_true_eq]at h;have h1:IntKind.u8.min=0:=by decide
 have h2:IntKind.u8.max=255:=by decide
 omega
end
def Aw(w:World)(v v':Value):Prop:=∀k,v'.ownBlock=some k->v.ownBlock=some k∨w.heap.size<=k
theorem Aw.refl(w:World)(v:Value):Aw w v v:=fun k hk=>.inl hk
theorem lj{w1 G:World}{r r1:Option Nat}(h:w.grownBy w1 r)(h1:w1.grownBy G r1)(hr:∀k,r1=some k->r=some k∨w.heap.size<=k):w.grownBy G r :=
 ⟨h1.os.trans h.os,h1.tape.trans h.tape,h1.output.trans h.output,Nat.le_trans h.size h1.size,fun k hk hne=>by
  refine(h1.block k (Nat.lt_of_lt_of_le hk h.size) fun e=>?_).trans (h.block k hk hne)
  rcases hr k e.symm with h2|h2
  ·exact hne h2.symm
  ·omega⟩
theorem dX{w1:World}(r:Option Nat)(h:Ext w w1):w.grownBy w1 r:=⟨h.os,h.tape,h.output,h.size,fun k hk _=>h.block k hk⟩
theorem al{w0 w':World}{row:Option Nat}(h:Ext w0 w)(hg:w.grownBy w' row)(hr:∀k,row=some k->w0.heap.size<=k):Ext w0 w':=Below.grown h hg h.size hr
section
variable{P:Program}(w:World)
theorem ni(base:Nat)(t ty e:TypeId)(i:TypeInfo)(z:Value)(size bytes:Nat)(ht:P.underlying t=some (.slice e))(hi:P.info? e=some i)(hz:i.zero=some z)
 (J:i.size=size) (GF:i.bytes=bytes) (Ra:z.cells.size=size) (hsz:0<size)
 (v:Value) (n:Nat) (xs:List Value) (Z:w.ownsRow base e size v n xs)
 (a:Addr) (m c:Nat) (news:List Value) (hl:news.length=m*size) (G:∀j u,news[j]?=some u->w.cell? (a.add j)=some u) (h1:∀u∈news,u.oneCell'=true)
 (W:n+m<=maxLen) (I:(n+m)*bytes<=140737488355328) (R:base<=w.heap.size) :
 ∃U w',(Builtin.append_ #[t,t] ty #[v,.slice (some a) m c]).run P w=.ok U w'/\w'.ownsRow base e size U (n+m) (xs++news)/\w.grownBy w' v.ownBlock/\Aw w v U:=by
 obtain⟨U,w',hrun,h2,h3,_⟩:=run_append_own (P:=P) w base t ty e i z size bytes ht hi hz J GF Ra hsz v n xs Z a m c news hl G h1 W I R;refine⟨U,w',hrun,h2,h3,?_⟩;subst J;subst GF;have hsmall:n+m<=9223372036854775807:=by simp only[maxLen]at W;omega
 rcases Z.2 with⟨rfl,rfl⟩|⟨g,cap,cur,rfl,Oo,hg,hnc,Eb,hcs,htake⟩
 ·by_cases hm:m=0
  ·subst hm;intro k hk
   rcases h2.2 with⟨rfl,_⟩|⟨g',cap',cur',rfl,_,G7,_⟩
   ·simp[Value.ownBlock]at hk
   ·have hn:news=[]:=List.eq_nil_of_length_eq_zero (by simpa using hl);subst hn;have:(Builtin.append_ #[t,t] ty #[Value.slice none 0 0,.slice (some a) 0 c]).run P w=.ok (.slice none 0 0) w:=by
     simp[Builtin.append_,run_underlying ht,sizeOf,typeInfo,hi,Builtin.lenOf,Builtin.firstCells,loadCells,loadCellsFrom]
    rw[this]at hrun;simp at hrun
  ·have hr:=run_append_nil (P:=P) w t ty e i z ht hi hz a m c news hl G b9 b9 (by have hb:=I;simp only[Nat.zero_add]at hb;omega);rw[hr]at hrun;simp only[Result.ok.injEq]at hrun;obtain⟨rfl,rfl⟩:=hrun;intro k hk;exact .inr (Nat.le_of_eq (Option.some.inj (show some w.heap.size=some k from hk)))
 ·by_cases O:n+m<=cap
  ·have Ea:n*i.size+news.length<=cur.size:=by rw[hl,hcs,<-Nat.add_mul];exact Nat.mul_le_mul_right _ O
   have hr:=run_append_room (P:=P) w t ty e i ht hi g n cap cur hg a m c news hl G h1 O Ea;rw[hr]at hrun;simp only[Result.ok.injEq]at hrun;obtain⟨rfl,rfl⟩:=hrun;intro k hk;exact .inl hk
  ·have holds:∀j u,xs[j]?=some u->w.cell? ((⟨g,0,none⟩:Addr).add j)=some u:=Z.cells (g:=g) rfl;have hr:=run_append_grow (P:=P) w t ty e i z ht hi hz ⟨g,0,none⟩ n cap xs Z.1 holds a m c news hl G b9 b9 (growslice_fits b9 I);rw[hr]at hrun;simp only[Result.ok.injEq]at hrun;obtain⟨rfl,rfl⟩:=hrun;intro k hk;exact .inr (Nat.le_of_eq (Option.some.inj (show some w.heap.size=some k from hk)))
theorem eN{o:Oper}{a:Act}{K:Act->World->Prop}{Q:Exit->Act->World->Prop}(s x:Operand)(t:TypeId)
 (ho:o.op=.call { callee:=.builtin .append,args:=#[s,x],argTypes:=#[t,t] })
 (base:Nat) (e:TypeId) (i:TypeInfo) (z:Value) (size bytes:Nat) (ht:P.underlying t=some (.slice e)) (hi:P.info? e=some i) (hz:i.zero=some z)
 (I:i.size=size) (GF:i.bytes=bytes) (Ra:z.cells.size=size) (U:0<size)
 (v:Value) (n:Nat) (xs:List Value) (hs:a.eval s=v) (yO:w.ownsRow base e size v n xs)
 (Z:Addr) (m c:Nat) (news:List Value) (hx:a.eval x=.slice (some Z) m c) (hl:news.length=m*size) (J:∀j u,news[j]?=some u->w.cell? (Z.add j)=some u) (h1:∀u∈news,u.oneCell'=true)
 (W:n+m<=maxLen) (G:(n+m)*bytes<=140737488355328) (O:base<=w.heap.size)
 (h:∀R w',w'.ownsRow base e size R (n+m) (xs++news)->w.grownBy w' v.ownBlock->Aw w v R->K (a.put o.dst R) w'):o.wp P a w K Q:=by
 obtain⟨R,w',hr,h2,h3,h4⟩:=ni (P:=P) w base t o.type e i z size bytes ht hi hz I GF Ra U v n xs yO Z m c news hl J h1 W G O;unfold Oper.wp execOp;simp only[ho,resolve,invoke,builtin,Sem.run_bind,Sem.run_pure,Result.andThen_ok,List.map_toArray,List.map_cons,List.map_nil,hs,hx,hr];exact h R w' h2 h3 h4
theorem fB{o:Oper}{a:Act}{K:Act->World->Prop}{Q:Exit->Act->World->Prop}(s x:Operand)(t:TypeId)
 (ho:o.op=.call { callee:=.builtin .append,args:=#[s,x],argTypes:=#[t,t] })
 (base:Nat) (e:TypeId) (i:TypeInfo) (size:Nat) (ht:P.underlying t=some (.slice e)) (hi:P.info? e=some i)
 (v:Value) (n:Nat) (xs:List Value) (hs:a.eval s=v) (I:w.ownsRow base e size v n xs) (c:Nat) (hx:a.eval x=.slice none 0 c)
 (h:K (a.put o.dst v) w):o.wp P a w K Q:=by
 have hrun:(Builtin.append_ #[t,t] o.type #[v,.slice none 0 c]).run P w=.ok v w:=by
  rcases I.2 with⟨rfl,rfl⟩|⟨g,cap,cur,rfl,_,_,G,_⟩
  ·simp[Builtin.append_,run_underlying ht,sizeOf,typeInfo,hi,Builtin.lenOf,Builtin.firstCells]
  ·simp[Builtin.append_,run_underlying ht,sizeOf,typeInfo,hi,Builtin.lenOf,Builtin.firstCells,G,storeCells]
 unfold Oper.wp execOp;simp only[ho,resolve,invoke,builtin,Sem.run_bind,Sem.run_pure,Result.andThen_ok,List.map_toArray,List.map_cons,List.map_nil,hs,hx,hrun];exact h
theorem ci{ops:Array Oper}{o:Oper}{a:Act}{K:Act->World->Prop}{Q:Exit->Act->World->Prop}{E:Prop}(G:o.guard=none)(h:o.wp P a w K Q):
 if Region.wanted o (yielded ops a.tmps)=true then Oper.wp P o a w K Q else E:=by
 have hw:Region.wanted o (yielded ops a.tmps)=true:=by simp[Region.wanted,G]
 rw[if_pos hw];exact h
end
end Go.Proofs.YtalmoolkhcgmmaaGreat
