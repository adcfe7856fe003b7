import Derived.Test.YthjjfkeacobikaaGreatPuAllG0
import Derived.Deep.Slices
import Derived.ProofKit
import Derived.OpenShut
import Derived.ShutString
import Derived.ChangeOld
import Derived.Lib.SmallJoins
import Derived.Deep.RegionLaw
set_option linter.unusedVariables false
set_option linter.unusedSimpArgs false
namespace Go.Proofs.YthjjfkeacobikaaGreat
open Go.RowKit
structure dD (w:World) (a:Option Addr) (n cap:Nat) (L:List (List Int)):Prop where
 hlen:L.length=n
 hcap:n<=cap
 hmax:cap<=9223372036854775807
 cell:∀ k,k<n->∃ b off,a=some ⟨b,off,none⟩/\∀ k,k<n->∃ a' n' c',w.cell? ⟨b,off+k,none⟩=some (.slice a' n' c')/\Ints w a' n' c' (L[k]?.getD [])
theorem dD.ext {w w':World} {a:Option Addr} {n cap:Nat} {L:List (List Int)} (h:dD w a n cap L) (hx:Ext w w'):dD w' a n cap L :=
 ⟨h.hlen,h.hcap,h.hmax,fun k hk=>let ⟨b,off,e,hc⟩:=h.cell k hk;⟨b,off,e,fun k hk=>let ⟨a',n',c',h1,h2⟩:=hc k hk;⟨a',n',c',hx.cellSome h1,h2.ext hx⟩⟩⟩
theorem dD.at {w:World} {a:Option Addr} {n cap:Nat} {L:List (List Int)} (h:dD w a n cap L) {k:Nat} (hk:k<n) :
 ∃ b off a' n' c',a=some ⟨b,off,none⟩/\w.cell? ⟨b,off+k,none⟩=some (.slice a' n' c')/\Ints w a' n' c' (L[k]?.getD []) :=
 let ⟨b,off,e,hc⟩:=h.cell k hk;let ⟨a',n',c',h1,h2⟩:=hc k hk;⟨b,off,a',n',c',e,h1,h2⟩
theorem dR {α:Type} {L:List (List α)} {k:Nat} (h:k<L.length):L.take (k+1)=L.take k++[L[k]?.getD []]:=by
 rw [List.take_succ_eq_append_getElem h];simp [h]
theorem Tryz.infoInts:(Tryz.prog.info? 24).map (fun i=>(i.zero,i.size,i.bytes))=some (some (.slice none 0 0),1,24):=by kernel_rfl
def Filled (w:World) (B:Nat) (vs:List Value) (L:List (List Int)) (k:Nat):Prop :=
 ∀ j,j<k->∃ b m,vs[j]?=some (.slice (some ⟨b,0,none⟩) m m)/\B<b/\(L[j]?.getD []).length=m/\Row w b 3 (L[j]?.getD [])
open Go.ChangeShapes Go.WideShapes Go.ChangeAt Go.RowKit Go.Joins Go.Deep
section
variable {H:Type} {enc:TypeId × Value->H} {P:Program} {w:World} {base:Nat} {spare:Nat->Bool} {held:Bool}
theorem pS {α:Type} [Inhabited α] {E:Value->α->Prop} {t e:TypeId} {fuel:Nat} {v:Value} {x:DataW H × List MemPlace} (ht:P.underlying t=some (.slice e)) (hc:P.cellsOf e=1)
 (hE:∀ n u y,DataW.trod enc P w base spare held n e [u]=some y->∃ z,E u z)
 (h:DataW.trod enc P w base spare held fuel t [v]=some x) :
 ∃ (a:Option Addr) (n cap:Nat) (l:List α),v=.slice a n cap/\l.length=n/\n<=cap/\cap<=9223372036854775807/\∀ k,k<n->∃ b off,a=some ⟨b,off,none⟩/\∀ k,k<n->∃ u,w.cell? ⟨b,off+k,none⟩=some u/\E u (l[k]?.getD default):=by
 rcases open_slice1 ht hc h with ⟨hcs,_⟩|⟨a,len,cap,m,n,V,D,Pl,hcs,_,hl,hm,hmm,_,hx⟩
 ·simp at hcs;exact ⟨none,0,0,[],hcs,rfl,Nat.le_refl _,by omega,fun k hk=>absurd hk (by omega)⟩
 ·simp at hcs;have hlen:len<=m:=by rw [hmm];split <;> omega
  obtain ⟨f,hf⟩:=choose_lt (α:=α) (n:=len) (p:=fun i z=>E (V i) z) (fun i hi=>hE n (V i) _ (hx i (by omega)).2);refine ⟨some a,len,cap,(List.range len).map f,hcs,by simp,hl,by simpa [maxLen] using hm,fun k hk=>?_⟩;obtain ⟨b,off,spot⟩:=a;have h0:=(hx 0 (by omega)).1;have hspot:spot=none:=by simpa [Addr.add] using World.cell?_spot h0
  subst hspot;refine ⟨b,off,rfl,fun k hk=>⟨V k,?_,?_⟩⟩
  ·have h1:=(hx k (by omega)).1;have ha:(⟨b,off,none⟩:Addr).add k=⟨b,off+k,none⟩:=by unfold Addr.add;split <;> simp_all
   rwa [ha] at h1
  ·have:((List.range len).map f)[k]?.getD default=f k:=by simp [hk]
   rw [this];exact hf k hk
end
end Go.Proofs.YthjjfkeacobikaaGreat
namespace Go.Proofs.YthjjfkeacobikaaGreat
open Go.ChangeShapes Go.WideShapes Go.ChangeAt Go.RowKit Go.Joins Go.Deep
section
variable {H:Type} {enc:TypeId × Value->H} {P:Program} {w:World} {base:Nat} {spare:Nat->Bool} {held:Bool}
theorem wf_u8 {n:Int} (h:(Lit.int .u8 n).wf=true):0<=n/\n<=255:=by
 simp only [Lit.wf,Bool.and_eq_true,decide_eq_true_eq] at h;have h1:IntKind.u8.min=0:=by decide
 have h2:IntKind.u8.max=255:=by decide
 omega
end
end Go.Proofs.YthjjfkeacobikaaGreat
namespace Go.Proofs.YthjjfkeacobikaaGreat
open Go.RowKit
def Near (w:World) (v v':Value):Prop:=∀ k,v'.ownBlock=some k->v.ownBlock=some k ∨ w.heap.size<=k
theorem Near.refl (w:World) (v:Value):Near w v v:=fun k hk=>.inl hk
theorem iQ {w w1 w2:World} {r r1:Option Nat} (h:w.grownBy w1 r) (h1:w1.grownBy w2 r1) (hr:∀ k,r1=some k->r=some k ∨ w.heap.size<=k):w.grownBy w2 r :=
 ⟨h1.os.trans h.os,h1.tape.trans h.tape,h1.output.trans h.output,Nat.le_trans h.size h1.size,fun k hk hne=>by
  refine (h1.block k (Nat.lt_of_lt_of_le hk h.size) fun e=>?_).trans (h.block k hk hne)
  rcases hr k e.symm with h2|h2
  ·exact hne h2.symm
  ·omega⟩
theorem cL {w w1:World} (r:Option Nat) (h:Ext w w1):w.grownBy w1 r:=⟨h.os,h.tape,h.output,h.size,fun k hk _=>h.block k hk⟩
theorem aq {w0 w w':World} {row:Option Nat} (h:Ext w0 w) (hg:w.grownBy w' row) (hr:∀ k,row=some k->w0.heap.size<=k):Ext w0 w':=Below.grown h hg h.size hr
section
variable {P:Program} (w:World)
theorem jZ (base:Nat) (t ty e:TypeId) (i:TypeInfo) (z:Value) (size bytes:Nat) (ht:P.underlying t=some (.slice e)) (hi:P.info? e=some i) (hz:i.zero=some z)
 (hsize:i.size=size) (hby:i.bytes=bytes) (hzs:z.cells.size=size) (hsz:0<size)
 (v:Value) (n:Nat) (xs:List Value) (hown:w.ownsRow base e size v n xs)
 (a:Addr) (m c:Nat) (news:List Value) (hl:news.length=m*size) (hnews:∀ j u,news[j]?=some u->w.cell? (a.add j)=some u) (h1:∀ u ∈ news,u.oneCell'=true)
 (h63:n+m<=maxLen) (hbytes:(n+m)*bytes<=140737488355328) (hbase:base<=w.heap.size) :
 ∃ v' w',(Builtin.append_ #[t,t] ty #[v,.slice (some a) m c]).run P w=.ok v' w'/\w'.ownsRow base e size v' (n+m) (xs++news)/\w.grownBy w' v.ownBlock/\Near w v v':=by
 obtain ⟨v',w',hrun,h2,h3,_⟩:=run_append_own (P:=P) w base t ty e i z size bytes ht hi hz hsize hby hzs hsz v n xs hown a m c news hl hnews h1 h63 hbytes hbase;refine ⟨v',w',hrun,h2,h3,?_⟩;subst hsize;subst hby;have hsmall:n+m<=9223372036854775807:=by simp only [maxLen] at h63;omega
 rcases hown.2 with ⟨rfl,rfl⟩|⟨g,cap,cur,rfl,hbg,hg,hnc,hcm,hcs,htake⟩
 ·by_cases hm:m=0
  ·subst hm;intro k hk
   rcases h2.2 with ⟨rfl,_⟩|⟨g',cap',cur',rfl,_,hg',_⟩
   ·simp [Value.ownBlock] at hk
   ·have hn:news=[]:=List.eq_nil_of_length_eq_zero (by simpa using hl);subst hn;have:(Builtin.append_ #[t,t] ty #[Value.slice none 0 0,.slice (some a) 0 c]).run P w=.ok (.slice none 0 0) w:=by
     simp [Builtin.append_,run_underlying ht,sizeOf,typeInfo,hi,Builtin.lenOf,Builtin.firstCells,loadCells,loadCellsFrom]
    rw [this] at hrun;simp at hrun
  ·have hr:=run_append_nil (P:=P) w t ty e i z ht hi hz a m c news hl hnews (by omega) (by omega) (by have hb:=hbytes;simp only [Nat.zero_add] at hb;omega);rw [hr] at hrun;simp only [Result.ok.injEq] at hrun;obtain ⟨rfl,rfl⟩:=hrun;intro k hk;exact .inr (Nat.le_of_eq (Option.some.inj (show some w.heap.size=some k from hk)))
 ·by_cases hroom:n+m<=cap
  ·have hfit:n*i.size+news.length<=cur.size:=by rw [hl,hcs,<-Nat.add_mul];exact Nat.mul_le_mul_right _ hroom
   have hr:=run_append_room (P:=P) w t ty e i ht hi g n cap cur hg a m c news hl hnews h1 hroom hfit;rw [hr] at hrun;simp only [Result.ok.injEq] at hrun;obtain ⟨rfl,rfl⟩:=hrun;intro k hk;exact .inl hk
  ·have holds:∀ j u,xs[j]?=some u->w.cell? ((⟨g,0,none⟩:Addr).add j)=some u:=hown.cells (g:=g) rfl;have hr:=run_append_grow (P:=P) w t ty e i z ht hi hz ⟨g,0,none⟩ n cap xs hown.1 holds a m c news hl hnews (by omega) (by omega) (growslice_fits (by omega) hbytes);rw [hr] at hrun;simp only [Result.ok.injEq] at hrun;obtain ⟨rfl,rfl⟩:=hrun;intro k hk;exact .inr (Nat.le_of_eq (Option.some.inj (show some w.heap.size=some k from hk)))
theorem dN {o:Oper} {a:Act} {K:Act->World->Prop} {Q:Exit->Act->World->Prop} (s x:Operand) (t:TypeId)
 (ho:o.op=.call { callee:=.builtin .append,args:=#[s,x],argTypes:=#[t,t] })
 (base:Nat) (e:TypeId) (i:TypeInfo) (z:Value) (size bytes:Nat) (ht:P.underlying t=some (.slice e)) (hi:P.info? e=some i) (hz:i.zero=some z)
 (hsize:i.size=size) (hby:i.bytes=bytes) (hzs:z.cells.size=size) (hsz:0<size)
 (v:Value) (n:Nat) (xs:List Value) (hs:a.eval s=v) (hown:w.ownsRow base e size v n xs)
 (ad:Addr) (m c:Nat) (news:List Value) (hx:a.eval x=.slice (some ad) m c) (hl:news.length=m*size) (hnews:∀ j u,news[j]?=some u->w.cell? (ad.add j)=some u) (h1:∀ u ∈ news,u.oneCell'=true)
 (h63:n+m<=maxLen) (hbytes:(n+m)*bytes<=140737488355328) (hbase:base<=w.heap.size)
 (h:∀ v' w',w'.ownsRow base e size v' (n+m) (xs++news)->w.grownBy w' v.ownBlock->Near w v v'->K (a.put o.dst v') w'):o.wp P a w K Q:=by
 obtain ⟨v',w',hr,h2,h3,h4⟩:=jZ (P:=P) w base t o.type e i z size bytes ht hi hz hsize hby hzs hsz v n xs hown ad m c news hl hnews h1 h63 hbytes hbase;unfold Oper.wp execOp;simp only [ho,resolve,invoke,builtin,Sem.run_bind,Sem.run_pure,Result.andThen_ok,List.map_toArray,List.map_cons,List.map_nil,hs,hx,hr];exact h v' w' h2 h3 h4
theorem es {o:Oper} {a:Act} {K:Act->World->Prop} {Q:Exit->Act->World->Prop} (s x:Operand) (t:TypeId)
 (ho:o.op=.call { callee:=.builtin .append,args:=#[s,x],argTypes:=#[t,t] })
 (base:Nat) (e:TypeId) (i:TypeInfo) (size:Nat) (ht:P.underlying t=some (.slice e)) (hi:P.info? e=some i)
 (v:Value) (n:Nat) (xs:List Value) (hs:a.eval s=v) (hown:w.ownsRow base e size v n xs) (c:Nat) (hx:a.eval x=.slice none 0 c)
 (h:K (a.put o.dst v) w):o.wp P a w K Q:=by
 have hrun:(Builtin.append_ #[t,t] o.type #[v,.slice none 0 c]).run P w=.ok v w:=by
  rcases hown.2 with ⟨rfl,rfl⟩|⟨g,cap,cur,rfl,_,_,hnc,_⟩
  ·simp [Builtin.append_,run_underlying ht,sizeOf,typeInfo,hi,Builtin.lenOf,Builtin.firstCells]
  ·simp [Builtin.append_,run_underlying ht,sizeOf,typeInfo,hi,Builtin.lenOf,Builtin.firstCells,hnc,storeCells]
 unfold Oper.wp execOp;simp only [ho,resolve,invoke,builtin,Sem.run_bind,Sem.run_pure,Result.andThen_ok,List.map_toArray,List.map_cons,List.map_nil,hs,hx,hrun];exact h
theorem bH {ops:Array Oper} {o:Oper} {a:Act} {K:Act->World->Prop} {Q:Exit->Act->World->Prop} {E:Prop} (hgd:o.guard=none) (h:o.wp P a w K Q) :
 if Region.wanted o (yielded ops a.tmps)=true then Oper.wp P o a w K Q else E:=by
 have hw:Region.wanted o (yielded ops a.tmps)=true:=by simp [Region.wanted,hgd]
 rw [if_pos hw];exact h
end
end Go.Proofs.YthjjfkeacobikaaGreat
