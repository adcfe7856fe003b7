import Derived.Test.YthjjfkeacobikaaGreatPuAllG48
import Derived.Test.YthjjfkeacobikaaGreatPuAllG35
import Derived.Test.YthjjfkeacobikaaGreatPuAllG14
import Derived.Test.YthjjfkeacobikaaGreatPuAllG30
import Derived.Test.YthjjfkeacobikaaGreatPuAllG29
import Derived.Test.YthjjfkeacobikaaGreatPuAllG26
import Derived.Test.YthjjfkeacobikaaGreatPuAllG43
import Derived.Test.YthjjfkeacobikaaGreatPuAllG3
import Derived.StillTailTactics
import Derived.Test.YthjjfkeacobikaaGreatPuAllG13
set_option linter.unusedVariables false
set_option linter.unusedSimpArgs false
namespace Go.Proofs.YthjjfkeacobikaaGreat
set_option maxRecDepth 100000
open Go.RowKit
def Blk (w:World) (g n:Nat):Prop:=∃ cur t,w.heap[g]?=some (.cells cur t (0,0))/\n<=cur.size
section
variable {w w':World} {g n k b:Nat}
theorem Blk.ext (h:Blk w g n) (hx:Ext w w'):Blk w' g n:=by
 obtain ⟨cur,t,hb,hn⟩:=h;exact ⟨cur,t,hx.blk hb,hn⟩
theorem Blk.cell (h:Blk w g n) (hk:k<n):∃ u,w.cell? ⟨g,k,none⟩=some u:=by
 obtain ⟨cur,t,hb,hn⟩:=h;exact ⟨cur[k]'(by omega),by rw [cell_of_row w g k _ _ _ hb,Array.getElem?_eq_getElem (by omega)]⟩
theorem Blk.free (h:Blk w g n) (j:Nat):w.frozen? ⟨g,j,none⟩=false:=by
 obtain ⟨cur,t,hb,hn⟩:=h;exact frozen_of_row w g j _ _ hb
theorem Blk.set (h:Blk w g n) (v:Value):Blk (w.setCell ⟨b,k,none⟩ v) g n:=by
 obtain ⟨cur,t,hb,hn⟩:=h;by_cases e:g=b
 ·subst e;exact ⟨_,t,heap_setCell_same w g k _ _ v hb,by simpa using hn⟩
 ·exact ⟨cur,t,(heap_setCell_other _ _ _ _ e).trans hb,hn⟩
end
theorem gu {w:World} {base s n m cap:Nat} {e:TypeId} {a:Option Addr} {xs:List Value} (h:w.ownsRow base e s (.slice a n cap) m xs) (hn:0<n):∃ g,a=some ⟨g,0,none⟩/\base<=g/\g<w.heap.size/\Blk w g (n*s):=by
 rcases h.2 with ⟨he,h0⟩|⟨g,cap',cur,he,hb,hg,h1,h2,h3,h4⟩
 ·simp only [Value.slice.injEq] at he;omega
 ·simp only [Value.slice.injEq] at he;obtain ⟨rfl,rfl,rfl⟩:=he;exact ⟨g,rfl,hb,lt_of_block hg,cur,e,hg,by rw [h3];exact Nat.mul_le_mul_right _ h1⟩
structure Rw (w:World) (base G B m:Nat) (vs:List Value):Prop where
 cell:∀ k,k<m->w.cell? ⟨G,k,none⟩=some (vs[k]?.getD undef)
 row:∀ k,k<m->∃ a n c,vs[k]?.getD undef=.slice a n c/\n<=20/\∀ j,j<n->∃ g,a=some ⟨g,0,none⟩/\base<=g/\g ≠ G/\g<B/\Blk w g (n*2)
theorem Rw.set {w:World} {base G B m:Nat} {vs:List Value} (h:Rw w base G B m vs) {g:Nat} (hg:g ≠ G) (k:Nat) (v:Value):Rw (w.setCell ⟨g,k,none⟩ v) base G B m vs :=
 ⟨fun i hi=>(World.cell?_setCell_other _ _ _ _ fun e=>hg (by simp only [Addr.mk.injEq] at e;exact e.1)).trans (h.cell i hi),fun i hi=>by
  obtain ⟨a,n,c,hv,hn,hr⟩:=h.row i hi
  exact ⟨a,n,c,hv,hn,fun j hj=>by obtain ⟨g',e,h1,h2,h3,h4⟩:=hr j hj;exact ⟨g',e,h1,h2,h3,h4.set _⟩⟩⟩
theorem Rw.ext {w w':World} {base G B m:Nat} {vs:List Value} (h:Rw w base G B m vs) (hx:Ext w w'):Rw w' base G B m vs :=
 ⟨fun i hi=>hx.cellSome (h.cell i hi),fun i hi=>by
  obtain ⟨a,n,c,hv,hn,hr⟩:=h.row i hi
  exact ⟨a,n,c,hv,hn,fun j hj=>by obtain ⟨g',e,h1,h2,h3,h4⟩:=hr j hj;exact ⟨g',e,h1,h2,h3,h4.ext hx⟩⟩⟩
theorem Rw.of {w:World} {base m rc:Nat} {ra:Option Addr} {vb:Value} {vs:List Value} {t:Tb} (h:OwnT w base (.slice ra m rc) vb vs t) (hm:0<m) (hl:∀ i,i<m->(t.row i).length<=20):∃ G,ra=some ⟨G,0,none⟩/\base<=G/\G<w.heap.size/\Rw w base G w.heap.size m vs:=by
 obtain ⟨G,rfl,hb,hc⟩:=h.a.cell hm;have hlt:=(h.a.lt G rfl).2;have hvl:vs.length=m:=h.a.len;refine ⟨G,rfl,hb,hlt,fun k hk=>?_,fun k hk=>?_⟩
 ·rw [hc k hk];have:k<vs.length:=by omega
  simp [this]
 ·have hr:=h.rows.row k (by rw [<-h.rows.len];omega);obtain ⟨a,n,c,hv,hn⟩:=hr.var;have hn2:n<=20:=by rw [<-hn.out];exact hl k hk
  refine ⟨a,n,c,hv,hn2,fun j hj=>?_⟩;rw [hv] at hr;obtain ⟨g,rfl,h1,h2,h3⟩:=gu hr (by omega);exact ⟨g,rfl,h1,fun e=>au (by decide) hr h.a g rfl (by subst e;rfl),h2,h3⟩
theorem mW {t:Tb} (h:t.basis.length ≠ t.rows.length):tbOk t=false:=by unfold tbOk;simp [h]
theorem mX {t:Tb} {n m:Nat} (hc:t.cols=(n:Int)) (hm:t.rows.length=m) (h0:0<m) (h:(t.row 0).length ≠ n+m+1):tbOk t=false:=by
 unfold tbOk;have:(t.rows.all fun r=>decide ((r.length:Int)=t.cols+t.rows.length+1))=false:=by
  rw [List.all_eq_false];refine ⟨t.row 0,?_,?_⟩
  ·unfold Tb.row;rw [List.getElem?_eq_getElem (by omega),Option.getD_some];exact List.getElem_mem _
  ·simp only [decide_eq_true_eq];rw [hc,hm];omega
 rw [this];simp
theorem fu {t:Tb} {row col:Int} (h:tbOk t=false):cD t row col=false:=by unfold cD;rw [h];rfl
theorem fP {t:Tb} {row col:Int} (h:cD t row col=false):bE t row col=t:=by unfold bE;rw [lm h];rfl
section
variable {w:World} {ra:Option Addr} {m rc:Nat} {ba:Option Addr} {mb bc:Nat} {t:Tb} {n:Nat} {row col:Int}
theorem oQ (h:TbC w ra m rc ba mb bc t) (hc:t.cols=(n:Int)) (hn:n<=7) (hm1:1<=m) (hm3:m<=3) (hmb:mb<=4) (hs:TbSh t n m mb) (hl:∀ i,i<m->(t.row i).length<=20) :
 Calls Tryz.prog 56 #[tbW ra m rc ba mb bc (n:Int),.int .i64 row,.int .i64 col] w fun e w'=>(∃ ok,PivR w' w.heap.size e (bE t row col) ok)/\Ext w w':=by
 have hrl:∀ i,i<m->(t.row i).length<=1048576:=fun i hi=>by have:=hl i hi;omega
 have hlen:t.rows.length=m:=h.rows.hlen;have hbl:t.basis.length=mb:=h.basis.hlen
 rcases hs with ⟨T0,rfl,hT⟩|hs|⟨rfl,hs⟩
 ·cases hp:cD t row col
  ·rw [fP hp];have hp2:=hp;unfold cD at hp2;rw [hT.ok (by omega),hc,hlen] at hp2;exact (eN h (by omega) (by omega) (by omega) hc hrl (g:=true) (fun w' hx=>eV (h.ext hx) hT (by omega) (by omega)) hp2).mono fun e w' hh=>⟨⟨_,hh.1⟩,hh.2⟩
  ·have hp2:=hp;unfold cD at hp2;rw [hc,hlen] at hp2;simp only [Bool.and_eq_true,inB,decide_eq_true_eq] at hp2;obtain ⟨_,⟨hr0,hr1⟩,hc0,hc1⟩:=hp2;obtain ⟨r,rfl⟩:∃ r:Nat,row=r:=⟨row.toNat,by omega⟩;obtain ⟨c,rfl⟩:∃ c:Nat,col=c:=⟨col.toNat,by omega⟩;exact (mF h hT (by omega) (by omega) (by omega) (by omega)).mono fun e w' hh=>⟨⟨_,hh.1⟩,hh.2⟩
 ·have hp:=fu (row:=row) (col:=col) (mW (t:=t) (by omega));rw [fP hp];exact (eN h (by omega) (by omega) (by omega) hc hrl (g:=false) (fun w' hx=>qm (h.ext hx) hs (by omega)) rfl).mono fun e w' hh=>⟨⟨_,hh.1⟩,hh.2⟩
 ·have hp:=fu (row:=row) (col:=col) (mX hc hlen (by omega) hs);rw [fP hp];exact (eN h (by omega) (by omega) (by omega) hc hrl (g:=false) (fun w' hx=>qn (h.ext hx) (by omega) (by omega) (by omega) hs) rfl).mono fun e w' hh=>⟨⟨_,hh.1⟩,hh.2⟩
theorem pU (hc:t.cols=(n:Int)) (hlen:t.rows.length=m) (hm1:1<=m) (hm3:m<=3) (hn:n<=7) (hbl:t.basis.length=mb) (hs:TbSh t n m mb) (hl:∀ i,i<m->(t.row i).length<=20) (row col:Int) :
 (bE t row col).cols=(n:Int)/\(bE t row col).rows.length=m/\(bE t row col).basis.length=mb/\∀ i,i<m->((bE t row col).row i).length<=20:=by
 rcases hs with ⟨T0,rfl,hT⟩|hs|⟨rfl,hs⟩
 ·have h:=lk hT row col;exact ⟨h.cols,h.len,h.blen,fun i hi=>by rw [(h.row i hi).1];omega⟩
 ·rw [fP (fu (mW (by omega)))];exact ⟨hc,hlen,hbl,hl⟩
 ·rw [fP (fu (mX hc hlen (by omega) hs))];exact ⟨hc,hlen,hbl,hl⟩
theorem PivR.parts {base:Nat} {e:Ending} {ok:Bool} (h:PivR w base e t ok):∃ ra m rc ba mb bc vs,e=.returned (.tuple #[tbW ra m rc ba mb bc t.cols,.bool ok])/\OwnT w base (.slice ra m rc) (.slice ba mb bc) vs t/\t.rows.length=m/\t.basis.length=mb:=by
 obtain ⟨va,vb,vs,rfl,ho⟩:=h;obtain ⟨ra,m,rc,rfl,h1⟩:=ho.a.var;obtain ⟨ba,mb,bc,rfl,h2⟩:=ho.b.var;exact ⟨_,_,_,_,_,_,_,rfl,ho,by rw [<-ho.rows.len];exact h1.out,h2.out⟩
end
end Go.Proofs.YthjjfkeacobikaaGreat
namespace Go.Proofs.YthjjfkeacobikaaGreat
set_option maxRecDepth 100000
open Go.RowKit
def eI (w:World) (base:Nat) (e:Ending) (r:NucR):Prop :=
 ∃ pa pn pc sa sn sc,e=.returned (.agg #[.bool r.ok,.slice pa pn pc,.slice sa sn sc,.int .i64 r.rounds])/\OwnR w base (.slice pa pn pc) r.pt/\OwnG fixE 79 w base (.slice sa sn sc) r.st
theorem eI.no (w:World) (base:Nat):eI w base (.returned (.agg #[.bool false,.slice none 0 0,.slice none 0 0,.int .i64 0])) NucR.no :=
 ⟨Option.none,0,0,Option.none,0,0,rfl,OwnR.nil _ _,OwnG.nil _ _ _ _⟩
theorem nbox {w:World} {g:Nat} {a b c d:Value} {t:TypeId} (hb:w.heap[g]?=some (.cells #[a,b,c,d] t (0,0))) :
 w.cell? ⟨g,0,none⟩=some a/\w.cell? ⟨g,1,none⟩=some b/\w.cell? ⟨g,2,none⟩=some c/\w.cell? ⟨g,3,none⟩=some d/\∀ k,w.frozen? ⟨g,k,none⟩=false:=by
 refine ⟨?_,?_,?_,?_,fun k=>frozen_of_row w g k _ _ hb⟩ <;> rw [cell_of_row w g _ _ _ _ hb] <;> rfl
theorem nput {W:World} {r:Nat} {x0 x1 x2 x3:Value} {t:TypeId} (hb:W.heap[r]?=some (.cells #[x0,x1,x2,x3] t (0,0))) (v0 v1 v2 v3:Value) :
 ((((W.setCell ⟨r,0,none⟩ v0).setCell ⟨r,1,none⟩ v1).setCell ⟨r,2,none⟩ v2).setCell ⟨r,3,none⟩ v3).heap[r]?=some (.cells #[v0,v1,v2,v3] t (0,0)) /\
   ∀ b,b ≠ r->((((W.setCell ⟨r,0,none⟩ v0).setCell ⟨r,1,none⟩ v1).setCell ⟨r,2,none⟩ v2).setCell ⟨r,3,none⟩ v3).heap[b]?=W.heap[b]?:=by
 have h1:=heap_setCell_same W r 0 _ t v0 hb;have h2:=heap_setCell_same _ r 1 _ t v1 h1;have h3:=heap_setCell_same _ r 2 _ t v2 h2;have h4:=heap_setCell_same _ r 3 _ t v3 h3;exact ⟨h4,fun b hb2=>(heap_setCell_other _ _ _ _ hb2).trans ((heap_setCell_other _ _ _ _ hb2).trans ((heap_setCell_other _ _ _ _ hb2).trans (heap_setCell_other _ _ _ _ hb2)))⟩
theorem nputX {w W:World} {r:Nat} (hX:Ext w W) (hr:w.heap.size<=r) (v0 v1 v2 v3:Value):Ext w ((((W.setCell ⟨r,0,none⟩ v0).setCell ⟨r,1,none⟩ v1).setCell ⟨r,2,none⟩ v2).setCell ⟨r,3,none⟩ v3) :=
 (((hX.store 0 hr v0).store 1 hr v1).store 2 hr v2).store 3 hr v3
structure NucO (W wr:World) (B:Nat) (vp vs vf:Value) (pt:List (Int × Int)) (L:List (Int × Int × Int)) (fx:List Int) (k:Nat):Prop where
 box:wr.heap[B]?=some (.cells #[.bool true,vp,vs,.int .i64 (k:Int)] 73 (0,0))
 pt:OwnR wr (B+1) vp pt
 st:OwnG fixE 79 wr (B+1) vs L
 fx:OwnI wr (B+1) vf fx
 ext:Ext W wr
 lo:W.heap.size<=B
section
variable {W wr w':World} {B:Nat} {vp vs vf:Value} {pt:List (Int × Int)} {L:List (Int × Int × Int)} {fx:List Int} {k:Nat}
theorem NucO.grow (h:NucO W wr B vp vs vf pt L fx k) (hx:Ext wr w'):NucO W w' B vp vs vf pt L fx k:=⟨hx.blk h.box,h.pt.ext hx,h.st.ext hx,h.fx.ext hx,h.ext.trans hx,h.lo⟩
theorem NucO.lt (h:NucO W wr B vp vs vf pt L fx k):B<wr.heap.size:=lt_of_block h.box
theorem NucO.off {v:Value} (h:∀ k,v.ownBlock=some k->B+1<=k/\k<wr.heap.size) (j:Nat) (u:Value):∀ k,v.ownBlock=some k->(wr.setCell ⟨B,j,none⟩ u).heap[k]?=wr.heap[k]?:=fun k hk=>heap_setCell_other _ _ _ _ (by have:=(h k hk).1;show k ≠ B;omega)
theorem NucO.setP (h:NucO W wr B vp vs vf pt L fx k) {vp':Value} {pt':List (Int × Int)} (hp:OwnR wr (B+1) vp' pt'):NucO W (wr.setCell ⟨B,1,none⟩ vp') B vp' vs vf pt' L fx k :=
 ⟨heap_setCell_same wr B 1 _ _ _ h.box,hp.keep (NucO.off hp.lt 1 _),h.st.keep (NucO.off h.st.lt 1 _),h.fx.keep (NucO.off h.fx.lt 1 _),h.ext.store 1 h.lo _,h.lo⟩
theorem NucO.setK (h:NucO W wr B vp vs vf pt L fx k) {k':Nat} {i:Int} (hi:i=(k':Int)):NucO W (wr.setCell ⟨B,3,none⟩ (.int .i64 i)) B vp vs vf pt L fx k':=by
 subst hi;exact ⟨heap_setCell_same wr B 3 _ _ _ h.box,h.pt.keep (NucO.off h.pt.lt 3 _),h.st.keep (NucO.off h.st.lt 3 _),h.fx.keep (NucO.off h.fx.lt 3 _),h.ext.store 3 h.lo _,h.lo⟩
theorem NucO.grewS (h:NucO W wr B vp vs vf pt L fx k) {w1:World} (hx:Ext wr w1) {vs':Value} {L':List (Int × Int × Int)} (hg:w1.grownBy w' vs.ownBlock) (ho:OwnG fixE 79 w' (B+1) vs' L'):NucO W (w'.setCell ⟨B,2,none⟩ vs') B vp vs' vf pt L' fx k:=by
 have hb:=(hg.block B (lt_of_block (hx.blk h.box)) (fun e=>by have:=(h.st.lt B e.symm).1;omega)).trans (hx.blk h.box);have h1:OwnR w' (B+1) vp pt:=bO (h.pt.ext hx) (h.st.ext hx) (by decide) hg;have h2:OwnI w' (B+1) vf fx:=bO (h.fx.ext hx) (h.st.ext hx) (by decide) hg;exact ⟨heap_setCell_same w' B 2 _ _ _ hb,h1.keep (NucO.off h1.lt 2 _),ho.keep (NucO.off ho.lt 2 _),h2.keep (NucO.off h2.lt 2 _),((h.ext.trans hx).grown hg (fun j hj=>by have:=(h.st.lt j hj).1;have:=h.lo;omega)).store 2 h.lo _,h.lo⟩
theorem NucO.grewP (h:NucO W wr B vp vs vf pt L fx k) {w1:World} (hx:Ext wr w1) {vp':Value} {pt':List (Int × Int)} (hg:w1.grownBy w' vp.ownBlock) (ho:OwnR w' (B+1) vp' pt'):NucO W (w'.setCell ⟨B,1,none⟩ vp') B vp' vs vf pt' L fx k:=by
 have hb:=(hg.block B (lt_of_block (hx.blk h.box)) (fun e=>by have:=(h.pt.lt B e.symm).1;omega)).trans (hx.blk h.box);have h1:OwnG fixE 79 w' (B+1) vs L:=bO (h.st.ext hx) (h.pt.ext hx) (by decide) hg;have h2:OwnI w' (B+1) vf fx:=bO (h.fx.ext hx) (h.pt.ext hx) (by decide) hg;exact ⟨heap_setCell_same w' B 1 _ _ _ hb,ho.keep (NucO.off ho.lt 1 _),h1.keep (NucO.off h1.lt 1 _),h2.keep (NucO.off h2.lt 1 _),((h.ext.trans hx).grown hg (fun j hj=>by have:=(h.pt.lt j hj).1;have:=h.lo;omega)).store 1 h.lo _,h.lo⟩
theorem NucO.grewF (h:NucO W wr B vp vs vf pt L fx k) {w1:World} (hx:Ext wr w1) {vf':Value} {fx':List Int} (hg:w1.grownBy w' vf.ownBlock) (ho:OwnI w' (B+1) vf' fx'):NucO W w' B vp vs vf' pt L fx' k:=by
 have hb:=(hg.block B (lt_of_block (hx.blk h.box)) (fun e=>by have:=(h.fx.lt B e.symm).1;omega)).trans (hx.blk h.box);have h1:OwnR w' (B+1) vp pt:=bO (h.pt.ext hx) (h.fx.ext hx) (by decide) hg;have h2:OwnG fixE 79 w' (B+1) vs L:=bO (h.st.ext hx) (h.fx.ext hx) (by decide) hg;exact ⟨hb,h1,h2,ho,(h.ext.trans hx).grown hg (fun j hj=>by have:=(h.fx.lt j hj).1;have:=h.lo;omega),h.lo⟩
end
structure Stay (lo:Nat) (w w':World):Prop where
 size:w.heap.size<=w'.heap.size
 block:∀ k,lo<=k->k<w.heap.size->w'.heap[k]?=w.heap[k]?
def Off (lo hi:Nat) (v:Value):Prop:=∀ k,v.ownBlock=some k->k<lo ∨ hi<=k
theorem Off.of {lo hi:Nat} {w:World} {base:Nat} {v:Value} (h:∀ k,v.ownBlock=some k->base<=k/\k<w.heap.size) (hl:w.heap.size<=lo):Off lo hi v:=fun k hk=>Or.inl (by have:=(h k hk).2;omega)
theorem Off.nil (lo hi n c:Nat):Off lo hi (.slice none n c):=fun k hk=>by cases hk
theorem Off.near {lo hi:Nat} {w:World} {v v':Value} (h:Off lo hi v) (hn:Near w v v') (hs:hi<=w.heap.size):Off lo hi v':=fun k hk=>by
 rcases hn k hk with h1|h1
 ·exact h k h1
 ·exact Or.inr (by omega)
section
variable {lo:Nat} {w w1 w2:World}
theorem Stay.refl (lo:Nat) (w:World):Stay lo w w:=⟨Nat.le_refl _,fun _ _ _=>rfl⟩
theorem Stay.ext (h:Stay lo w w1) (hx:Ext w1 w2):Stay lo w w2:=⟨Nat.le_trans h.size hx.size,fun k h1 h2=>(hx.block k (Nat.lt_of_lt_of_le h2 h.size)).trans (h.block k h1 h2)⟩
theorem Stay.grown (h:Stay lo w w1) {v:Value} (hg:w1.grownBy w2 v.ownBlock) (ho:Off lo w.heap.size v):Stay lo w w2:=⟨Nat.le_trans h.size hg.size,fun k h1 h2=>(hg.block k (Nat.lt_of_lt_of_le h2 h.size) (fun e=>by have:=ho k e.symm;omega)).trans (h.block k h1 h2)⟩
theorem Stay.set (h:Stay lo w w1) {B j:Nat} (hB:B<lo) (v:Value):Stay lo w (w1.setCell ⟨B,j,none⟩ v):=⟨by rw [World.size_setCell];exact h.size,fun k h1 h2=>(heap_setCell_other _ _ _ _ (by show k ≠ B;omega)).trans (h.block k h1 h2)⟩
theorem Stay.on (h:Stay lo w w1) {P:World->Prop} (ho:On lo w P):On lo w1 P:=ho.keep h.size h.block
theorem Stay.blk (h:Stay lo w w1) {g:Nat} {o:Obj} (hg:lo<=g) (hb:w.heap[g]?=some o):w1.heap[g]?=some o:=(h.block g hg (lt_of_block hb)).trans hb
theorem Stay.ints (h:Stay lo w w1) {base:Nat} {v:Value} {l:List Int} (hb:lo<=base) (ho:OwnI w base v l):OwnI w1 base v l:=ho.keep fun k hk=>h.block k (by have:=(ho.lt k hk).1;omega) (ho.lt k hk).2
end
theorem jv.lpc {w:World} {base:Nat} {e:Ending} {A:List (List Int)} {B:List Int} {C:List (Int × Int)} {ok:Bool} (h:jv w base e A B C ok) :
 ∃ a na ca b nb cb c nc cc,e=.returned (.tuple #[lpW a na ca b nb cb c nc cc,.bool ok])/\LpC w a na ca b nb cb c nc cc A B C:=by
 obtain ⟨va,vb,vc,vs,rfl,h1,h2,h3,h4,h5⟩:=h;obtain ⟨a,na,ca,rfl,_⟩:=h1.var;obtain ⟨b,nb,cb,rfl,_⟩:=h3.var;obtain ⟨c,nc,cc,rfl,_⟩:=h4.var;exact ⟨_,_,_,_,_,_,_,_,_,rfl,(show fW w base (.slice a na ca) A from ⟨vs,h1,h2⟩).intss,h3.ints,h4.rats⟩
theorem OwnG.fixs {w:World} {base:Nat} {a:Option Addr} {n cap:Nat} {L:List (Int × Int × Int)} (h:OwnG fixE 79 w base (.slice a n cap) L):Fixs w a n cap L:=h.slc.fixs
theorem nJ (x:Int) (P:List (Int × Int × Int)) (t:Int × Int × Int):(x :: P.map fun f=>f.1)++[t.1]=x :: (P++[t]).map fun f=>f.1:=by simp
theorem fix_bd {V:List Int} {L:List (Int × Int × Int)} {s:Int} (hs:s<=1000) (h:∀ f ∈ L,f.1<=1000):∀ k:Nat,(s :: L.map (·.1))[k]?.getD 0<=9223372036854775807:=by
 intro k;by_cases hk:k<(s :: L.map (·.1)).length
 ·rw [List.getElem?_eq_getElem hk,Option.getD_some];have hm:=List.getElem_mem hk
  rcases List.mem_cons.1 hm with e|e
  ·rw [e];omega
  ·obtain ⟨f,hf,he⟩:=List.mem_map.1 e;rw [<-he];have:=h f hf;omega
 ·rw [List.getElem?_eq_none (by omega)];decide
end Go.Proofs.YthjjfkeacobikaaGreat
namespace Go.Proofs.YthjjfkeacobikaaGreat
set_option maxRecDepth 100000
open Go.RowKit
def AsksQ (P:Program) (w:World) (fid:FuncId) (ca:Array Value) (Q:List Int->Prop) (p:List Int->Bool):Prop :=
 ∀ (l:List Int) (a:Option Addr) (n c:Nat) (w1:World),Ext w w1->Ints w1 a n c l->Q l->Calls P fid (#[.slice a n c]++ca) w1 fun e w2=>e=.returned (.bool (p l))/\Ext w1 w2
set_option maxHeartbeats 400000 in
theorem jf {w:World} {a:Option Addr} {n cap:Nat} {L:List (List Int)} {fid:FuncId} {ca:Array Value} {Q:List Int->Prop} {p:List Int->Bool} (h:dD w a n cap L) (hg:IsGo Tryz.prog fid) (hf:AsksQ Tryz.prog w fid ca Q p) (hQ:∀ k,k<n->Q (L[k]?.getD [])) :
 Calls Tryz.prog 171 #[.slice a n cap,.func (.func fid) #[] ca] w fun e w'=>e=.returned (.int .i64 (bT p L))/\Ext w w':=by
 have hn:=h.hcap;have hm:=h.hmax;have HQ:=ae hQ;clear hQ;have hcf:∀ (args:Array Value) (w:World),(callFunc fid args).run Tryz.prog w=.ok (.enter fid args) w:=hg;go_enter Tryz.func171,Tryz.ntmps171
 go_wp2
 go_loopw [8] (fun i wr=>∃ k:Nat,k<=n/\i=.int .i64 k/\Hid ((L.take k).all (fun x=>!p x)=true)/\Ext w wr) (fun i _=>n-(intOf i).toNat)
 case atStart=>exact ⟨0,Nat.zero_le _,rfl,ae rfl,Ext.refl _⟩
 case round =>
  obtain ⟨k,hk,rfl,HA,hx⟩:=hrel;by_cases hlt:k<n
  ·obtain ⟨b,off,a',n',c',rfl,hc,hr⟩:=(h.ext hx).at hlt;have HL:=ae h.hlen;have HF:=ae (hf (L[k]?.getD []) a' n' c' wr hx hr (HQ.out k hlt));clear hr;by_cases hb:p (L[k]?.getD [])=true
   ·have HB:=ae hb;go_wp2_with fail;refine HF.out.mono ?_;rintro e w2 ⟨rfl,hx2⟩
    go_wp2
    go_ret;exact ⟨aM (ee (by have:=HL.out;omega) HA.out HB.out).symm,hx.trans (by assumption)⟩
   ·have HB:=ae hb;simp only [Bool.not_eq_true] at hb;go_wp2_with fail;refine HF.out.mono ?_;rintro e w2 ⟨rfl,hx2⟩
    go_wp2
    go_roundw
    case rel=>exact ⟨k+1,by omega,by go_num,ae (by rw [dR (by have:=HL.out;omega),List.all_append,HA.out];simpa using HB.out),hx.trans (by assumption)⟩
    case measure=>simp [intOf];omega
  ·have HL:=ae h.hlen
   go_wp2
   go_ret;refine ⟨aM ?_,hx⟩;have:=HA.out;rw [List.take_of_length_le (by have:=HL.out;omega)] at this;exact (dw this).symm
theorem py {w:World} {bc c n cap:Nat} {a:Option Addr} {l:List Int} (hb:w.cell? ⟨bc,0,none⟩=some (.int .i64 (c:Int))) (h:Ints w a n cap l) (hc:c<n) :
 Calls Tryz.prog 193 #[.slice a n cap,.pointer (some ⟨bc,0,none⟩)] w fun e w'=>e=.returned (.bool (l[c]?.getD 0 != 0))/\w=w':=by
 obtain ⟨b,off,rfl,hcc⟩:=h.at hc;have hmax:=h.hmax;have hcap:=h.hcap;clear h;go_enter Tryz.func193,Tryz.ntmps193
 go_wp2
 go_ret;exact ⟨rfl,rfl⟩
theorem oA:IsGo Tryz.prog 193:=isGo Tryz.func193 (by kernel_rfl) (by kernel_rfl)
theorem lF {w:World} {bc c n:Nat} (hb:w.cell? ⟨bc,0,none⟩=some (.int .i64 (c:Int))) (hc:c<n) :
 AsksQ Tryz.prog w 193 #[.pointer (some ⟨bc,0,none⟩)] (fun l=>l.length=n) (fun r=>r[c]?.getD 0 != 0):=by
 intro l a m cp w1 hx hi hq;have hm:m=n:=by rw [<-hi.hlen];exact hq
 exact (py (hx.cellSome hb) hi (by omega)).mono fun e w2 ⟨he,hw⟩=>⟨he,hw ▸ Ext.refl _⟩
theorem idx_piv {M:List (List Int)} {c d:Nat} (hd:d<=M.length):bT (fun r:List Int=>r[c]?.getD 0 != 0) (M.drop d)=if pivM M c d<M.length then ((pivM M c d-d:Nat):Int) else -1:=by
 unfold bT pivM;cases hf:(M.drop d).findIdx? (fun r=>r[c]?.getD 0 != 0) with
 | none=>simp
 | some k =>
   rw [List.findIdx?_eq_some_iff_getElem] at hf;obtain ⟨h1,_⟩:=hf;rw [List.length_drop] at h1;simp only;rw [if_pos (by omega)]
   congr 1
   omega
theorem gcd_bd {B:Int}:∀ (l:List Int) (g:Int),0<=g->g<=B->(∀ x ∈ l,-B<=x/\x<=B)->0<=l.foldl gI g/\l.foldl gI g<=B
 | [],g,h0,h1,_=>⟨h0,h1⟩
 | x :: l,g,h0,h1,h=>by
   have hx:=h x (by simp);have h2:gI g x<=B:=by
    by_cases hz:x=0
    ·subst hz;rw [kq];omega
    ·have:=gI_le g hz;omega
   exact gcd_bd l (gI g x) (kR g x) h2 fun y hy=>h y (by simp [hy])
theorem digR_bit (n:Nat) (s:Int) {b:Bool} (h:hasP s (n:Int)=b):digR n s++[bitI b]=digR (n+1) s:=by rw [<-h];exact kM n s
set_option maxHeartbeats 16000000 in
theorem i_RankOf {w:World} {n:Int} {a:Option Addr} {m cap:Nat} {l:List Int} (h:Ints w a m cap l) (hl:∀ k:Nat,l[k]?.getD 0<=9223372036854775807) (hm:m<=1048576) :
 Calls Tryz.prog 132 #[.int .i64 n,.slice a m cap] w fun e w'=>e=.returned (.int .i64 (dX n l))/\Ext w w':=by
 have hcapN:=h.hcap;have hcapM:=h.hmax;have HL:=ae h.hlen;have HI:=ae h;have HLB:=ae hl;clear h hl;cases hin:inB n 1 5
 ·have HN:=ae (show dX n l=0 by unfold dX;rw [hin];rfl);have HW:=ae (aU n 1 5 w);rw [hin] at HW;clear hin;go_enter Tryz.func132,Tryz.ntmps132
  go_wp2_with fail;refine HW.out.mono ?_;rintro e w1 ⟨rfl,rfl⟩;go_wp2_with fail;go_ret;exact ⟨aM HN.out.symm,Ext.refl _⟩
 ·obtain ⟨nn,rfl⟩:∃ k:Nat,n=k:=⟨n.toNat,by simp only [inB,Bool.and_eq_true,decide_eq_true_eq] at hin;omega⟩;have h15:1<=nn/\nn<=5:=by simp only [inB,Bool.and_eq_true,decide_eq_true_eq] at hin;omega
  obtain ⟨h1,h5⟩:=h15;have HN:=ae (show dX (nn:Int) l=((runM bJ (l.map (digR nn)) nn).2:Int) by unfold dX;rw [if_pos hin];rfl);have HW:=ae (aU nn 1 5 w);rw [hin] at HW;have HO:=ae (OwnV.madeS w w.heap.size _ rfl (Nat.le_refl _));clear hin;go_enter Tryz.func132,Tryz.ntmps132
  go_wp2_with fail;refine HW.out.mono ?_;rintro e w1 ⟨rfl,rfl⟩;go_wp2_with fail
  go_loopg [5,27] m (fun gk out i wr=>∃ (k G n1 p1:Nat) (vs:List Value),Hid (gk+k=m)/\i=.int .i64 (k:Int)/\out=.slice (some ⟨G,0,none⟩) n1 p1/\Hid (OwnV wr w.heap.size (.slice (some ⟨G,0,none⟩) n1 p1) vs)/\Hid (bj wr w.heap.size vs ((l.take k).map (digR nn)))/\Hid (Ext w wr)/\Hid (w.heap.size<=G))
  case atStart=>exact ⟨0,_,_,_,[],ae (by omega),rfl,rfl,HO,ae (bj.nil _ _),ae (Ext.alloc _ _),ae (Nat.le_refl _)⟩
  case round =>
   obtain ⟨g1,h_g1⟩:∃ x,x=gk:=⟨_,rfl⟩;subst h_g1;obtain ⟨wr1,h_wr1⟩:∃ x,x=wr:=⟨_,rfl⟩;subst h_wr1;obtain ⟨k,G,n1,p1,vs,HK,rfl,rfl,HV,HR,HX,HGW⟩:=hrel;have hsz:=HX.out.size;by_cases hlt:k<m
   ·obtain ⟨b,off,ha,hs0⟩:=(HI.out.ext HX.out).at hlt;subst ha;obtain ⟨s,hs⟩:∃ s,s=l[k]?.getD 0:=⟨_,rfl⟩;rw [<-hs] at hs0;have HS:=ae hs;have hsb:s<=9223372036854775807:=by rw [hs];exact HLB.out k
    have HO2:=ae (OwnI.madeS wr1 wr1.heap.size _ rfl (Nat.le_refl _));have HLV:=ae (show vs.length=k by rw [HR.out.len,List.length_map,List.length_take];have:=HL.out;omega);clear hs;go_wp2_with fail
    go_loopg [8,33] nn (fun gk row i wr=>∃ (j:Nat) (a2:Option Addr) (n2 p2:Nat),Hid (gk+j=nn)/\i=.int .i64 (j:Int)/\row=.slice a2 n2 p2/\Hid (OwnI wr wr1.heap.size (.slice a2 n2 p2) (digR j s))/\Hid (Ext wr1 wr))
    case atStart=>exact ⟨0,_,_,_,ae (by omega),rfl,rfl,HO2,ae (Ext.alloc _ _)⟩
    case round =>
     obtain ⟨g2,h_g2⟩:∃ x,x=gk:=⟨_,rfl⟩;subst h_g2;obtain ⟨wr2,h_wr2⟩:∃ x,x=wr:=⟨_,rfl⟩;subst h_wr2;obtain ⟨j,a2,n2,p2,HJ,rfl,rfl,HO3,HX3⟩:=hrel;have hsz3:=HX3.out.size;by_cases hjn:j<nn
     ·have HLJ:=ae (gS j s);have HHP:=ae (iS s (j:Int) wr2 hsb);cases hhp:hasP s (j:Int)
      all_goals
       rw [hhp] at HHP;have HDS:=ae (digR_bit j s hhp);clear hhp;go_wp2_with fail;refine HHP.out.mono ?_;rintro e w' ⟨rfl,rfl⟩
      ·go_wp2_with (first
        | (at_builtin;refine bw rfl _ _ rfl wr1.heap.size (.slice a2 n2 p2) _ rfl (HO3.out.ext (Ext.alloc _ _)) _ 1 _ [0] rfl (Ints.oneS _ _ _ _ (by simp)) (by rw [HLJ.out];omega) (by simp;omega) ?_;intro v5 w5 ho hg hnear;obtain ⟨a5,n5,p5,rfl,HN5⟩:=ho.var;have HO5:=ae ho;have X5:=ae (aq (HX3.out.trans (Ext.alloc _ _)) hg (fun j hj=>(HO3.out.lt j hj).1));clear ho hg hnear))
       go_roundg (g2-1)
       case measure=>have:=HJ.out;omega
       case rel=>exact ⟨j+1,a5,n5,p5,ae (by have:=HJ.out;omega),by go_num,rfl,ae (by rw [<-HDS.out];exact HO5.out),X5⟩
      ·go_wp2_with (first
        | (at_builtin;refine bw rfl _ _ rfl wr1.heap.size (.slice a2 n2 p2) _ rfl (HO3.out.ext (Ext.alloc _ _)) _ 1 _ [1] rfl (Ints.oneS _ _ _ _ (by simp)) (by rw [HLJ.out];omega) (by simp;omega) ?_;intro v5 w5 ho hg hnear;obtain ⟨a5,n5,p5,rfl,HN5⟩:=ho.var;have HO5:=ae ho;have X5:=ae (aq (HX3.out.trans (Ext.alloc _ _)) hg (fun j hj=>(HO3.out.lt j hj).1));clear ho hg hnear))
       go_roundg (g2-1)
       case measure=>have:=HJ.out;omega
       case rel=>exact ⟨j+1,a5,n5,p5,ae (by have:=HJ.out;omega),by go_num,rfl,ae (by rw [<-HDS.out];exact HO5.out),X5⟩
     ·have hjn':j=nn:=by have:=HJ.out;omega
      subst hjn'
      go_wp2_with (first
       | (at_builtin;refine ea rfl _ _ rfl w.heap.size (.slice (some ⟨G,0,none⟩) n1 p1) vs rfl ((HV.out.ext HX3.out).ext (Ext.alloc _ _)) _ _ 1 rfl (by simp;rfl) rfl (by have:=HLV.out;omega) (by simp;omega) ?_;intro v6 w6 ho hg hnear;obtain ⟨a6,n6,p6,rfl,HN6⟩:=ho.var;obtain ⟨G6,rfl,hG6,_⟩:=ho.cell (k:=0) (by rw [<-ho.len];simp);have HO6:=ae ho;have HR6:=ae (((HR.out.snoc HX3.out HO3.out hsz).ext (Ext.alloc _ _)).grownV ((HV.out.ext HX3.out).ext (Ext.alloc _ _)) hg);have X6:=ae (aq ((HX.out.trans HX3.out).trans (Ext.alloc _ _)) hg (fun j hj=>(HV.out.lt j hj).1));have HG6:=ae hG6;clear ho hg hnear hG6))
      go_roundg (g1-1)
      case measure=>have:=HK.out;omega
      case rel=>exact ⟨k+1,G6,n6,p6,_,ae (by have:=HK.out;omega),by go_num,rfl,HO6,ae (by rw [cw (by have:=HL.out;omega),List.map_append,<-HS.out];exact HR6.out),X6,HG6⟩
   ·have hkm:k=m:=by have:=HK.out;omega
    subst hkm;have HT:=ae (show l.take k=l from List.take_of_length_le (by rw [HL.out];exact Nat.le_refl _));have hn1:n1=k:=by rw [<-HV.out.len,HR.out.len,HT.out,List.length_map,HL.out]
    subst hn1;have HM0:=ae (show Mat wr1 w.heap.size (some ⟨G,0,none⟩) n1 p1 vs (l.map (digR nn)) from ⟨HV.out,by have:=HR.out;rw [HT.out] at this;exact this⟩);obtain ⟨M,hM⟩:∃ M,M=l.map (digR nn):=⟨_,rfl⟩;have HGD0:=ae (show Good nn 1 M by rw [hM];exact gT nn l);rw [<-hM] at HM0 HN;have HLM:=ae HM0.out.len;have hcp1:=HM0.out.cap.1;have hcp2:=HM0.out.cap.2;have hGW:=HGW.out;clear hM;go_wp2_with fail
    go_loopg [11,50] nn (fun gk dn cc wr=>∃ (c d:Nat) (vs:List Value) (K:List (List Int)),Hid (gk+c=nn)/\cc=.int .i64 (c:Int)/\dn=.int .i64 (d:Int)/\Hid (runM bJ M c=(K,d))/\Hid (Mat wr w.heap.size (some ⟨G,0,none⟩) n1 p1 vs K)/\Hid (Ext w wr))
    case atStart=>exact ⟨0,0,vs,M,ae (by omega),rfl,rfl,ae rfl,HM0,HX⟩
    case round =>
     obtain ⟨g3,h_g3⟩:∃ x,x=gk:=⟨_,rfl⟩;subst h_g3;obtain ⟨wr3,h_wr3⟩:∃ x,x=wr:=⟨_,rfl⟩;subst h_wr3;obtain ⟨c,d,vs,K,HK3,rfl,rfl,HRun,HM,HX3⟩:=hrel;by_cases hcn:c<nn
     ·have hok:=fJ kh HGD0.out c (by omega);rw [HRun.out] at hok;obtain ⟨hdc,hKl,hdN,hgd⟩:=hok;simp only at hdc hKl hdN hgd;have HGD:=ae hgd;have HKL:=ae (show K.length=n1 by rw [hKl,HLM.out]);rw [HLM.out] at hdN;obtain ⟨P,hP⟩:∃ P,P=pivM K c d:=⟨_,rfl⟩;have HP:=ae hP;have hpb:=nW K c (d:=d) (by rw [HKL.out];exact hdN);rw [<-hP,HKL.out] at hpb;obtain ⟨hdP,hPN⟩:=hpb;have hszw:=HX3.out.size;have hbcell:(wr3.alloc (.cells #[.int .i64 (c:Int)] 3)).cell? ⟨wr3.heap.size,0,none⟩=some (.int .i64 (c:Int)):=by simp
      have HIDX:=ae (jf ((HM.out.ext (Ext.alloc wr3 (.cells #[.int .i64 (c:Int)] 3))).intss.dropIf hdN) oA (lF hbcell hcn) (by
       intro k hk;rw [List.getElem?_drop]
       exact (HGD.out (d+k) (by rw [HKL.out];omega)).1))
      rw [idx_piv (by rw [HKL.out];exact hdN),<-hP,HKL.out] at HIDX;clear hKl hgd hP;by_cases hPlt:P<n1
      ·rw [if_pos hPlt] at HIDX;obtain ⟨q,hq⟩:∃ q,q=P-d:=⟨_,rfl⟩;rw [<-hq] at HIDX;have HQ:=ae (show P=d+q by omega);clear hq;have hdN':d<n1:=by omega
       rw [if_neg (show ¬ p1=d by omega)] at HIDX;go_wp2_with fail
       (with_reducible refine HIDX.out.mono ?_)
       rintro e w5 ⟨rfl,hx5⟩;have HX5:=ae hx5;have HM5:=ae ((HM.out.ext (Ext.alloc wr3 (.cells #[.int .i64 (c:Int)] 3))).ext hx5);have HBX:=ae (show w5.heap[wr3.heap.size]?=some (.cells #[.int .i64 (c:Int)] 3 (0,0)) from (hx5.block _ (by simp)).trans (heap_alloc_new wr3 _));have hX5w:=(HX3.out.trans (Ext.alloc _ _)).trans hx5;have HXW:=ae hX5w;have hs5:=hx5.size;rw [World.size_alloc] at hs5;clear hx5 hX5w hbcell;obtain ⟨gp,cp,hvp,hcp,hop,hnp,hbp,hgpl,hncp,hcpm⟩:=HM5.out.row hPlt (HGD.out P (by rw [HKL.out];exact hPlt)).1 h1;obtain ⟨gd,cd,hvd,hcd,hod,hnd,hbd,hgdl,hncd,hcdm⟩:=HM5.out.row hdN' (HGD.out d (by rw [HKL.out];exact hdN')).1 h1;obtain ⟨G',hG',hbG,hGl,hfz⟩:=HM5.out.outer (by omega);simp only [Option.some.injEq,Addr.mk.injEq,and_true] at hG';subst hG';have hf1:=hfz d;have hf2:=hfz P;have hps:=dH (M:=K) (c:=c) (d:=d) (by rw [<-HP.out,HKL.out];exact hPlt);rw [<-HP.out] at hps;have hsw:=HM5.out.swap hdN' hPlt;rw [hvp,hvd] at hsw;obtain ⟨M1,hM1⟩:∃ M1,M1=swp K d P:=⟨_,rfl⟩;obtain ⟨vs1,hvs1⟩:∃ v,v=swpV vs d P:=⟨_,rfl⟩;have HG1:=ae (show Good nn (bdM d) M1 by rw [hM1];exact fL HGD.out (by rw [HKL.out];exact hdN') (by rw [HKL.out];exact hPlt));have HL1:=ae (show M1.length=n1 by rw [hM1,cG,HKL.out])
       have HRUN:=ae (show runM bJ M (c+1)=(redM bJ c M1 d n1,d+1) by
        show colM bJ c (runM bJ M c)=_;rw [HRun.out];unfold colM;simp only
        rw [<-HP.out,HKL.out,if_pos hPlt,hM1])
       have HVD:=ae (show vs1[d]?.getD undef=.slice (some ⟨gp,0,none⟩) nn cp by
        rw [hvs1,gQ (by rw [HM.out.vlen];exact hdN') (by rw [HM.out.vlen];exact hPlt)]
        split
        ·next e=>rw [hvd,<-hvp,<-e,hvd]
        ·rw [if_pos rfl,hvp])
       have HROWS:=ae (show ∀ i,i<n1->∃ g c',vs1[i]?.getD undef=.slice (some ⟨g,0,none⟩) nn c'/\g<wr3.heap.size/\g ≠ G by
        intro i hi;rw [hvs1,gQ (by rw [HM.out.vlen];exact hdN') (by rw [HM.out.vlen];exact hPlt)];have key:∀ i,i<n1->∃ g c',vs[i]?.getD undef=.slice (some ⟨g,0,none⟩) nn c'/\g<wr3.heap.size/\g ≠ G:=fun i hi=>by
         obtain ⟨g,c',k1,_,_,k2,_,k3,_⟩:=HM.out.row hi (HGD.out i (by rw [HKL.out];exact hi)).1 h1;exact ⟨g,c',k1,k3,k2⟩
        split
        ·exact key d hdN'
        ·split
         ·exact key _ hPlt
         ·exact key i hi)
       rw [<-hM1,<-hvs1] at hsw;have HSW:=ae hsw;have HGs:=ae (show G<wr3.heap.size by obtain ⟨G',hG',_,h3,_⟩:=HM.out.outer (by omega);simp only [Option.some.injEq,Addr.mk.injEq,and_true] at hG';omega);have hw1:IntKind.i64.wrap ((d:Int)+(q:Int))=(P:Int):=by have:=HQ.out;rw [IntKind.wrap_i64];omega
       have hw3:(d:Int)+(q:Int)=(P:Int):=by have:=HQ.out;omega
       have hw4:IntKind.i64.wrap (P:Int)=(P:Int):=by rw [IntKind.wrap_i64];omega
       clear hsw hps hop hod hvp hvd hM1 hvs1 hfz hbp hbd;by_cases hq0:P=d
       case' pos =>
        have hq00:q=0:=by have:=HQ.out;omega
        have hq1:=hq0.symm;subst hq1;subst hq00;have hsame:=hcp.symm.trans hcd;simp only [Option.some.injEq,Value.slice.injEq,Addr.mk.injEq,and_true,true_and] at hsame;obtain ⟨rfl,rfl⟩:=hsame;clear hcd hf2 hw1 hw3;go_wp2_with fail;refine ci (M:=[17,19]) (S:=(fun w'=>w'.cell? ⟨G,d,none⟩=some (.slice (some ⟨gp,0,none⟩) nn cp)/\True)) (by kernel_rfl) ?_;have hHeld:=(show (fun w':World=>w'.cell? ⟨G,d,none⟩=some (.slice (some ⟨gp,0,none⟩) nn cp)/\True) w5.drew from ⟨hcp,trivial⟩);refine lp 0 ?_;refine lp 1 ?_;refine lp 2 ?_;refine lp 3 ?_;refine lp 4 ?_;refine lp 5 ?_;refine lp 6 ?_;refine lp 7 ?_;refine lp 8 ?_;refine lp 9 ?_;refine lp 10 ?_;refine ll 11 ?_;refine lp 12 ?_;refine lp 13 ?_;refine lp 14 ?_;refine ll 15 ?_;refine lp 16 ?_;refine cq (i:=17) (oi:=?_) (w':=?_) ?_ ?_ ?_ ?_ ?_ ?_ ?_;rotate_left 2
        ·simp only [gA,gB,gC];rfl
        ·kernel_rfl
        ·kernel_rfl
        ·exact of_decide_eq_true (by kernel_rfl)
        ·rfl
        ·go_simp;(try with_reducible rfl)
        try simp only [Act.put,sA,sB,sC]
        refine jO (i:=18) (oi:=?_) (v:=?_) ?_ ?_ ?_ ?_ ?_ ?_ ?_ ?_ ?_;rotate_left 2
        ·simp only [gA,gB,gC];rfl
        ·kernel_rfl
        ·kernel_rfl
        ·kernel_rfl
        ·kernel_rfl
        ·exact fun _ _ _ h=>h
        ·refine Or.inl ⟨by rfl,?_⟩;intro w hSw;(try dsimp only at hSw);go_simp;(try with_reducible rfl)
        ·kernel_rfl
        try simp only [Act.put,sA,sB,sC]
        refine cq (i:=19) (oi:=?_) (w':=?_) ?_ ?_ ?_ ?_ ?_ ?_ ?_;rotate_left 2
        ·simp only [gA,gB,gC];rfl
        ·kernel_rfl
        ·kernel_rfl
        ·exact of_decide_eq_true (by kernel_rfl)
        ·rfl
        ·go_simp;(try with_reducible rfl)
        try simp only [Act.put,sA,sB,sC]
        refine cv (by kernel_rfl) ?_ _
       case' neg =>
        have hne2:¬ d=P:=fun e=>hq0 e.symm
        go_wp2_with fail;refine ci (M:=[17,19]) (S:=(fun w'=>w'.cell? ⟨G,P,none⟩=some (.slice (some ⟨gp,0,none⟩) nn cp)/\w'.cell? ⟨G,d,none⟩=some (.slice (some ⟨gd,0,none⟩) nn cd))) (by kernel_rfl) ?_;have hHeld:=(show (fun w':World=>w'.cell? ⟨G,P,none⟩=some (.slice (some ⟨gp,0,none⟩) nn cp)/\w'.cell? ⟨G,d,none⟩=some (.slice (some ⟨gd,0,none⟩) nn cd)) w5.drew from ⟨hcp,hcd⟩);refine lp 0 ?_;refine lp 1 ?_;refine lp 2 ?_;refine lp 3 ?_;refine lp 4 ?_;refine lp 5 ?_;refine lp 6 ?_;refine lp 7 ?_;refine lp 8 ?_;refine lp 9 ?_;refine lp 10 ?_;refine ll 11 ?_;refine lp 12 ?_;refine lp 13 ?_;refine lp 14 ?_;refine ll 15 ?_;refine lp 16 ?_;refine cq (i:=17) (oi:=?_) (w':=?_) ?_ ?_ ?_ ?_ ?_ ?_ ?_;rotate_left 2
        ·simp only [gA,gB,gC];rfl
        ·kernel_rfl
        ·kernel_rfl
        ·exact of_decide_eq_true (by kernel_rfl)
        ·rfl
        ·go_simp;(try with_reducible rfl)
        try simp only [Act.put,sA,sB,sC]
        refine jO (i:=18) (oi:=?_) (v:=?_) ?_ ?_ ?_ ?_ ?_ ?_ ?_ ?_ ?_;rotate_left 2
        ·simp only [gA,gB,gC];rfl
        ·kernel_rfl
        ·kernel_rfl
        ·kernel_rfl
        ·kernel_rfl
        ·exact fun _ _ _ h=>h
        ·refine Or.inl ⟨by rfl,?_⟩;intro w hSw;(try dsimp only at hSw);go_simp;(try with_reducible rfl)
        ·kernel_rfl
        try simp only [Act.put,sA,sB,sC]
        refine cq (i:=19) (oi:=?_) (w':=?_) ?_ ?_ ?_ ?_ ?_ ?_ ?_;rotate_left 2
        ·simp only [gA,gB,gC];rfl
        ·kernel_rfl
        ·kernel_rfl
        ·exact of_decide_eq_true (by kernel_rfl)
        ·rfl
        ·go_simp;(try with_reducible rfl)
        try simp only [Act.put,sA,sB,sC]
        refine cv (by kernel_rfl) ?_ _
       all_goals
        clear hcp hf1 hGl hw4
        try clear hcd
        try clear hf2
        try clear hw1 hw3
        try clear hHeld
       case' pos =>
        obtain ⟨w6,hw6⟩:∃ W,W=((w5.setCell ⟨G,d,none⟩ (.slice (some ⟨gp,0,none⟩) nn cp)).setCell ⟨G,d,none⟩ (.slice (some ⟨gp,0,none⟩) nn cp)).drew:=⟨_,rfl⟩;rw [<-hw6];have HM6:=ae (show Mat w6 w.heap.size (some ⟨G,0,none⟩) n1 p1 vs1 M1 by rw [hw6];exact HSW.out.ext (Ext.drew _));have HX6:=ae (show Ext w w6 by rw [hw6];exact Ext.trans ((HXW.out.setCell (p:=⟨G,d,none⟩) hGW _).setCell (p:=⟨G,d,none⟩) hGW _) (Ext.drew _))
        have HB6:=ae (show w6.heap[wr3.heap.size]?=some (.cells #[.int .i64 (c:Int)] 3 (0,0)) by
         rw [hw6];have hne:wr3.heap.size ≠ G:=by have:=HGs.out;omega
         show ((w5.setCell ⟨G,d,none⟩ (.slice (some ⟨gp,0,none⟩) nn cp)).setCell ⟨G,d,none⟩ (.slice (some ⟨gp,0,none⟩) nn cp)).heap[wr3.heap.size]?=_
         rw [heap_setCell_other _ _ _ _ hne,heap_setCell_other _ _ _ _ hne];exact HBX.out)
        clear hw6
       case' neg =>
        obtain ⟨w6,hw6⟩:∃ W,W=((w5.setCell ⟨G,d,none⟩ (.slice (some ⟨gp,0,none⟩) nn cp)).setCell ⟨G,P,none⟩ (.slice (some ⟨gd,0,none⟩) nn cd)).drew:=⟨_,rfl⟩;rw [<-hw6];have HM6:=ae (show Mat w6 w.heap.size (some ⟨G,0,none⟩) n1 p1 vs1 M1 by rw [hw6];exact HSW.out.ext (Ext.drew _));have HX6:=ae (show Ext w w6 by rw [hw6];exact Ext.trans ((HXW.out.setCell (p:=⟨G,d,none⟩) hGW _).setCell (p:=⟨G,P,none⟩) hGW _) (Ext.drew _))
        have HB6:=ae (show w6.heap[wr3.heap.size]?=some (.cells #[.int .i64 (c:Int)] 3 (0,0)) by
         rw [hw6];have hne:wr3.heap.size ≠ G:=by have:=HGs.out;omega
         show ((w5.setCell ⟨G,d,none⟩ (.slice (some ⟨gp,0,none⟩) nn cp)).setCell ⟨G,P,none⟩ (.slice (some ⟨gd,0,none⟩) nn cd)).heap[wr3.heap.size]?=_
         rw [heap_setCell_other _ _ _ _ hne,heap_setCell_other _ _ _ _ hne];exact HBX.out)
        clear hw6
       all_goals
        clear HSW HM5 HBX;obtain ⟨gp',cp',hvp,hcp6,hop,hnp,hbp,hgpl6,hncp',hcpm'⟩:=HM6.out.row hdN' (HG1.out d (by rw [HL1.out];exact hdN')).1 h1;have hsame:=HVD.out.symm.trans hvp;simp only [Value.slice.injEq,Option.some.injEq,Addr.mk.injEq,and_true,true_and] at hsame;obtain ⟨rfl,rfl⟩:=hsame;obtain ⟨A,hA,hA'⟩:∃ A:Option Addr,(if p1=d+1 then some (⟨G,0,none⟩:Addr) else some ⟨G,d+1,none⟩)=A/\(d+1<n1->A=some ⟨G,d+1,none⟩):=⟨_,rfl,fun h=>by rw [if_neg (by omega)]⟩;have HA':=ae hA';have hd1:d+1<=n1:=by omega
        clear hvp hop hnp hbp hA';go_wp2_with fail;have HBW:=ae (show w.heap.size<=wr3.heap.size from hszw);clear hA
        go_loopg [88] (n1-(d+1)) (fun gk ii wr=>∃ t:Nat,Hid (gk+(d+1+t)=n1)/\ii=.int .i64 (t:Int)/\Hid (Mat wr w.heap.size (some ⟨G,0,none⟩) n1 p1 vs1 (redM bJ c M1 d (d+1+t)))/\Hid (Ext w wr)/\Hid (wr.heap[wr3.heap.size]?=some (.cells #[.int .i64 (c:Int)] 3 (0,0))))
        case atStart=>exact ⟨0,ae (by omega),rfl,ae (by rw [Nat.add_zero,jW];exact HM6.out),HX6,HB6⟩
        case round =>
         obtain ⟨g4,h_g4⟩:∃ x,x=gk:=⟨_,rfl⟩;subst h_g4;obtain ⟨wr4,h_wr4⟩:∃ x,x=wr:=⟨_,rfl⟩;subst h_wr4;obtain ⟨t,HT,rfl,HM4,HX4,HB4⟩:=hrel;by_cases htN:d+1+t<n1
         ·obtain rfl:=HA'.out (by omega);have htN1:t<n1-(d+1):=by omega
          obtain ⟨tt,htt⟩:∃ tt,tt=d+1+t:=⟨_,rfl⟩;have HTT:=ae htt;have HGR:=ae (show Good nn (bdM (d+1)) (redM bJ c M1 d tt) from jb HG1.out (eJ d (by omega)).2.2 (by rw [HL1.out];exact hdN') fun p r hpl hrl h5 h6=>kh _ nn c p r (eJ d (by omega)).1 hpl hrl h5 h6);rw [<-htt] at HM4;have HRL:=ae (show (redM bJ c M1 d tt).length=n1 by rw [cZ,HL1.out]);obtain ⟨gt,ct,hvt,hct,hot,hnt,hbt,hgtl,hnct,hctm⟩:=HM4.out.row (i:=tt) (by omega) (HGR.out tt (by rw [HRL.out];omega)).1 h1;obtain ⟨gp',cp',hvp,hcp4,hop,hnp,hbp,hgpl4,_,_⟩:=HM4.out.row hdN' (HGR.out d (by rw [HRL.out];exact hdN')).1 h1;have hsame:=HVD.out.symm.trans hvp;simp only [Value.slice.injEq,Option.some.injEq,Addr.mk.injEq,and_true,true_and] at hsame;obtain ⟨rfl,rfl⟩:=hsame;have HVT:=ae hvt
          have HNE:=ae (show gt<wr3.heap.size/\gt ≠ G by
           obtain ⟨g,c',k1,k2,k3⟩:=HROWS.out tt (by omega);rw [hvt] at k1;simp only [Value.slice.injEq,Option.some.injEq,Addr.mk.injEq,and_true,true_and] at k1;obtain ⟨rfl,_⟩:=k1
           exact ⟨k2,k3⟩)
          have HAP:=ae (show gt ≠ gp from fun e=>HM4.out.rows.apart' (i:=d) (j:=tt) (by omega) (by rw [HRL.out];exact hdN') (by rw [HRL.out];omega) (by rw [hvp];rfl) (by rw [hvt,e];rfl));rw [eU _ _ _ _ _ _ (by rw [HL1.out];omega) (by omega)] at hot;rw [eU _ _ _ _ _ _ (by rw [HL1.out];exact hdN') (by omega)] at hop;obtain ⟨r,hr⟩:∃ r,r=M1[tt]?.getD []:=⟨_,rfl⟩;obtain ⟨p,hp⟩:∃ p,p=M1[d]?.getD []:=⟨_,rfl⟩;rw [<-hr] at hot;rw [<-hp] at hop;have HBR:=ae (HG1.out tt (by rw [HL1.out];omega));have HBP:=ae (HG1.out d (by rw [HL1.out];exact hdN'));rw [<-hr] at HBR;rw [<-hp] at HBP;have HOT:=ae hot;have HOP:=ae hop;have HRR:=ae hr;have HPP:=ae hp;obtain ⟨b,off,he,hc0⟩:=hot.ints.at hcn;simp only [Option.some.injEq,Addr.mk.injEq,and_true] at he;obtain ⟨rfl,rfl⟩:=he;rw [Nat.zero_add] at hc0;obtain ⟨rc,hrc⟩:∃ x,x=r[c]?.getD 0:=⟨_,rfl⟩;obtain ⟨pc,hpc⟩:∃ x,x=p[c]?.getD 0:=⟨_,rfl⟩;rw [<-hrc] at hc0;have HRC:=ae hrc;have HPC:=ae hpc;have hbc:=cell_of_one HB4.out;have HIDT:=ae (show d+1+t=tt from htt.symm);rw [htt] at hct;clear hvt hvp hot hop hr hp hrc hpc htt hcp4;by_cases hz:rc=0
          ·have HSK:=ae (pZ (e:=bJ) (c:=c) (M:=M1) (d:=d) (t:=tt) (by have:=HTT.out;omega) (by rw [HL1.out];have:=HTT.out;omega) (by unfold bJ;rw [<-HRR.out,<-HPP.out,<-HRC.out,if_pos hz]));subst hz;go_wp2_with fail
           go_roundg (g4-1)
           case measure=>have:=HT.out;omega
           case rel=>exact ⟨t+1,ae (by have:=HT.out;omega),by go_num,ae (by rw [show d+1+(t+1)=tt+1 by have:=HTT.out;omega,<-HSK.out];exact HM4.out),HX4,HB4⟩
          ·have hzb:(rc != 0)=true:=by simpa using hz
           have hzb':(rc == 0)=false:=by simpa using hz
           obtain ⟨mm,hmm⟩:∃ m,m=mixR c p r:=⟨_,rfl⟩;obtain ⟨Mt,hMt⟩:∃ M,M=redM bJ c M1 d tt:=⟨_,rfl⟩;have htt1:tt<n1:=by have:=HTT.out;omega
           have hdt:d<tt:=by have:=HTT.out;omega
           rw [<-hMt] at HM4 HRL;have HML:=ae (show mm.length=r.length by rw [hmm,dK]);have HMtr:=ae (show Mt[tt]?.getD []=r by rw [hMt,eU _ _ _ _ _ _ (by rw [HL1.out];omega) (by omega),HRR.out]);have HMtp:=ae (show Mt[d]?.getD []=p by rw [hMt,eU _ _ _ _ _ _ (by rw [HL1.out];omega) (by omega),HPP.out])
           have HBM:=ae (show ∀ j:Nat,-2147483648<=mm[j]?.getD 0/\mm[j]?.getD 0<=2147483648 by
            intro j;rw [hmm];have h3:=(eJ d (by omega)).2.1;have h4:=(eJ d (by omega)).1
            exact mq (B:=32768) (fun j=>by have:=HBP.out.2 j;omega) (fun j=>by have:=HBR.out.2 j;omega) j)
           have HBMx:=ae (show ∀ x ∈ mm,(-2147483648:Int)<=x/\x<=2147483648 by
            intro x hx;obtain ⟨j,hj,rfl⟩:=List.getElem_of_mem hx;have:=HBM.out j;rw [List.getElem?_eq_getElem hj] at this
            exact this)
           have HSTEP:=ae (show Mt.set tt (mm.map fun x=>x.tdiv (max (gcdL mm) 1))=redM bJ c M1 d (tt+1) by
            rw [<-iu bJ c M1 d tt hdt (by rw [HL1.out];exact htt1),hMt]
            congr 1
            unfold bJ
            rw [<-HRR.out,<-HPP.out,if_neg (by rw [<-HRC.out];exact hz),hmm])
           have HMM:=ae hmm;clear hmm hMt;go_wp2_with fail
           go_loopg [18,100] nn (fun gk gg jj wr=>∃ (j:Nat) (gv:Int),Hid (gk+j=nn)/\jj=.int .i64 (j:Int)/\gg=.int .i64 gv/\Hid (gv=(mm.take j).foldl gI 0)/\Hid (Mat wr w.heap.size (some ⟨G,0,none⟩) n1 p1 vs1 (Mt.set tt (midL mm r j)))/\Hid (Ext w wr)/\Hid (wr.heap[wr3.heap.size]?=some (.cells #[.int .i64 (c:Int)] 3 (0,0))))
           case atStart=>exact ⟨0,0,ae (by omega),rfl,rfl,ae rfl,ae (by rw [kX,set_same (by rw [HRL.out];exact htt1) HMtr.out];exact HM4.out),HX4,HB4⟩
           case round =>
            obtain ⟨g5,h_g5⟩:∃ x,x=gk:=⟨_,rfl⟩;subst h_g5;obtain ⟨wr5,h_wr5⟩:∃ x,x=wr:=⟨_,rfl⟩;subst h_wr5;obtain ⟨j,gv,HJ,rfl,rfl,HGV,HM5,HX5',HB5⟩:=hrel;have hgvb:=gcd_bd (B:=2147483648) (mm.take j) 0 (by omega) (by omega) (fun x hx=>HBMx.out x (List.mem_of_mem_take hx));rw [<-HGV.out] at hgvb;by_cases hjn:j<nn
            ·have hot:=HM5.out.rows.row tt (by rw [List.length_set,HRL.out];exact htt1);rw [HVT.out,List.getElem?_set_self (by rw [HRL.out];exact htt1)] at hot;have hop:=HM5.out.rows.row d (by rw [List.length_set,HRL.out];exact hdN');rw [HVD.out,List.getElem?_set_ne (by omega),HMtp.out] at hop;obtain ⟨b,off,he,hrj⟩:=hot.ints.at hjn;simp only [Option.some.injEq,Addr.mk.injEq,and_true] at he;obtain ⟨rfl,rfl⟩:=he;rw [Nat.zero_add,Option.getD_some,nN HML.out (by rw [HBR.out.1];exact hjn)] at hrj;obtain ⟨b,off,he,hpj⟩:=hop.ints.at hjn;simp only [Option.some.injEq,Addr.mk.injEq,and_true] at he;obtain ⟨rfl,rfl⟩:=he;rw [Nat.zero_add] at hpj;obtain ⟨b,off,he,hpc0⟩:=hop.ints.at hcn;simp only [Option.some.injEq,Addr.mk.injEq,and_true] at he;obtain ⟨rfl,rfl⟩:=he;rw [Nat.zero_add,<-HPC.out] at hpc0;obtain ⟨g',hg',_,hfz,_⟩:=hot.block hjn;simp only [Option.some.injEq,Addr.mk.injEq,and_true] at hg';subst hg';have hfj:=hfz j;have hbc5:=cell_of_one HB5.out;obtain ⟨rj,hrv⟩:∃ x,x=r[j]?.getD 0:=⟨_,rfl⟩;obtain ⟨pj,hpv⟩:∃ x,x=p[j]?.getD 0:=⟨_,rfl⟩;rw [<-hrv] at hrj;rw [<-hpv] at hpj;have h3:=(eJ d (by omega)).2.1;have hb1:=eS (B:=32768) (x:=rj) (y:=pc) (by have:=HBR.out.2 j;omega) (by have:=HBR.out.2 j;omega) (by have:=HBP.out.2 c;have:=HPC.out;omega) (by have:=HBP.out.2 c;have:=HPC.out;omega)
             have hb2:=eS (B:=32768) (x:=rc) (y:=pj) (by have:=HBR.out.2 c;have:=HRC.out;omega) (by have:=HBR.out.2 c;have:=HRC.out;omega) (by have:=HBP.out.2 j;omega) (by have:=HBP.out.2 j;omega);have hw1:IntKind.i64.wrap (rj*pc)=rj*pc:=by rw [IntKind.wrap_i64];omega
             have hw2:IntKind.i64.wrap (rc*pj)=rc*pj:=by rw [IntKind.wrap_i64];omega
             have hw3:IntKind.i64.wrap (rj*pc-rc*pj)=rj*pc-rc*pj:=by rw [IntKind.wrap_i64];omega
             have HV:=ae (show rj*pc-rc*pj=mm[j]?.getD 0 by rw [HMM.out,fH (by rw [HBR.out.1];exact hjn),hrv,hpv,HPC.out,HRC.out]);have hx18:in18 (rj*pc-rc*pj):=by unfold in18;omega
             have hg18:in18 gv:=by unfold in18;omega
             have HX18:=ae hx18;have HG18:=ae hg18;clear hot hop hrv hpv hb1 hb2 h3 hx18 hg18 hfz hgvb;go_wp2_with fail
             go_still_tail 19,(by kernel_rfl)
             change wpList _ _ _ _ _ wr5.drew;go_wp2_with fail;refine (gU gv (rj*pc-rc*pj) _ HG18.out HX18.out).mono ?_;rintro e w7 ⟨rfl,hd⟩;have hin:=((HM5.out.ext (Ext.drew wr5)).inrow htt1 HVT.out j (rj*pc-rc*pj)).ext hd.ext;rw [HV.out,lB (by rw [HRL.out];exact htt1) HML.out (by rw [HBR.out.1];exact hjn)] at hin;have HIN:=ae hin;have HX7:=ae (Ext.trans (Below.setCell (p:=⟨gt,j,none⟩) (HX5'.out.trans (Ext.drew wr5)) hbt (.int .i64 (rj*pc-rc*pj))) hd.ext)
             have HB7:=ae (show w7.heap[wr3.heap.size]?=some (.cells #[.int .i64 (c:Int)] 3 (0,0)) by
              have hne:wr3.heap.size ≠ gt:=by have:=HNE.out.1;omega
              have h0:(wr5.drew.setCell ⟨gt,j,none⟩ (.int .i64 (rj*pc-rc*pj))).heap[wr3.heap.size]?=some (.cells #[.int .i64 (c:Int)] 3 (0,0)):=by
               rw [heap_setCell_other _ _ _ _ hne];exact HB5.out
              exact (hd.ext.block _ (lt_of_block h0)).trans h0)
             have HGV7:=ae (show gI gv (rj*pc-rc*pj)=(mm.take (j+1)).foldl gI 0 by
              rw [cw (by rw [HML.out,HBR.out.1];exact hjn),List.foldl_append,<-HGV.out,<-HV.out];rfl)
             clear hin hd hw1 hw2 hw3;go_wp2_with fail
             go_roundg (g5-1)
             case measure=>have:=HJ.out;omega
             case rel=>exact ⟨j+1,_,ae (by have:=HJ.out;omega),by go_num,rfl,HGV7,HIN,HX7,HB7⟩
            ·have hjn':j=nn:=by have:=HJ.out;omega
             have HGF:=ae (show max gv 1=max (gcdL mm) 1 by rw [HGV.out,List.take_of_length_le (by rw [HML.out,HBR.out.1];omega)];rfl);have HMID:=ae (show midL mm r j=mm by rw [hjn',<-HBR.out.1,<-HML.out,mp HML.out]);rw [HMID.out] at HM5;subst hjn';obtain ⟨F,hF⟩:∃ F:Int->Int,F=fun x=>x.tdiv (max gv 1):=⟨_,rfl⟩
             have HFM:=ae (show (mm.map F).length=mm.length by simp);have HFS:=ae (show Mt.set tt (mm.map F)=redM bJ c M1 d (tt+1) by rw [hF,HGF.out];exact HSTEP.out);have HFF:=ae hF;clear hF;by_cases hgv:1<=gv
             case' pos =>
              have HD:=ae (show ∀ y,F y=y.tdiv gv by intro y;rw [HFF.out];simp only;congr 1;omega);have hgv':¬ gv<1:=by omega
              have hgz:(gv == 0)=false:=by simp;omega
             case' neg =>
              have hgv0:gv=0:=by omega
              subst hgv0;have HD:=ae (show ∀ y,F y=y by intro y;rw [HFF.out];simp only;rw [show max (0:Int) 1=1 by omega,Int.tdiv_one])
             all_goals
              go_wp2_with fail
              go_loopg [131] j (fun gk ii wr=>∃ i:Nat,Hid (gk+i=j)/\ii=.int .i64 (i:Int)/\Hid (Mat wr w.heap.size (some ⟨G,0,none⟩) n1 p1 vs1 (Mt.set tt (midL (mm.map F) mm i)))/\Hid (Ext w wr)/\Hid (wr.heap[wr3.heap.size]?=some (.cells #[.int .i64 (c:Int)] 3 (0,0))))
              case atStart=>exact ⟨0,ae (by omega),rfl,ae (by rw [kX];exact HM5.out),HX5',HB5⟩
              case round =>
               obtain ⟨g6,h_g6⟩:∃ x,x=gk:=⟨_,rfl⟩;subst h_g6;obtain ⟨wr6,h_wr6⟩:∃ x,x=wr:=⟨_,rfl⟩;subst h_wr6;obtain ⟨i,HI6,rfl,HM6r,HX6r,HB6r⟩:=hrel;by_cases hij:i<j
               ·have hot:=HM6r.out.rows.row tt (by rw [List.length_set,HRL.out];exact htt1);rw [HVT.out,List.getElem?_set_self (by rw [HRL.out];exact htt1),Option.getD_some] at hot;have hlen:=hot.ints.hlen;obtain ⟨b,off,he,hyi⟩:=hot.ints.at hij;simp only [Option.some.injEq,Addr.mk.injEq,and_true] at he;obtain ⟨rfl,rfl⟩:=he;rw [Nat.zero_add,nN HFM.out (by rw [HML.out,HBR.out.1];exact hij)] at hyi;obtain ⟨g',hg',_,hfz,_⟩:=hot.block hij;simp only [Option.some.injEq,Addr.mk.injEq,and_true] at hg';subst hg';have hfi:=hfz i;obtain ⟨yv,hyv⟩:∃ x,x=mm[i]?.getD 0:=⟨_,rfl⟩;rw [<-hyv] at hyi;have hyb:=HBM.out i;rw [<-hyv] at hyb;obtain ⟨hyb1,hyb2⟩:=hyb;have HFI:=ae (show F yv=(mm.map F)[i]?.getD 0 by rw [hyv];simp [HML.out,HBR.out.1,hij]);rw [HD.out] at HFI;have hw0:∀ g:Int,IntKind.i64.wrap (yv.tdiv g)=yv.tdiv g:=by
                 intro g;have h2:(yv.tdiv g).natAbs<=yv.natAbs:=by rw [Int.natAbs_tdiv];exact Nat.div_le_self _ _
                 rw [IntKind.wrap_i64];omega
                first|have hw:=hw0 gv|skip
                clear hot hfz hyv hlen hw0;go_wp2_with fail
                go_roundg (g6-1)
                case measure=>have:=HI6.out;omega
                case rel =>
                 refine ⟨i+1,ae (by have:=HI6.out;omega),by go_num,ae ?_,ae (Below.setCell (p:=⟨gt,i,none⟩) HX6r.out hbt _),ae ?_⟩
                 ·rw [<-lB (m:=mm.map F) (r:=mm) (j:=i) (by rw [HRL.out];exact htt1) HFM.out (by rw [HML.out,HBR.out.1];exact hij),<-HFI.out];exact HM6r.out.inrow htt1 HVT.out i _
                 ·have hne:wr3.heap.size ≠ gt:=by have:=HNE.out.1;omega
                  rw [heap_setCell_other _ _ _ _ hne];exact HB6r.out
               ·have hij':i=j:=by have:=HI6.out;omega
                have HMF:=ae (show Mt.set tt (midL (mm.map F) mm i)=redM bJ c M1 d (tt+1) by
                 rw [<-HFS.out,show i=(mm.map F).length by rw [HFM.out,HML.out,HBR.out.1];exact hij',mp HFM.out])
                rw [HMF.out] at HM6r;subst hij';go_wp2_with fail
                go_roundg (g4-1)
                case measure=>have:=HT.out;omega
                case rel=>exact ⟨t+1,ae (by have:=HT.out;omega),by go_num,ae (by rw [show d+1+(t+1)=tt+1 by have:=HTT.out;omega];exact HM6r.out),HX6r,HB6r⟩
         ·have htN':d+1+t=n1:=by have:=HT.out;omega
          have HTE:=ae htN';have htE2:t=n1-(d+1):=by omega
          rw [htN'] at HM4;clear htN';go_wp2_with fail
          go_roundg (g3-1)
          case measure=>have:=HK3.out;omega
          case rel=>exact ⟨c+1,d+1,vs1,_,ae (by have:=HK3.out;omega),by go_num,by go_num,HRUN,HM4,HX4⟩
      ·rw [if_neg hPlt] at HIDX
       have HRUN:=ae (show runM bJ M (c+1)=(K,d) by
        show colM bJ c (runM bJ M c)=_;rw [HRun.out];unfold colM;simp only
        rw [<-HP.out,HKL.out,if_neg hPlt])
       by_cases hpd:p1=d
       case' pos=>subst hpd;rw [if_pos rfl,show n1-p1=0 by omega,Nat.sub_self] at HIDX
       case' neg=>rw [if_neg hpd] at HIDX
       all_goals
        go_wp2_with fail
        (with_reducible refine HIDX.out.mono ?_)
        rintro e w5 ⟨rfl,hx5⟩;have HX5:=ae ((HX3.out.trans (Ext.alloc _ _)).trans hx5);have HM5:=ae ((HM.out.ext (Ext.alloc wr3 (.cells #[.int .i64 (c:Int)] 3))).ext hx5);clear hx5 hbcell;go_wp2_with fail
        go_roundg (g3-1)
        case measure=>have:=HK3.out;omega
        case rel=>exact ⟨c+1,_,vs,K,ae (by have:=HK3.out;omega),by go_num,rfl,HRUN,HM5,HX5⟩
     ·have hcn':c=nn:=by have:=HK3.out;omega
      subst hcn';go_wp2_with fail;go_ret;exact ⟨aM (by rw [HN.out,HRun.out]),HX3.out⟩
end Go.Proofs.YthjjfkeacobikaaGreat
