import Derived.Test.YthjjfkeacobikaaGreatLeAllG1
import Derived.Test.YthjjfkeacobikaaGreatLeAllG0
import Derived.Test.YthjjfkeacobikaaGreatLeAllG2
import Derived.Test.YthjjfkeacobikaaGreatLeAllG5
set_option linter.unusedVariables false
set_option linter.unusedSimpArgs false
namespace Go.Proofs.YthjjfkeacobikaaGreat
open Go.RowKit
structure Enc (α:Type) where
 enc:α->List Value
 c:Nat
 hc:∀ x,(enc x).length=c
 pos:0<c
 one:∀ x,∀ u ∈ enc x,u.oneCell'=true
def Enc.all {α:Type} (E:Enc α) (l:List α):List Value:=l.flatMap E.enc
theorem Enc.all_append {α:Type} (E:Enc α) (l l':List α):E.all (l++l')=E.all l++E.all l':=by simp [Enc.all]
theorem Enc.all_cons {α:Type} (E:Enc α) (x:α) (l:List α):E.all (x :: l)=E.enc x++E.all l:=by simp [Enc.all]
theorem Enc.all_len {α:Type} (E:Enc α):∀ l:List α,(E.all l).length=l.length*E.c
 | []=>by simp [Enc.all]
 | x :: l=>by rw [E.all_cons,List.length_append,E.hc,E.all_len l,List.length_cons,Nat.succ_mul,Nat.add_comm]
theorem Enc.all_at {α:Type} (E:Enc α):∀ {l:List α} {k j:Nat} {x:α} {v:Value},l[k]?=some x->(E.enc x)[j]?=some v->(E.all l)[k*E.c+j]?=some v
 | [],k,j,x,v,h,_=>by simp at h
 | y :: l,0,j,x,v,h,hj=>by
   simp only [List.getElem?_cons_zero,Option.some.injEq] at h;subst h;have hl:=(List.getElem?_eq_some_iff.1 hj).1;rw [E.all_cons,Nat.zero_mul,Nat.zero_add,List.getElem?_append_left hl,hj]
 | y :: l,k+1,j,x,v,h,hj=>by
   simp only [List.getElem?_cons_succ] at h;rw [E.all_cons,List.getElem?_append_right (by rw [E.hc,Nat.succ_mul];omega),E.hc];rw [show (k+1)*E.c+j-E.c=k*E.c+j by rw [Nat.succ_mul];omega];exact E.all_at h hj
theorem Enc.all_one {α:Type} (E:Enc α) (l:List α):∀ u ∈ E.all l,u.oneCell'=true:=by
 intro u hu;obtain ⟨x,_,hx⟩:=List.mem_flatMap.1 hu;exact E.one x u hx
theorem Enc.split {α:Type} (E:Enc α) {l:List α} {i:Nat} {u:Value} (h:(E.all l)[i]?=some u):∃ k j x,i=k*E.c+j/\l[k]?=some x/\(E.enc x)[j]?=some u:=by
 have hi:i<l.length*E.c:=by have:=(List.getElem?_eq_some_iff.1 h).1;rwa [E.all_len] at this
 have hp:=E.pos;have hk:i / E.c<l.length:=(Nat.div_lt_iff_lt_mul hp).2 hi;have hm:i % E.c<E.c:=Nat.mod_lt _ hp;have he:i=i / E.c*E.c+i % E.c:=by rw [Nat.mul_comm];exact (Nat.div_add_mod i E.c).symm
 refine ⟨i / E.c,i % E.c,l[i / E.c],he,List.getElem?_eq_getElem hk,?_⟩;have hj:i % E.c<(E.enc l[i / E.c]).length:=by rw [E.hc];exact hm
 have:=E.all_at (List.getElem?_eq_getElem hk) (List.getElem?_eq_getElem hj);rw [<-he,h] at this;rw [List.getElem?_eq_getElem hj,this]
structure Slc {α:Type} (E:Enc α) (w:World) (a:Option Addr) (n cap:Nat) (l:List α):Prop where
 hlen:l.length=n
 hcap:n<=cap
 hmax:cap<=9223372036854775807
 cell:∀ k,k<n->∃ b off,a=some ⟨b,off,none⟩/\∀ k x j v,l[k]?=some x->(E.enc x)[j]?=some v->w.cell? ⟨b,off+k*E.c+j,none⟩=some v
theorem Slc.ext {α:Type} {E:Enc α} {w w':World} {a:Option Addr} {n cap:Nat} {l:List α} (h:Slc E w a n cap l) (hx:Ext w w'):Slc E w' a n cap l :=
 ⟨h.hlen,h.hcap,h.hmax,fun k hk=>let ⟨b,off,e,hc⟩:=h.cell k hk;⟨b,off,e,fun k x j v h1 h2=>hx.cellSome (hc k x j v h1 h2)⟩⟩
theorem Slc.at {α:Type} {E:Enc α} {w:World} {a:Option Addr} {n cap:Nat} {l:List α} (h:Slc E w a n cap l) {k:Nat} (hk:k<n) :
 ∃ b off x,a=some ⟨b,off,none⟩/\l[k]?=some x/\∀ j v,(E.enc x)[j]?=some v->w.cell? ⟨b,off+k*E.c+j,none⟩=some v :=
 let ⟨b,off,e,hc⟩:=h.cell k hk
 have hl:k<l.length:=by rw [h.hlen];exact hk
 ⟨b,off,l[k],e,List.getElem?_eq_getElem hl,fun j v hj=>hc k _ j v (List.getElem?_eq_getElem hl) hj⟩
theorem gP {α:Type} {l:List α} {k:Nat} {x:α} (h:l[k]?=some x):l.take (k+1)=l.take k++[x]:=by
 obtain ⟨hk,rfl⟩:=List.getElem?_eq_some_iff.1 h;rw [List.take_succ_eq_append_getElem hk]
def OwnG {α:Type} (E:Enc α) (t:TypeId) (w:World) (base:Nat) (v:Value) (l:List α):Prop:=w.ownsRow base t E.c v l.length (E.all l)
section
variable {α:Type} {E:Enc α} {t:TypeId} {w:World} {base:Nat} {l:List α}
theorem OwnG.form {v:Value} (h:OwnG E t w base v l):∃ a cap,v=.slice a l.length cap/\l.length<=cap/\cap<=9223372036854775807:=by
 rcases h.2 with ⟨rfl,h0⟩|⟨g,cap,cur,rfl,_,_,h1,h2,_⟩
 ·exact ⟨none,0,by rw [h0],by omega,by omega⟩
 ·exact ⟨_,cap,rfl,h1,by simpa [maxLen] using h2⟩
theorem OwnG.var {v:Value} (h:OwnG E t w base v l):∃ a n cap,v=.slice a n cap/\Hid (l.length=n):=by
 obtain ⟨a,cap,e,_⟩:=h.form;exact ⟨a,_,cap,e,rfl⟩
theorem OwnG.slc {a:Option Addr} {n cap:Nat} (h:OwnG E t w base (.slice a n cap) l):Slc E w a n cap l:=by
 rcases h.2 with ⟨he,h0⟩|⟨g,cap',cur,he,_,hg,h1,h2,hs,ht⟩
 ·simp only [Value.slice.injEq] at he;obtain ⟨rfl,rfl,rfl⟩:=he;exact ⟨h0,Nat.le_refl _,by omega,fun k hk=>absurd hk (by omega)⟩
 ·simp only [Value.slice.injEq] at he;obtain ⟨rfl,rfl,rfl⟩:=he;refine ⟨rfl,h1,by simpa [maxLen] using h2,fun k hk=>⟨g,0,rfl,fun k x j v hx hv=>?_⟩⟩;rw [Nat.zero_add,cell_of_row w g _ cur _ (0,0) hg];have q:=E.all_at hx hv;rw [<-ht,List.getElem?_take] at q
  split at q
  ·simpa using q
  ·cases q
theorem OwnG.lt {v:Value} (h:OwnG E t w base v l):∀ k,v.ownBlock=some k->base<=k/\k<w.heap.size:=World.ownsRow.lt h
theorem OwnG.keep {w':World} {v:Value} (h:OwnG E t w base v l) (hk:∀ k,v.ownBlock=some k->w'.heap[k]?=w.heap[k]?):OwnG E t w' base v l:=by
 refine ⟨h.1,?_⟩
 rcases h.2 with hn|⟨g,cap,cur,rfl,hb,hgg,rest⟩
 ·exact .inl hn
 ·exact .inr ⟨g,cap,cur,rfl,hb,(hk g rfl).trans hgg,rest⟩
theorem OwnG.ext {w':World} {v:Value} (h:OwnG E t w base v l) (hx:Ext w w'):OwnG E t w' base v l:=h.keep fun k hk=>hx.block k (h.lt k hk).2
theorem OwnG.mono {base':Nat} {v:Value} (h:OwnG E t w base v l) (hb:base'<=base):OwnG E t w base' v l:=by
 refine ⟨h.1,?_⟩
 rcases h.2 with hn|⟨g,cap,cur,rfl,hbb,rest⟩
 ·exact .inl hn
 ·exact .inr ⟨g,cap,cur,rfl,by omega,rest⟩
theorem OwnG.nil (E:Enc α) (t:TypeId) (w:World) (base:Nat):OwnG E t w base (.slice none 0 0) []:=World.ownsRow_nil w base t _
theorem OwnG.madeS (E:Enc α) (t:TypeId) (W:World) (base:Nat) (n:Nat) (hn:n=W.heap.size) (hb:base<=W.heap.size):OwnG E t (W.alloc (.cells #[] t)) base (.slice (some ⟨n,0,none⟩) 0 0) []:=by
 subst hn;exact World.ownsRow_lit W #[] 0 hb (by omega) (by simp)
theorem OwnG.lit (E:Enc α) (t:TypeId) (W:World) (base:Nat) (l:List α) (cs:Array Value) (hcs:cs=(E.all l).toArray) (n:Nat) (hn:n=W.heap.size) (hb:base<=W.heap.size) (hm:l.length<=1099511627776):OwnG E t (W.alloc (.cells cs t)) base (.slice (some ⟨n,0,none⟩) l.length l.length) l:=by
 subst hn hcs;refine ⟨E.all_len l,.inr ⟨_,l.length,(E.all l).toArray,rfl,hb,heap_alloc_new W _,Nat.le_refl _,by simp [maxLen];omega,by simp [E.all_len],?_⟩⟩
 show List.take _ (E.all l)=_;exact List.take_of_length_le (by rw [E.all_len];exact Nat.le_refl _)
theorem aW {w:World} {base base':Nat} {e e':TypeId} {s s':Nat} {v v':Value} {n n':Nat} {xs xs':List Value} (hne:e ≠ e') (h:w.ownsRow base e s v n xs) (h':w.ownsRow base' e' s' v' n' xs'):∀ k,v.ownBlock=some k->v'.ownBlock ≠ some k:=by
 intro k hk hk'
 rcases h.2 with ⟨rfl,_⟩|⟨g,cap,cur,rfl,_,hg,_⟩
 ·simp [Value.ownBlock] at hk
 ·rcases h'.2 with ⟨rfl,_⟩|⟨g',cap',cur',rfl,_,hg',_⟩
  ·simp [Value.ownBlock] at hk'
  ·simp only [Value.ownBlock,Option.some.injEq] at hk hk';subst hk hk';rw [hg] at hg';simp only [Option.some.injEq,Obj.cells.injEq] at hg';exact hne hg'.2.1
theorem ap {w:World} {base g:Nat} {e e':TypeId} {s:Nat} {v:Value} {n:Nat} {xs:List Value} {c:Array Value} {z:Nat × Nat} (h:w.ownsRow base e s v n xs) (hb:w.heap[g]?=some (.cells c e' z)) (hne:e ≠ e'):some g ≠ v.ownBlock:=by
 intro hk
 rcases h.2 with ⟨rfl,_⟩|⟨g',cap,cur,rfl,_,hg,_⟩
 ·simp [Value.ownBlock] at hk
 ·simp only [Value.ownBlock,Option.some.injEq] at hk;subst hk;rw [hg] at hb;simp only [Option.some.injEq,Obj.cells.injEq] at hb;exact hne hb.2.1
theorem Slc.lit (E:Enc α) (t:TypeId) (W:World) (l:List α) (m:Nat) (hm:l.length=m) (cs:Array Value) (hcs:cs=(E.all l).toArray) (n:Nat) (hn:n=W.heap.size) (hb:m<=1099511627776):Slc E (W.alloc (.cells cs t)) (some ⟨n,0,none⟩) m m l:=by
 subst hm;exact (OwnG.lit E t W 0 l cs hcs n hn (Nat.zero_le _) hb).slc
end
section
variable {α:Type} {E:Enc α} {t:TypeId} {P:Program} {w:World} {ops:Array Oper} {rest:List Oper} {o:Oper} {a:Act} {Q:Exit->Act->World->Prop}
theorem fd {K:Act->World->Prop} {ts:TypeId} {z:Value} {bytes:Nat} (E:Enc α) (hinf:(P.info? t).map (fun i=>(i.zero,i.size,i.bytes))=some (some z,E.c,bytes)) (hz:z.cells.size=E.c) (ht:P.underlying ts=some (.slice t)) (hby:bytes<=64)
 (s x:Operand) (ho:o.op=.call { callee:=.builtin .append,args:=#[s,x],argTypes:=#[ts,ts] })
 (base:Nat) (v:Value) (l:List α) (hs:a.eval s=v) (hown:OwnG E t w base v l) (ao:Option Addr) (m c:Nat) (l':List α) (hx:a.eval x=.slice ao m c) (hi':Slc E w ao m c l') (hb:l.length+m<=1099511627776) (hbase:base<=w.heap.size)
 (h:∀ v' w',OwnG E t w' base v' (l++l')->w.grownBy w' v.ownBlock->Near w v v'->K (a.put o.dst v') w'):o.wp P a w K Q:=by
 obtain ⟨i,hi,hz0,hz1,hz2⟩:∃ i,P.info? t=some i/\i.zero=some z/\i.size=E.c/\i.bytes=bytes:=by
  cases hq:P.info? t with
  | none=>rw [hq] at hinf;simp at hinf
  | some i=>rw [hq] at hinf;simp at hinf;exact ⟨i,rfl,hinf.1,hinf.2.1,hinf.2.2⟩
 cases ao with
 | none =>
   have hm:m=0:=by
    rcases Nat.eq_zero_or_pos m with h0|h0
    ·exact h0
    ·obtain ⟨b,off,e,_⟩:=hi'.cell 0 h0;cases e
   subst hm;have hl:l'=[]:=List.eq_nil_of_length_eq_zero hi'.hlen;subst hl;refine eY w s x ts ho base t i E.c ht hi v l.length _ hs hown c hx ?_;exact h v w (by simpa using hown) (World.grownBy.refl _ _) (Near.refl _ _)
 | some ad =>
   refine em w s x ts ho base t i z E.c bytes ht hi hz0 hz1 hz2 hz E.pos v l.length (E.all l) hs hown ad m c (E.all l') hx (by rw [E.all_len,hi'.hlen]) ?_ (E.all_one l') (by simp [maxLen];omega) (by have:=Nat.mul_le_mul hb hby;omega) hbase ?_
   ·intro i u hu;obtain ⟨k,j,y,he,hk,hj⟩:=E.split hu;have hkl:k<m:=by rw [<-hi'.hlen];exact (List.getElem?_eq_some_iff.1 hk).1
    obtain ⟨b,off,e,hc⟩:=hi'.cell k hkl;simp only [Option.some.injEq] at e;subst e;have ha:∀ k,(⟨b,off,none⟩:Addr).add k=⟨b,off+k,none⟩:=fun k=>by unfold Addr.add;split <;> simp_all
    rw [ha,he,<-Nat.add_assoc];exact hc k y j u hk hj
   ·intro v' w' h1 h2 h3;refine h v' w' ?_ h2 h3;unfold OwnG;rw [List.length_append,hi'.hlen,E.all_append];exact h1
theorem nV {ts:TypeId} {z:Value} {bytes:Nat} (E:Enc α) (hinf:(P.info? t).map (fun i=>(i.zero,i.size,i.bytes))=some (some z,E.c,bytes)) (hz:z.cells.size=E.c) (ht:P.underlying ts=some (.slice t)) (hby:bytes<=64) (hgd:o.guard=none)
 (s x:Operand) (ho:o.op=.call { callee:=.builtin .append,args:=#[s,x],argTypes:=#[ts,ts] })
 (base:Nat) (v:Value) (l:List α) (hs:a.eval s=v) (hown:OwnG E t w base v l) (ao:Option Addr) (m c:Nat) (l':List α) (hx:a.eval x=.slice ao m c) (hi':Slc E w ao m c l') (hb:l.length+m<=1099511627776) (hbase:base<=w.heap.size)
 (h:∀ v' w',OwnG E t w' base v' (l++l')->w.grownBy w' v.ownBlock->Near w v v'->wpList P ops Q rest (a.put o.dst v') w'):wpList P ops Q (o :: rest) a w :=
 wpList_plain hgd fun _ hK=>fd E hinf hz ht hby s x ho base v l hs hown ao m c l' hx hi' hb hbase fun v' w' h1 h2 h3=>hK _ _ (h v' w' h1 h2 h3)
end
end Go.Proofs.YthjjfkeacobikaaGreat
namespace Go.Proofs.YthjjfkeacobikaaGreat
open Go.RowKit
structure Rats (w:World) (a:Option Addr) (n cap:Nat) (l:List (Int × Int)):Prop where
 hlen:l.length=n
 hcap:n<=cap
 hmax:cap<=9223372036854775807
 cell:∀ k,k<n->∃ b off,a=some ⟨b,off,none⟩/\∀ k,k<n->w.cell? ⟨b,off+k*2,none⟩=some (.int .i64 (l[k]?.getD (0,0)).1)/\w.cell? ⟨b,off+k*2+1,none⟩=some (.int .i64 (l[k]?.getD (0,0)).2)
theorem Rats.ext {w w':World} {a:Option Addr} {n cap:Nat} {l:List (Int × Int)} (h:Rats w a n cap l) (hx:Ext w w'):Rats w' a n cap l :=
 ⟨h.hlen,h.hcap,h.hmax,fun k hk=>let ⟨b,off,e,hc⟩:=h.cell k hk;⟨b,off,e,fun k hk=>⟨hx.cellSome (hc k hk).1,hx.cellSome (hc k hk).2⟩⟩⟩
theorem Rats.at {w:World} {a:Option Addr} {n cap:Nat} {l:List (Int × Int)} (h:Rats w a n cap l) {k:Nat} (hk:k<n) :
 ∃ b off x y,a=some ⟨b,off,none⟩/\l[k]?.getD (0,0)=(x,y)/\w.cell? ⟨b,off+k*2,none⟩=some (.int .i64 x)/\w.cell? ⟨b,off+k*2+1,none⟩=some (.int .i64 y) :=
 let ⟨b,off,e,hc⟩:=h.cell k hk;⟨b,off,_,_,e,rfl,(hc k hk).1,(hc k hk).2⟩
theorem ev {l:List (Int × Int)} {k:Nat} (h:k<l.length):l.take (k+1)=l.take k++[l[k]?.getD (0,0)]:=by
 rw [List.take_succ_eq_append_getElem h];simp [h]
set_option maxHeartbeats 1000000 in
theorem nU {w:World} {a a':Option Addr} {n n' cap cap':Nat} {l l':List (Int × Int)} (h:Rats w a n cap l) (h':Rats w a' n' cap' l') :
 Calls Tryz.prog 35 #[.slice a n cap,.slice a' n' cap'] w fun e w'=>e=.returned (.bool (decide (l=l')))/\Drew w w':=by
 have hn:=h.hcap;have hm:=h.hmax;have hn':=h'.hcap;have hm':=h'.hmax;have HL:=ae h.hlen;have HL':=ae h'.hlen;by_cases hne:n=n'
 ·subst hne;go_enter Tryz.func35,Tryz.ntmps35
  go_wp2
  go_loopw [5] (fun i wr=>∃ k:Nat,k<=n/\i=.int .i64 k/\l.take k=l'.take k/\Drew w wr) (fun i _=>n-(intOf i).toNat)
  case atStart=>exact ⟨0,Nat.zero_le _,rfl,rfl,Drew.refl _⟩
  case round =>
   obtain ⟨k,hk,rfl,htk,hx⟩:=hrel;have HT:=ae htk;clear htk;by_cases hlt:k<n
   ·have h1:=h.ext hx.ext;have h1':=h'.ext hx.ext;obtain ⟨b,off,x,y,rfl,hxy,hc1,hc2⟩:=h1.at hlt;obtain ⟨b',off',x',y',rfl,hxy',hc1',hc2'⟩:=h1'.at hlt;have HXY:=ae hxy;have HXY':=ae hxy';clear hxy hxy';by_cases hq:x=x'/\y=y'
    ·obtain ⟨rfl,rfl⟩:=hq
     go_wp2
     go_quiet (fail)
     go_wp2
     go_roundw
     case rel=>exact ⟨k+1,by omega,by go_num,by rw [ev (by have:=HL.out;omega),ev (by have:=HL'.out;omega),HT.out,HXY.out,HXY'.out],hx.trans ⟨_,rfl⟩⟩
     case measure=>simp [intOf];omega
    ·have HQ:=ae hq;cases hx1:(x == x')
     all_goals
      cases hy1:(y == y')
     case neg.true.true=>exact absurd ⟨by simpa using hx1,by simpa using hy1⟩ hq
     all_goals
      clear hq
      go_wp2
      go_quiet (fail)
      go_wp2
      go_ret;refine ⟨ag ?_,hx.trans ⟨_,rfl⟩⟩
      symm
      rw [decide_eq_false_iff_not];intro e;have:=HXY.out.symm.trans ((congrArg (fun l=>l[k]?.getD (0,0)) e).trans HXY'.out);simp only [Prod.mk.injEq] at this;exact HQ.out this
   ·go_wp2
    go_ret;refine ⟨ag ?_,hx⟩
    symm
    rw [decide_eq_true_eq];have:=HT.out
    rwa [List.take_of_length_le (by have:=HL.out;omega),List.take_of_length_le (by have:=HL'.out;omega)] at this
 ·have hne':((n:Int) != (n':Int))=true:=by simp;omega
  have HN:=ae hne;clear hne;go_enter Tryz.func35,Tryz.ntmps35
  go_wp2
  go_ret;refine ⟨ag ?_,Drew.refl _⟩
  symm
  rw [decide_eq_false_iff_not];intro e;exact HN.out (by rw [<-HL.out,<-HL'.out,e])
def ratCells (l:List (Int × Int)):Array Value:=(l.flatMap fun p=>[Value.int .i64 p.1,Value.int .i64 p.2]).toArray
theorem mc:∀ (l:List (Int × Int)) (k:Nat),k<l.length->(l.flatMap fun p=>[Value.int .i64 p.1,Value.int .i64 p.2])[k*2]?=some (.int .i64 (l[k]?.getD (0,0)).1)/\(l.flatMap fun p=>[Value.int .i64 p.1,Value.int .i64 p.2])[k*2+1]?=some (.int .i64 (l[k]?.getD (0,0)).2)
 | [],k,h=>absurd h (by simp)
 | p :: l,0,_=>by simp
 | p :: l,k+1,h=>by
   have:=mc l k (by simpa using h);rw [show (k+1)*2=k*2+1+1 by omega]
   simpa using this
theorem oh:∀ (l:List (Int × Int)) (k:Nat) (x y:Int),k<l.length->((l.flatMap fun p=>[Value.int .i64 p.1,Value.int .i64 p.2]).set (k*2) (.int .i64 x)).set (k*2+1) (.int .i64 y)=(l.set k (x,y)).flatMap fun p=>[Value.int .i64 p.1,Value.int .i64 p.2]
 | [],k,_,_,h=>absurd h (by simp)
 | p :: l,0,_,_,_=>by simp
 | p :: l,k+1,x,y,h=>by
   have:=oh l k x y (by simpa using h);rw [show (k+1)*2=k*2+1+1 by omega]
   simpa using this
theorem kp:∀ l:List (Int × Int),(l.flatMap fun p=>[Value.int .i64 p.1,Value.int .i64 p.2]).length=l.length*2
 | []=>rfl
 | p :: l=>by have:=kp l;simp at this ⊢;omega
def RRow (w:World) (b:Nat) (t:TypeId) (l:List (Int × Int)):Prop:=w.heap[b]?=some (.cells (ratCells l) t (0,0))
theorem Tryz.infoRat:(Tryz.prog.info? 43).map (fun i=>(i.zero,i.size,i.bytes))=some (some (.agg #[.int .i64 0,.int .i64 0]),2,16):=by kernel_rfl
def ratL (l:List (Int × Int)):List Value:=l.flatMap fun p=>[Value.int .i64 p.1,Value.int .i64 p.2]
theorem pT (l l':List (Int × Int)):ratL (l++l')=ratL l++ratL l':=by simp [ratL]
theorem oU:∀ (l:List (Int × Int)),∀ u ∈ ratL l,u.oneCell'=true
 | [],u,h=>by simp [ratL] at h
 | p :: l,u,h=>by
   simp only [ratL,List.flatMap_cons,List.mem_append,List.mem_cons,List.not_mem_nil,or_false] at h
   rcases h with (rfl|rfl)|h
   ·rfl
   ·rfl
   ·exact oU l u h
def OwnR (w:World) (base:Nat) (v:Value) (l:List (Int × Int)):Prop:=w.ownsRow base 43 2 v l.length (ratL l)
theorem OwnR.form {w:World} {base:Nat} {v:Value} {l:List (Int × Int)} (h:OwnR w base v l):∃ a cap,v=.slice a l.length cap/\l.length<=cap/\cap<=9223372036854775807:=by
 rcases h.2 with ⟨rfl,h0⟩|⟨g,cap,cur,rfl,_,_,h1,h2,_⟩
 ·exact ⟨none,0,by rw [h0],by omega,by omega⟩
 ·exact ⟨_,cap,rfl,h1,by simpa [maxLen] using h2⟩
theorem OwnR.var {w:World} {base:Nat} {v:Value} {l:List (Int × Int)} (h:OwnR w base v l):∃ a n cap,v=.slice a n cap/\Hid (l.length=n):=by
 obtain ⟨a,cap,e,_⟩:=h.form;exact ⟨a,_,cap,e,rfl⟩
theorem OwnR.rats {w:World} {base:Nat} {a:Option Addr} {n cap:Nat} {l:List (Int × Int)} (h:OwnR w base (.slice a n cap) l):Rats w a n cap l:=by
 rcases h.2 with ⟨he,h0⟩|⟨g,cap',cur,he,_,hg,h1,h2,hs,ht⟩
 ·simp only [Value.slice.injEq] at he;obtain ⟨rfl,rfl,rfl⟩:=he;exact ⟨h0,Nat.le_refl _,by omega,fun k hk=>absurd hk (by omega)⟩
 ·simp only [Value.slice.injEq] at he;obtain ⟨rfl,rfl,rfl⟩:=he;refine ⟨rfl,h1,by simpa [maxLen] using h2,fun k hk=>⟨g,0,rfl,fun k hk=>?_⟩⟩;rw [Nat.zero_add,cell_of_row w g _ cur _ (0,0) hg,cell_of_row w g _ cur _ (0,0) hg];obtain ⟨q1,q2⟩:=mc l k hk;change (ratL l)[k*2]?=_ at q1;change (ratL l)[k*2+1]?=_ at q2;rw [<-ht,List.getElem?_take,if_pos (by omega)] at q1 q2;exact ⟨by simpa using q1,by simpa using q2⟩
theorem OwnR.lt {w:World} {base:Nat} {v:Value} {l:List (Int × Int)} (h:OwnR w base v l):∀ k,v.ownBlock=some k->base<=k/\k<w.heap.size:=World.ownsRow.lt h
theorem OwnR.keep {w w':World} {base:Nat} {v:Value} {l:List (Int × Int)} (h:OwnR w base v l) (hk:∀ k,v.ownBlock=some k->w'.heap[k]?=w.heap[k]?):OwnR w' base v l:=by
 refine ⟨h.1,?_⟩
 rcases h.2 with hn|⟨g,cap,cur,rfl,hb,hgg,rest⟩
 ·exact .inl hn
 ·exact .inr ⟨g,cap,cur,rfl,hb,(hk g rfl).trans hgg,rest⟩
theorem OwnR.ext {w w':World} {base:Nat} {v:Value} {l:List (Int × Int)} (h:OwnR w base v l) (hx:Ext w w'):OwnR w' base v l:=h.keep fun k hk=>hx.block k (h.lt k hk).2
theorem OwnR.on {w:World} {base:Nat} {v:Value} {l:List (Int × Int)} (h:OwnR w base v l):On base w (fun W=>OwnR W base v l):=fun w2 h2=>h.keep fun k hk=>h2 k (h.lt k hk).1 (h.lt k hk).2
theorem OwnR.mono {w:World} {base base':Nat} {v:Value} {l:List (Int × Int)} (h:OwnR w base v l) (hb:base'<=base):OwnR w base' v l:=by
 refine ⟨h.1,?_⟩
 rcases h.2 with hn|⟨g,cap,cur,rfl,hbb,rest⟩
 ·exact .inl hn
 ·exact .inr ⟨g,cap,cur,rfl,by omega,rest⟩
theorem OwnR.nil (w:World) (base:Nat):OwnR w base (.slice none 0 0) []:=World.ownsRow_nil w base _ 2
section
variable {P:Program} {w:World} {ops:Array Oper} {rest:List Oper} {o:Oper} {a:Act} {Q:Exit->Act->World->Prop}
theorem cH {K:Act->World->Prop} (s x:Operand) (ho:o.op=.call { callee:=.builtin .append,args:=#[s,x],argTypes:=#[36,36] })
 (base:Nat) (v:Value) (l:List (Int × Int)) (hs:a.eval s=v) (hown:OwnR w base v l) (ao:Option Addr) (m c:Nat) (l':List (Int × Int)) (hx:a.eval x=.slice ao m c) (hi':Rats w ao m c l') (hb:l.length+m<=1099511627776) (hbase:base<=w.heap.size)
 (h:∀ v' w',OwnR w' base v' (l++l')->w.grownBy w' v.ownBlock->Near w v v'->K (a.put o.dst v') w'):o.wp Tryz.prog a w K Q:=by
 obtain ⟨i,hi,hz0,hz1,hz2⟩:=info_parts Tryz.infoRat;cases ao with
 | none =>
   have hm:m=0:=by
    rcases Nat.eq_zero_or_pos m with h0|h0
    ·exact h0
    ·obtain ⟨b,off,e,_⟩:=hi'.cell 0 h0;cases e
   subst hm;have hl:l'=[]:=List.eq_nil_of_length_eq_zero hi'.hlen;subst hl;refine eY w s x 36 ho base 43 i 2 Tryz.underlying36 hi v l.length _ hs hown c hx ?_;exact h v w (by simpa using hown) (World.grownBy.refl _ _) (Near.refl _ _)
 | some ad =>
   refine em w s x 36 ho base 43 i (.agg #[.int .i64 0,.int .i64 0]) 2 16 Tryz.underlying36 hi hz0 hz1 hz2 rfl (by decide) v l.length (ratL l) hs hown ad m c (ratL l') hx (by have:=kp l';have:=hi'.hlen;unfold ratL;omega) ?_ (oU l') (by simp [maxLen];omega) (by omega) hbase ?_
   ·intro j u hu;have hjl:j<l'.length*2:=by
     have:=(List.getElem?_eq_some_iff.1 hu).1;have h2:=kp l';unfold ratL at this;omega
    have hml:=hi'.hlen;obtain ⟨b,off,e,hc⟩:=hi'.cell (j / 2) (by omega);simp only [Option.some.injEq] at e;subst e;obtain ⟨c1,c2⟩:=hc (j / 2) (by omega);obtain ⟨q1,q2⟩:=mc l' (j / 2) (by omega);change (ratL l')[j / 2*2]?=_ at q1;change (ratL l')[j / 2*2+1]?=_ at q2;have hj:j=j / 2*2 ∨ j=j / 2*2+1:=by omega
    have ha:∀ k,(⟨b,off,none⟩:Addr).add k=⟨b,off+k,none⟩:=fun k=>by unfold Addr.add;split <;> simp_all
    rw [ha]
    rcases hj with hj|hj
    ·rw [hj] at hu ⊢;rw [q1] at hu;rw [c1,<-hu]
    ·rw [hj] at hu ⊢;rw [q2] at hu;rw [<-Nat.add_assoc,c2,<-hu]
   ·intro v' w' h1 h2 h3;refine h v' w' ?_ h2 h3;unfold OwnR;rw [List.length_append,hi'.hlen,pT];exact h1
theorem aG (hgd:o.guard=none) (s x:Operand) (ho:o.op=.call { callee:=.builtin .append,args:=#[s,x],argTypes:=#[36,36] })
 (base:Nat) (v:Value) (l:List (Int × Int)) (hs:a.eval s=v) (hown:OwnR w base v l) (ao:Option Addr) (m c:Nat) (l':List (Int × Int)) (hx:a.eval x=.slice ao m c) (hi':Rats w ao m c l') (hb:l.length+m<=1099511627776) (hbase:base<=w.heap.size)
 (h:∀ v' w',OwnR w' base v' (l++l')->w.grownBy w' v.ownBlock->Near w v v'->wpList Tryz.prog ops Q rest (a.put o.dst v') w'):wpList Tryz.prog ops Q (o :: rest) a w :=
 wpList_plain hgd fun _ hK=>cH s x ho base v l hs hown ao m c l' hx hi' hb hbase fun v' w' h1 h2 h3=>hK _ _ (h v' w' h1 h2 h3)
end
theorem OwnR.made (w:World) (base:Nat) (hb:base<=w.heap.size):OwnR (w.alloc (.cells #[] 43)) base (.slice (some ⟨w.heap.size,0,none⟩) 0 0) [] :=
 World.ownsRow_lit w #[] 0 hb (by omega) rfl
theorem Rats.one (w:World) (x y:Int) (t:TypeId):Rats (w.alloc (.cells #[.int .i64 x,.int .i64 y] t)) (some ⟨w.heap.size,0,none⟩) 1 1 [(x,y)] :=
 ⟨rfl,Nat.le_refl _,by omega,fun k hk=>⟨_,0,rfl,fun k hk=>by
  obtain rfl:k=0:=by omega
  simp⟩⟩
theorem Rats.one' (w:World) (x y:Int) (t:TypeId) (n:Nat) (hn:n=w.heap.size):Rats (w.alloc (.cells #[.int .i64 x,.int .i64 y] t)) (some ⟨n,0,none⟩) 1 1 [(x,y)]:=by
 subst hn;exact Rats.one w x y t
theorem OwnR.set {w:World} {base g n cap:Nat} {l:List (Int × Int)} (h:OwnR w base (.slice (some ⟨g,0,none⟩) n cap) l) {k:Nat} (hk:k<l.length) (x y:Int) :
 OwnR ((w.setCell ⟨g,k*2,none⟩ (.int .i64 x)).setCell ⟨g,k*2+1,none⟩ (.int .i64 y)) base (.slice (some ⟨g,0,none⟩) n cap) (l.set k (x,y)):=by
 obtain ⟨a',c',he,_⟩:=OwnR.form h;simp only [Value.slice.injEq] at he;obtain ⟨_,rfl,_⟩:=he;have h1:=(World.ownsRow.stored h (k*2) (.int .i64 x)).1;have h2:=(World.ownsRow.stored h1 (k*2+1) (.int .i64 y)).1;unfold OwnR;rw [List.length_set];have e:=oh l k x y hk;change _=ratL (l.set k (x,y)) at e;rw [<-e];exact h2
theorem OwnR.block {w:World} {base:Nat} {a:Option Addr} {n cap:Nat} {l:List (Int × Int)} (h:OwnR w base (.slice a n cap) l) {k:Nat} (hk:k<n):∃ g,a=some ⟨g,0,none⟩/\base<=g/\(∀ j,w.frozen? ⟨g,j,none⟩=false)/\g<w.heap.size:=by
 rcases h.2 with ⟨he,h0⟩|⟨g,cap',cur,he,hb,hg,_⟩
 ·simp only [Value.slice.injEq] at he;omega
 ·simp only [Value.slice.injEq] at he;obtain ⟨rfl,_⟩:=he;exact ⟨g,rfl,hb,fun j=>frozen_of_row w g j cur _ hg,lt_of_block hg⟩
end Go.Proofs.YthjjfkeacobikaaGreat
namespace Go.Proofs.YthjjfkeacobikaaGreat
open Go.RowKit
theorem Ext.store {w w':World} (h:Ext w w') {b:Nat} (k:Nat) (hb:w.heap.size<=b) (v:Value):Ext w (w'.setCell ⟨b,k,none⟩ v):=Below.setCell h (p:=⟨b,k,none⟩) hb v
theorem Ext.grown {w0 w w':World} {row:Option Nat} (h:Ext w0 w) (hg:w.grownBy w' row) (hr:∀ k,row=some k->w0.heap.size<=k):Ext w0 w':=ak h hg hr
def OffV (vs:List Value) (v:Value):Prop:=∀ i k,i<vs.length->(vs[i]?.getD undef).ownBlock=some k->v.ownBlock ≠ some k
theorem OffV.nil (v:Value):OffV [] v:=fun i k h=>absurd h (by simp)
theorem OffV.near {w:World} {base:Nat} {vs:List Value} {A:List (List Int)} {v v':Value} (h:OffV vs v) (hr:bj w base vs A) (hn:Near w v v'):OffV vs v':=by
 intro i k hi hk hk'
 rcases hn k hk' with h1|h1
 ·exact h i k hi hk h1
 ·have:=((hr.row i (by rw [<-hr.len];exact hi)).lt k hk).2;omega
theorem OffV.snoc {w w':World} {base:Nat} {vs:List Value} {B r:List Int} {v vr:Value} (h:OffV vs v) (hb:OwnI w base v B) (hr:OwnI w' w.heap.size vr r):OffV (vs++[vr]) v:=by
 intro i k hi hk hk';by_cases hl:i<vs.length
 ·rw [List.getElem?_append_left hl] at hk;exact h i k hl hk hk'
 ·have hie:i=vs.length:=by simp at hi;omega
  subst hie;rw [List.getElem?_concat_length,Option.getD_some] at hk;have h1:=(hb.lt k hk').2;have h2:=(hr.lt k hk).1;omega
structure LpO (w:World) (base g:Nat) (va vb vc:Value) (vs:List Value) (A:List (List Int)) (B:List Int) (C:List (Int × Int)):Prop where
 box:w.heap[g]?=some (.cells #[va,vb,vc] 109 (0,0))
 hg:base<=g
 a:OwnV w base va vs
 rows:bj w base vs A
 b:OwnI w base vb B
 off:OffV vs vb
 c:OwnR w base vc C
section
variable {w:World} {base g:Nat} {va vb vc:Value} {vs:List Value} {A:List (List Int)} {B:List Int} {C:List (Int × Int)}
theorem LpO.lt (h:LpO w base g va vb vc vs A B C):g<w.heap.size:=lt_of_block h.box
theorem LpO.ext {w':World} (h:LpO w base g va vb vc vs A B C) (hx:Ext w w'):LpO w' base g va vb vc vs A B C :=
 ⟨(hx.block _ h.lt).trans h.box,h.hg,h.a.ext hx,h.rows.ext hx,h.b.ext hx,h.off,h.c.ext hx⟩
theorem LpO.c0 (h:LpO w base g va vb vc vs A B C):w.cell? ⟨g,0,none⟩=some va:=by rw [cell_of_row w g 0 _ _ _ h.box];rfl
theorem LpO.c1 (h:LpO w base g va vb vc vs A B C):w.cell? ⟨g,1,none⟩=some vb:=by rw [cell_of_row w g 1 _ _ _ h.box];rfl
theorem LpO.c2 (h:LpO w base g va vb vc vs A B C):w.cell? ⟨g,2,none⟩=some vc:=by rw [cell_of_row w g 2 _ _ _ h.box];rfl
theorem LpO.free (h:LpO w base g va vb vc vs A B C) (k:Nat):w.frozen? ⟨g,k,none⟩=false:=frozen_of_row w g k _ _ h.box
theorem LpO.new {w:World} {base:Nat} (hb:base<=w.heap.size):LpO (w.alloc (.cells #[.slice none 0 0,.slice none 0 0,.slice none 0 0] 109)) base w.heap.size (.slice none 0 0) (.slice none 0 0) (.slice none 0 0) [] [] [] [] :=
 ⟨heap_alloc_new _ _,hb,OwnV.nil _ _,bj.nil _ _,OwnI.nil _ _,OffV.nil _,OwnR.nil _ _⟩
theorem LpO.boxc0 {x y z:Value} (h:w.heap[g]?=some (.cells #[x,y,z] 109 (0,0))):w.cell? ⟨g,0,none⟩=some x:=by rw [cell_of_row w g 0 _ _ _ h];rfl
theorem LpO.boxc1 {x y z:Value} (h:w.heap[g]?=some (.cells #[x,y,z] 109 (0,0))):w.cell? ⟨g,1,none⟩=some y:=by rw [cell_of_row w g 1 _ _ _ h];rfl
theorem LpO.boxc2 {x y z:Value} (h:w.heap[g]?=some (.cells #[x,y,z] 109 (0,0))):w.cell? ⟨g,2,none⟩=some z:=by rw [cell_of_row w g 2 _ _ _ h];rfl
theorem LpO.boxf {x y z:Value} (h:w.heap[g]?=some (.cells #[x,y,z] 109 (0,0))) (k:Nat):w.frozen? ⟨g,k,none⟩=false:=frozen_of_row w g k _ _ h
theorem LpO.neA (h:LpO w base g va vb vc vs A B C):some g ≠ va.ownBlock:=ap h.a h.box (by decide)
theorem LpO.neB (h:LpO w base g va vb vc vs A B C):some g ≠ vb.ownBlock:=ap h.b h.box (by decide)
theorem LpO.neC (h:LpO w base g va vb vc vs A B C):some g ≠ vc.ownBlock:=ap h.c h.box (by decide)
theorem LpO.store {w w':World} {k:Nat} {v:Value} (hb:w.heap[g]?=some (.cells #[va,vb,vc] 109 (0,0))):(w.setCell ⟨g,k,none⟩ v).heap[g]?=some (.cells (#[va,vb,vc].setIfInBounds k v) 109 (0,0)):=heap_setCell_same w g k _ _ v hb
theorem LpO.pushA {w1 w2:World} (h:LpO w base g va vb vc vs A B C) (hx:Ext w w1) {vr va':Value} {r:List Int} (hr:OwnI w1 w.heap.size vr r) (hbs:base<=w.heap.size) (hgr:w1.grownBy w2 va.ownBlock) (ho:OwnV w2 base va' (vs++[vr])) (hn:Near w1 va va') :
 LpO (w2.setCell ⟨g,0,none⟩ va') base g va' vb vc (vs++[vr]) (A++[r]) B C:=by
 have h1:=h.ext hx;have hbox:w2.heap[g]?=some (.cells #[va,vb,vc] 109 (0,0)):=(hgr.block g h1.lt h1.neA).trans h1.box;have hset:∀ k,k ≠ g->(w2.setCell ⟨g,0,none⟩ va').heap[k]?=w2.heap[k]?:=fun k hk=>heap_setCell_other _ _ _ _ hk
 have hB2:OwnI w2 base vb B:=h1.b.keep fun k hk=>hgr.block k (h1.b.lt k hk).2 fun e=>h1.b.apart h1.a k hk e.symm
 have hC2:OwnR w2 base vc C:=h1.c.keep fun k hk=>hgr.block k (h1.c.lt k hk).2 fun e=>aW (by decide) h1.c h1.a k hk e.symm
 have hR1:bj w1 base (vs++[vr]) (A++[r]):=h.rows.snoc hx hr hbs;have hR2:bj w2 base (vs++[vr]) (A++[r]):=hR1.keep fun i k hi hk=>hgr.block k ((hR1.row i hi).lt k hk).2 fun e=>(hR1.row i hi).apart h1.a k hk e.symm
 refine ⟨?_,h.hg,?_,?_,?_,h.off.snoc h.b hr,?_⟩
 ·have:=LpO.store (w:=w2) (w':=w2) (k:=0) (v:=va') hbox;exact this
 ·exact ho.keep fun k hk=>hset k fun e=>(ap ho hbox (by decide)) (by rw [hk,e])
 ·exact hR2.keep fun i k hi hk=>hset k fun e=>(ap (hR2.row i hi) hbox (by decide)) (by rw [hk,e])
 ·exact hB2.keep fun k hk=>hset k fun e=>(ap hB2 hbox (by decide)) (by rw [hk,e])
 ·exact hC2.keep fun k hk=>hset k fun e=>(ap hC2 hbox (by decide)) (by rw [hk,e])
theorem LpO.pushB {w1 w2:World} (h:LpO w base g va vb vc vs A B C) (hx:Ext w w1) {vb':Value} {B':List Int} (hgr:w1.grownBy w2 vb.ownBlock) (ho:OwnI w2 base vb' B') (hn:Near w1 vb vb') :
 LpO (w2.setCell ⟨g,1,none⟩ vb') base g va vb' vc vs A B' C:=by
 have h1:=h.ext hx;have hbox:w2.heap[g]?=some (.cells #[va,vb,vc] 109 (0,0)):=(hgr.block g h1.lt h1.neB).trans h1.box;have hset:∀ k,k ≠ g->(w2.setCell ⟨g,1,none⟩ vb').heap[k]?=w2.heap[k]?:=fun k hk=>heap_setCell_other _ _ _ _ hk
 have hA2:OwnV w2 base va vs:=h1.a.keep fun k hk=>hgr.block k (h1.a.lt k hk).2 fun e=>h1.b.apart h1.a k e.symm hk
 have hC2:OwnR w2 base vc C:=h1.c.keep fun k hk=>hgr.block k (h1.c.lt k hk).2 fun e=>aW (by decide) h1.c h1.b k hk e.symm
 have hR2:bj w2 base vs A:=h1.rows.keep fun i k hi hk=>hgr.block k ((h1.rows.row i hi).lt k hk).2 fun e=>h1.off i k (by rw [h1.rows.len];exact hi) hk e.symm
 refine ⟨?_,h.hg,?_,?_,?_,h1.off.near h1.rows hn,?_⟩
 ·have:=LpO.store (w:=w2) (w':=w2) (k:=1) (v:=vb') hbox;exact this
 ·exact hA2.keep fun k hk=>hset k fun e=>(ap hA2 hbox (by decide)) (by rw [hk,e])
 ·exact hR2.keep fun i k hi hk=>hset k fun e=>(ap (hR2.row i hi) hbox (by decide)) (by rw [hk,e])
 ·exact ho.keep fun k hk=>hset k fun e=>(ap ho hbox (by decide)) (by rw [hk,e])
 ·exact hC2.keep fun k hk=>hset k fun e=>(ap hC2 hbox (by decide)) (by rw [hk,e])
theorem LpO.pushC {w1 w2:World} (h:LpO w base g va vb vc vs A B C) (hx:Ext w w1) {vc':Value} {C':List (Int × Int)} (hgr:w1.grownBy w2 vc.ownBlock) (ho:OwnR w2 base vc' C') :
 LpO (w2.setCell ⟨g,2,none⟩ vc') base g va vb vc' vs A B C':=by
 have h1:=h.ext hx;have hbox:w2.heap[g]?=some (.cells #[va,vb,vc] 109 (0,0)):=(hgr.block g h1.lt h1.neC).trans h1.box;have hset:∀ k,k ≠ g->(w2.setCell ⟨g,2,none⟩ vc').heap[k]?=w2.heap[k]?:=fun k hk=>heap_setCell_other _ _ _ _ hk
 have hA2:OwnV w2 base va vs:=h1.a.keep fun k hk=>hgr.block k (h1.a.lt k hk).2 fun e=>aW (by decide) h1.a h1.c k hk e.symm
 have hB2:OwnI w2 base vb B:=h1.b.keep fun k hk=>hgr.block k (h1.b.lt k hk).2 fun e=>aW (by decide) h1.b h1.c k hk e.symm
 have hR2:bj w2 base vs A:=h1.rows.keep fun i k hi hk=>hgr.block k ((h1.rows.row i hi).lt k hk).2 fun e=>aW (by decide) (h1.rows.row i hi) h1.c k hk e.symm
 refine ⟨?_,h.hg,?_,?_,?_,h.off,?_⟩
 ·have:=LpO.store (w:=w2) (w':=w2) (k:=2) (v:=vc') hbox;exact this
 ·exact hA2.keep fun k hk=>hset k fun e=>(ap hA2 hbox (by decide)) (by rw [hk,e])
 ·exact hR2.keep fun i k hi hk=>hset k fun e=>(ap (hR2.row i hi) hbox (by decide)) (by rw [hk,e])
 ·exact hB2.keep fun k hk=>hset k fun e=>(ap hB2 hbox (by decide)) (by rw [hk,e])
 ·exact ho.keep fun k hk=>hset k fun e=>(ap ho hbox (by decide)) (by rw [hk,e])
theorem bG {w w2:World} {b1 b2:Nat} {e e':TypeId} {s s' n n':Nat} {v v':Value} {xs xs':List Value} (h:w.ownsRow b1 e s v n xs) (h':w.ownsRow b2 e' s' v' n' xs') (hne:e ≠ e') (hgr:w.grownBy w2 v'.ownBlock):w2.ownsRow b1 e s v n xs :=
 h.kept hgr (by
  cases hv:v.ownBlock with
  | none=>exact .inl rfl
  | some k=>exact .inr fun e2=>aW hne h h' k hv e2.symm)
theorem ci {w:World} {b1 g k:Nat} {e e':TypeId} {s n:Nat} {v u:Value} {xs:List Value} {c:Array Value} {z:Nat × Nat} (h:w.ownsRow b1 e s v n xs) (hb:w.heap[g]?=some (.cells c e' z)) (hne:e ≠ e'):(w.setCell ⟨g,k,none⟩ u).ownsRow b1 e s v n xs:=by
 refine ⟨h.1,?_⟩
 rcases h.2 with hn|⟨g',cap,cur,rfl,hbb,hgg,rest⟩
 ·exact .inl hn
 ·refine .inr ⟨g',cap,cur,rfl,hbb,?_,rest⟩;rw [heap_setCell_other _ _ _ _ fun e2=>by subst e2;exact ap h hb hne rfl];exact hgg
theorem LpO.boxA {w1 w2:World} (h:LpO w base g va vb vc vs A B C) (hx:Ext w w1) (hg:w1.grownBy w2 va.ownBlock):w2.heap[g]?=some (.cells #[va,vb,vc] 109 (0,0)):=(hg.block g (h.ext hx).lt (h.ext hx).neA).trans (h.ext hx).box
theorem LpO.boxB {w1 w2:World} (h:LpO w base g va vb vc vs A B C) (hx:Ext w w1) (hg:w1.grownBy w2 vb.ownBlock):w2.heap[g]?=some (.cells #[va,vb,vc] 109 (0,0)):=(hg.block g (h.ext hx).lt (h.ext hx).neB).trans (h.ext hx).box
theorem LpO.boxC {w1 w2:World} (h:LpO w base g va vb vc vs A B C) (hx:Ext w w1) (hg:w1.grownBy w2 vc.ownBlock):w2.heap[g]?=some (.cells #[va,vb,vc] 109 (0,0)):=(hg.block g (h.ext hx).lt (h.ext hx).neC).trans (h.ext hx).box
theorem OwnG.grownV {α:Type} {E:Enc α} {t:TypeId} {w w1 w2:World} {b1 b2:Nat} {v v':Value} {l:List α} {us:List Value} (h:OwnG E t w b1 v l) (hx:Ext w w1) (h':OwnV w b2 v' us) (hne:t ≠ 24) (hgr:w1.grownBy w2 v'.ownBlock):OwnG E t w2 b1 v l :=
 bG (h.ext hx) (h'.ext hx) hne hgr
theorem OwnG.grownI {α:Type} {E:Enc α} {t:TypeId} {w w1 w2:World} {b1 b2:Nat} {v v':Value} {l:List α} {us:List Int} (h:OwnG E t w b1 v l) (hx:Ext w w1) (h':OwnI w b2 v' us) (hne:t ≠ 3) (hgr:w1.grownBy w2 v'.ownBlock):OwnG E t w2 b1 v l :=
 bG (h.ext hx) (h'.ext hx) hne hgr
theorem OwnG.grownR {α:Type} {E:Enc α} {t:TypeId} {w w1 w2:World} {b1 b2:Nat} {v v':Value} {l:List α} {us:List (Int × Int)} (h:OwnG E t w b1 v l) (hx:Ext w w1) (h':OwnR w b2 v' us) (hne:t ≠ 43) (hgr:w1.grownBy w2 v'.ownBlock):OwnG E t w2 b1 v l :=
 bG (h.ext hx) (h'.ext hx) hne hgr
theorem OwnG.setLp {α:Type} {E:Enc α} {t:TypeId} {w:World} {b1 g:Nat} {v x y z:Value} {l:List α} (h:OwnG E t w b1 v l) (hb:w.heap[g]?=some (.cells #[x,y,z] 109 (0,0))) (hne:t ≠ 109) (k:Nat) (u:Value):OwnG E t (w.setCell ⟨g,k,none⟩ u) b1 v l :=
 ci h hb hne
end
theorem OwnV.mono' {w:World} {base base':Nat} {v:Value} {vs:List Value} (h:OwnV w base v vs) (hb:base'<=base):OwnV w base' v vs:=by
 refine ⟨h.1,?_⟩
 rcases h.2 with hn|⟨g,cap,cur,rfl,hbb,rest⟩
 ·exact .inl hn
 ·exact .inr ⟨g,cap,cur,rfl,by omega,rest⟩
theorem OwnI.keptR {w w1 w2:World} {b1 b2:Nat} {v v':Value} {l:List Int} {us:List (Int × Int)} (h:OwnI w b1 v l) (hx:Ext w w1) (h':OwnR w b2 v' us) (hgr:w1.grownBy w2 v'.ownBlock):OwnI w2 b1 v l :=
 bG (h.ext hx) (h'.ext hx) (by decide) hgr
theorem OwnR.keptI {w w1 w2:World} {b1 b2:Nat} {v v':Value} {l:List (Int × Int)} {us:List Int} (h:OwnR w b1 v l) (hx:Ext w w1) (h':OwnI w b2 v' us) (hgr:w1.grownBy w2 v'.ownBlock):OwnR w2 b1 v l :=
 bG (h.ext hx) (h'.ext hx) (by decide) hgr
theorem OwnI.keptV {w w1 w2:World} {b1 b2:Nat} {v v':Value} {l:List Int} {us:List Value} (h:OwnI w b1 v l) (hx:Ext w w1) (h':OwnV w b2 v' us) (hgr:w1.grownBy w2 v'.ownBlock):OwnI w2 b1 v l :=
 bG (h.ext hx) (h'.ext hx) (by decide) hgr
theorem Ints.litM {W:World} (l:List Int) (t:TypeId) {m:Nat} (hm:l.length=m) {cs:Array Value} (hcs:cs=aZ l) {n:Nat} (hn:n=W.heap.size) (hb:m<=1099511627776):Ints (W.alloc (.cells cs t)) (some ⟨n,0,none⟩) m m l:=by
 subst hn hcs;exact (show Row (W.alloc (.cells (aZ l) t)) W.heap.size t l from heap_alloc_new W _).ints hm (Nat.le_refl _) (by omega)
theorem Rats.two (W:World) (x y x' y':Int) (t:TypeId) {n:Nat} (hn:n=W.heap.size):Rats (W.alloc (.cells #[.int .i64 x,.int .i64 y,.int .i64 x',.int .i64 y'] t)) (some ⟨n,0,none⟩) 2 2 [(x,y),(x',y')]:=by
 subst hn
 exact ⟨rfl,Nat.le_refl _,by omega,fun k hk=>⟨_,0,rfl,fun k hk=>by
  have:k=0 ∨ k=1:=by omega
  rcases this with rfl|rfl <;> simp⟩⟩
theorem bj.mono' {w:World} {base base':Nat} {vs:List Value} {L:List (List Int)} (h:bj w base vs L) (hb:base'<=base):bj w base' vs L:=⟨h.len,fun i hi=>(h.row i hi).mono hb,h.apart⟩
theorem Ext.blk {w w':World} (hx:Ext w w') {b:Nat} {o:Obj} (h:w.heap[b]?=some o):w'.heap[b]?=some o:=(hx.block b (lt_of_block h)).trans h
theorem sJ {w w':World} {row:Option Nat} (hg:w.grownBy w' row) {b:Nat} {o:Obj} (h:w.heap[b]?=some o) (hne:some b ≠ row):w'.heap[b]?=some o:=(hg.block b (lt_of_block h) hne).trans h
theorem iu {w:World} {b b':Nat} {c c':Array Value} {t t':TypeId} {z z':Nat × Nat} (h:w.heap[b]?=some (.cells c t z)) (h':w.heap[b']?=some (.cells c' t' z')) (hne:t ≠ t'):b ≠ b':=by
 intro e;subst e;rw [h] at h';simp only [Option.some.injEq,Obj.cells.injEq] at h';exact hne h'.2.1
theorem gbox0 {w:World} {b:Nat} {x y:Value} {t:TypeId} (h:w.heap[b]?=some (.cells #[x,y] t (0,0))):w.cell? ⟨b,0,none⟩=some x:=by rw [cell_of_row w b 0 _ _ _ h];rfl
theorem gbox1 {w:World} {b:Nat} {x y:Value} {t:TypeId} (h:w.heap[b]?=some (.cells #[x,y] t (0,0))):w.cell? ⟨b,1,none⟩=some y:=by rw [cell_of_row w b 1 _ _ _ h];rfl
end Go.Proofs.YthjjfkeacobikaaGreat
