import Derived.Test.YthjjfkeacobikaaGreatPuAllG1
import Derived.Test.YthjjfkeacobikaaGreatPuAllG0
set_option linter.unusedVariables false
set_option linter.unusedSimpArgs false
namespace Go.Proofs.YthjjfkeacobikaaGreat
open Go.RowKit
def OwnI (w:World) (base:Nat) (v:Value) (l:List Int):Prop:=w.ownsRow base 3 1 v l.length (l.map (Value.int .i64))
def OwnV (w:World) (base:Nat) (v:Value) (vs:List Value):Prop:=w.ownsRow base 24 1 v vs.length vs
theorem OwnI.form {w:World} {base:Nat} {v:Value} {l:List Int} (h:OwnI w base v l):∃ a cap,v=.slice a l.length cap/\l.length<=cap/\cap<=9223372036854775807:=by
 rcases h.2 with ⟨rfl,h0⟩|⟨g,cap,cur,rfl,_,_,h1,h2,_⟩
 ·exact ⟨none,0,by rw [h0],by omega,by omega⟩
 ·exact ⟨_,cap,rfl,h1,by simpa [maxLen] using h2⟩
theorem OwnI.var {w:World} {base:Nat} {v:Value} {l:List Int} (h:OwnI w base v l):∃ a n cap,v=.slice a n cap/\Hid (l.length=n):=by
 obtain ⟨a,cap,e,_⟩:=h.form;exact ⟨a,_,cap,e,rfl⟩
theorem OwnI.ints {w:World} {base:Nat} {a:Option Addr} {n cap:Nat} {l:List Int} (h:OwnI w base (.slice a n cap) l):Ints w a n cap l:=by
 rcases h.2 with ⟨he,h0⟩|⟨g,cap',cur,he,_,hg,h1,h2,hs,ht⟩
 ·simp only [Value.slice.injEq] at he;obtain ⟨rfl,rfl,rfl⟩:=he;exact ⟨h0,Nat.le_refl _,by omega,fun k hk=>absurd hk (by omega)⟩
 ·simp only [Value.slice.injEq] at he;obtain ⟨rfl,rfl,rfl⟩:=he;refine ⟨rfl,h1,by simpa [maxLen] using h2,fun k hk=>⟨g,0,rfl,fun k hk=>?_⟩⟩;rw [Nat.zero_add,cell_of_row w g k cur _ (0,0) hg];have:(cur.toList.take (l.length*1))[k]?=some (.int .i64 (l[k]?.getD 0)):=by rw [ht];simp [hk]
  rw [List.getElem?_take,if_pos (by omega)] at this
  simpa using this
theorem OwnI.lt {w:World} {base:Nat} {v:Value} {l:List Int} (h:OwnI w base v l):∀ k,v.ownBlock=some k->base<=k/\k<w.heap.size:=World.ownsRow.lt h
theorem OwnI.keep {w w':World} {base:Nat} {v:Value} {l:List Int} (h:OwnI w base v l) (hk:∀ k,v.ownBlock=some k->w'.heap[k]?=w.heap[k]?):OwnI w' base v l:=by
 refine ⟨h.1,?_⟩
 rcases h.2 with hn|⟨g,cap,cur,rfl,hb,hgg,rest⟩
 ·exact .inl hn
 ·exact .inr ⟨g,cap,cur,rfl,hb,(hk g rfl).trans hgg,rest⟩
theorem OwnI.ext {w w':World} {base:Nat} {v:Value} {l:List Int} (h:OwnI w base v l) (hx:Ext w w'):OwnI w' base v l:=h.keep fun k hk=>hx.block k (h.lt k hk).2
theorem OwnI.on {w:World} {base:Nat} {v:Value} {l:List Int} (h:OwnI w base v l):On base w (fun W=>OwnI W base v l):=fun w2 h2=>h.keep fun k hk=>h2 k (h.lt k hk).1 (h.lt k hk).2
theorem OwnI.mono {w:World} {base base':Nat} {v:Value} {l:List Int} (h:OwnI w base v l) (hb:base'<=base):OwnI w base' v l:=by
 refine ⟨h.1,?_⟩
 rcases h.2 with hn|⟨g,cap,cur,rfl,hbb,rest⟩
 ·exact .inl hn
 ·exact .inr ⟨g,cap,cur,rfl,by omega,rest⟩
theorem OwnI.nil (w:World) (base:Nat):OwnI w base (.slice none 0 0) []:=World.ownsRow_nil w base _ 1
theorem OwnV.form {w:World} {base:Nat} {v:Value} {vs:List Value} (h:OwnV w base v vs):∃ a cap,v=.slice a vs.length cap/\vs.length<=cap/\cap<=9223372036854775807:=by
 rcases h.2 with ⟨rfl,h0⟩|⟨g,cap,cur,rfl,_,_,h1,h2,_⟩
 ·exact ⟨none,0,by rw [h0],by omega,by omega⟩
 ·exact ⟨_,cap,rfl,h1,by simpa [maxLen] using h2⟩
theorem OwnV.var {w:World} {base:Nat} {v:Value} {vs:List Value} (h:OwnV w base v vs):∃ a n cap,v=.slice a n cap/\Hid (vs.length=n):=by
 obtain ⟨a,cap,e,_⟩:=h.form;exact ⟨a,_,cap,e,rfl⟩
theorem OwnV.cell {w:World} {base:Nat} {a:Option Addr} {n cap:Nat} {vs:List Value} (h:OwnV w base (.slice a n cap) vs) {k:Nat} (hk:k<n):∃ g,a=some ⟨g,0,none⟩/\base<=g/\∀ k,k<n->w.cell? ⟨g,k,none⟩=vs[k]?:=by
 rcases h.2 with ⟨he,h0⟩|⟨g,cap',cur,he,hb,hg,h1,h2,hs,ht⟩
 ·simp only [Value.slice.injEq] at he;omega
 ·simp only [Value.slice.injEq] at he;obtain ⟨rfl,rfl,rfl⟩:=he;refine ⟨g,rfl,hb,fun k hk=>?_⟩;rw [cell_of_row w g k cur _ (0,0) hg];have:(cur.toList.take (vs.length*1))[k]?=vs[k]?:=by rw [ht]
  rw [List.getElem?_take,if_pos (by omega)] at this
  simpa using this
theorem OwnV.len {w:World} {base:Nat} {a:Option Addr} {n cap:Nat} {vs:List Value} (h:OwnV w base (.slice a n cap) vs):vs.length=n:=by
 obtain ⟨a',cap',he,_⟩:=h.form;simp only [Value.slice.injEq] at he;exact he.2.1.symm
theorem OwnV.lt {w:World} {base:Nat} {v:Value} {vs:List Value} (h:OwnV w base v vs):∀ k,v.ownBlock=some k->base<=k/\k<w.heap.size:=World.ownsRow.lt h
theorem OwnV.keep {w w':World} {base:Nat} {v:Value} {vs:List Value} (h:OwnV w base v vs) (hk:∀ k,v.ownBlock=some k->w'.heap[k]?=w.heap[k]?):OwnV w' base v vs:=by
 refine ⟨h.1,?_⟩
 rcases h.2 with hn|⟨g,cap,cur,rfl,hb,hgg,rest⟩
 ·exact .inl hn
 ·exact .inr ⟨g,cap,cur,rfl,hb,(hk g rfl).trans hgg,rest⟩
theorem OwnV.ext {w w':World} {base:Nat} {v:Value} {vs:List Value} (h:OwnV w base v vs) (hx:Ext w w'):OwnV w' base v vs:=h.keep fun k hk=>hx.block k (h.lt k hk).2
theorem OwnV.on {w:World} {base:Nat} {v:Value} {vs:List Value} (h:OwnV w base v vs):On base w (fun W=>OwnV W base v vs):=fun w2 h2=>h.keep fun k hk=>h2 k (h.lt k hk).1 (h.lt k hk).2
theorem OwnV.nil (w:World) (base:Nat):OwnV w base (.slice none 0 0) []:=World.ownsRow_nil w base _ 1
theorem OwnI.apart {w:World} {base base':Nat} {v v':Value} {l:List Int} {vs:List Value} (h:OwnI w base v l) (h':OwnV w base' v' vs):∀ k,v.ownBlock=some k->v'.ownBlock ≠ some k:=by
 intro k hk hk'
 rcases h.2 with ⟨rfl,_⟩|⟨g,cap,cur,rfl,_,hg,_⟩
 ·simp [Value.ownBlock] at hk
 ·rcases h'.2 with ⟨rfl,_⟩|⟨g',cap',cur',rfl,_,hg',_⟩
  ·simp [Value.ownBlock] at hk'
  ·simp only [Value.ownBlock,Option.some.injEq] at hk hk';subst hk hk';rw [hg] at hg';simp at hg'
section
variable {P:Program} {w:World} {ops:Array Oper} {rest:List Oper} {o:Oper} {a:Act} {Q:Exit->Act->World->Prop}
theorem bG {K:Act->World->Prop} (s x:Operand) (ho:o.op=.call { callee:=.builtin .append,args:=#[s,x],argTypes:=#[24,24] })
 (base:Nat) (v:Value) (l:List Int) (hs:a.eval s=v) (hown:OwnI w base v l) (ao:Option Addr) (m c:Nat) (l':List Int) (hx:a.eval x=.slice ao m c) (hi':Ints w ao m c l') (hb:l.length+m<=1099511627776) (hbase:base<=w.heap.size)
 (h:∀ v' w',OwnI w' base v' (l++l')->w.grownBy w' v.ownBlock->Near w v v'->K (a.put o.dst v') w'):o.wp Tryz.prog a w K Q:=by
 obtain ⟨i,hi,hz0,hz1,hz2⟩:=info_parts Tryz.infoInt;cases ao with
 | none =>
   have hm:m=0:=by
    rcases Nat.eq_zero_or_pos m with h0|h0
    ·exact h0
    ·obtain ⟨b,off,e,_⟩:=hi'.cell 0 h0;cases e
   subst hm;have hl:l'=[]:=List.eq_nil_of_length_eq_zero hi'.hlen;subst hl;refine es w s x 24 ho base 3 i 1 Tryz.underlying24 hi v l.length _ hs hown c hx ?_;exact h v w (by simpa using hown) (World.grownBy.refl _ _) (Near.refl _ _)
 | some ad =>
   refine dN w s x 24 ho base 3 i (.int .i64 0) 1 8 Tryz.underlying24 hi hz0 hz1 hz2 rfl (by decide) v l.length (l.map (Value.int .i64)) hs hown ad m c (l'.map (Value.int .i64)) hx (by simp [hi'.hlen]) ?_ ?_ (by simp [maxLen];omega) (by omega) hbase ?_
   ·intro j u hu;have hj:j<m:=by
     have:=(List.getElem?_eq_some_iff.1 hu).1
     simpa [hi'.hlen] using this
    have hj':j<l'.length:=by have:=hi'.hlen;omega
    obtain ⟨b,off,e,hc⟩:=hi'.cell j hj;simp only [Option.some.injEq] at e;subst e;have ha:(⟨b,off,none⟩:Addr).add j=⟨b,off+j,none⟩:=by unfold Addr.add;split <;> simp_all
    rw [ha,hc j hj];simp only [List.getElem?_map,List.getElem?_eq_getElem hj',Option.map_some,Option.some.injEq,Option.getD_some] at hu ⊢;exact hu
   ·intro u hu;obtain ⟨z,_,rfl⟩:=List.mem_map.1 hu
    rfl
   ·intro v' w' h1 h2 h3;refine h v' w' ?_ h2 h3;unfold OwnI;rw [List.length_append,hi'.hlen,List.map_append];exact h1
theorem bw (hgd:o.guard=none) (s x:Operand) (ho:o.op=.call { callee:=.builtin .append,args:=#[s,x],argTypes:=#[24,24] })
 (base:Nat) (v:Value) (l:List Int) (hs:a.eval s=v) (hown:OwnI w base v l) (ao:Option Addr) (m c:Nat) (l':List Int) (hx:a.eval x=.slice ao m c) (hi':Ints w ao m c l') (hb:l.length+m<=1099511627776) (hbase:base<=w.heap.size)
 (h:∀ v' w',OwnI w' base v' (l++l')->w.grownBy w' v.ownBlock->Near w v v'->wpList Tryz.prog ops Q rest (a.put o.dst v') w'):wpList Tryz.prog ops Q (o :: rest) a w :=
 wpList_plain hgd fun _ hK=>bG s x ho base v l hs hown ao m c l' hx hi' hb hbase fun v' w' h1 h2 h3=>hK _ _ (h v' w' h1 h2 h3)
theorem dZ {K:Act->World->Prop} (s x:Operand) (ho:o.op=.call { callee:=.builtin .append,args:=#[s,x],argTypes:=#[50,50] })
 (base:Nat) (v:Value) (vs:List Value) (hs:a.eval s=v) (hown:OwnV w base v vs) (ad:Addr) (u:Value) (c:Nat) (hx:a.eval x=.slice (some ad) 1 c)
 (hcell:w.cell? ad=some u) (h1c:u.oneCell'=true) (hb:vs.length<=1099511627775) (hbase:base<=w.heap.size)
 (h:∀ v' w',OwnV w' base v' (vs++[u])->w.grownBy w' v.ownBlock->Near w v v'->K (a.put o.dst v') w'):o.wp Tryz.prog a w K Q:=by
 obtain ⟨i,hi,hz0,hz1,hz2⟩:=info_parts Tryz.infoInts;refine dN w s x 50 ho base 24 i (.slice none 0 0) 1 24 Tryz.underlying50 hi hz0 hz1 hz2 rfl (by decide) v vs.length vs hs hown ad 1 c [u] hx rfl ?_ ?_ (by simp [maxLen];omega) (by omega) hbase ?_
 ·intro j u' hu
  match j with
  | 0=>simpa [Addr.add] using hu ▸ hcell
  | j+1=>simp at hu
 ·intro u' hu;simp only [List.mem_singleton] at hu;rw [hu];exact h1c
 ·intro v' w' h1 h2 h3;refine h v' w' ?_ h2 h3;unfold OwnV;rw [List.length_append];exact h1
theorem ea (hgd:o.guard=none) (s x:Operand) (ho:o.op=.call { callee:=.builtin .append,args:=#[s,x],argTypes:=#[50,50] })
 (base:Nat) (v:Value) (vs:List Value) (hs:a.eval s=v) (hown:OwnV w base v vs) (ad:Addr) (u:Value) (c:Nat) (hx:a.eval x=.slice (some ad) 1 c)
 (hcell:w.cell? ad=some u) (h1c:u.oneCell'=true) (hb:vs.length<=1099511627775) (hbase:base<=w.heap.size)
 (h:∀ v' w',OwnV w' base v' (vs++[u])->w.grownBy w' v.ownBlock->Near w v v'->wpList Tryz.prog ops Q rest (a.put o.dst v') w'):wpList Tryz.prog ops Q (o :: rest) a w :=
 wpList_plain hgd fun _ hK=>dZ s x ho base v vs hs hown ad u c hx hcell h1c hb hbase fun v' w' h1 h2 h3=>hK _ _ (h v' w' h1 h2 h3)
end
theorem Ints.one (w:World) (x:Int) (t:TypeId):Ints (w.alloc (.cells #[.int .i64 x] t)) (some ⟨w.heap.size,0,none⟩) 1 1 [x] :=
 ⟨rfl,Nat.le_refl _,by omega,fun k hk=>⟨_,0,rfl,fun k hk=>by
  obtain rfl:k=0:=by omega
  simp⟩⟩
def seqI (k:Int) (n:Nat):List Int:=(List.range n).map fun (i:Nat)=>k+(i:Int)
theorem mM (k:Int) (n:Nat):(seqI k n).length=n:=by simp [seqI]
theorem OwnI.set {w:World} {base g n cap:Nat} {l:List Int} (h:OwnI w base (.slice (some ⟨g,0,none⟩) n cap) l) (k:Nat) (x:Int) :
 OwnI (w.setCell ⟨g,k,none⟩ (.int .i64 x)) base (.slice (some ⟨g,0,none⟩) n cap) (l.set k x):=by
 obtain ⟨a',c',he,_⟩:=OwnI.form h;simp only [Value.slice.injEq] at he;obtain ⟨_,rfl,_⟩:=he;have:=(World.ownsRow.stored h k (.int .i64 x)).1;unfold OwnI;rw [List.length_set,List.map_set];exact this
theorem OwnI.block {w:World} {base:Nat} {a:Option Addr} {n cap:Nat} {l:List Int} (h:OwnI w base (.slice a n cap) l) {k:Nat} (hk:k<n):∃ g,a=some ⟨g,0,none⟩/\base<=g/\(∀ j,w.frozen? ⟨g,j,none⟩=false)/\g<w.heap.size:=by
 rcases h.2 with ⟨he,h0⟩|⟨g,cap',cur,he,hb,hg,_⟩
 ·simp only [Value.slice.injEq] at he;omega
 ·simp only [Value.slice.injEq] at he;obtain ⟨rfl,_⟩:=he;exact ⟨g,rfl,hb,fun j=>frozen_of_row w g j cur _ hg,lt_of_block hg⟩
structure bj (w:World) (base:Nat) (vs:List Value) (L:List (List Int)):Prop where
 len:vs.length=L.length
 row:∀ i,i<L.length->OwnI w base (vs[i]?.getD undef) (L[i]?.getD [])
 apart:∀ i j k,i<j->j<L.length->(vs[i]?.getD undef).ownBlock=some k->(vs[j]?.getD undef).ownBlock ≠ some k
theorem bj.keep {w w':World} {base:Nat} {vs:List Value} {L:List (List Int)} (h:bj w base vs L) (hk:∀ i k,i<L.length->(vs[i]?.getD undef).ownBlock=some k->w'.heap[k]?=w.heap[k]?):bj w' base vs L :=
 ⟨h.len,fun i hi=>(h.row i hi).keep fun k hk'=>hk i k hi hk',h.apart⟩
theorem bj.ext {w w':World} {base:Nat} {vs:List Value} {L:List (List Int)} (h:bj w base vs L) (hx:Ext w w'):bj w' base vs L :=
 h.keep fun i k hi hk=>hx.block k ((h.row i hi).lt k hk).2
theorem bj.nil (w:World) (base:Nat):bj w base [] []:=⟨rfl,fun i hi=>absurd hi (by simp),fun i j k _ hj=>absurd hj (by simp)⟩
theorem bj.on {w:World} {base:Nat} {vs:List Value} {L:List (List Int)} (h:bj w base vs L):On base w (fun W=>bj W base vs L) :=
 fun w2 h2=>h.keep fun i k hi hk=>h2 k ((h.row i hi).lt k hk).1 ((h.row i hi).lt k hk).2
theorem bj.snoc {w w':World} {base:Nat} {vs:List Value} {L:List (List Int)} (h:bj w base vs L) (hx:Ext w w') {v:Value} {l:List Int} (ho:OwnI w' w.heap.size v l) (hb:base<=w.heap.size):bj w' base (vs++[v]) (L++[l]):=by
 have h':=h.ext hx;refine ⟨by simp [h.len],fun i hi=>?_,fun i j k hij hj hk=>?_⟩
 ·by_cases hl:i<L.length
  ·rw [List.getElem?_append_left (by rw [h.len];exact hl),List.getElem?_append_left hl];exact h'.row i hl
  ·have:i=L.length:=by simp at hi;omega
   subst this;rw [<-h.len];simp only [List.getElem?_concat_length,Option.getD_some];rw [h.len];simp only [List.getElem?_concat_length,Option.getD_some];exact ho.mono hb
 ·by_cases hl:j<L.length
  ·rw [List.getElem?_append_left (by rw [h.len];omega)] at hk;rw [List.getElem?_append_left (by rw [h.len];exact hl)];exact h.apart i j k hij hl hk
  ·have:j=L.length:=by simp at hj;omega
   subst this;rw [List.getElem?_append_left (by rw [h.len];omega)] at hk;rw [<-h.len];simp only [List.getElem?_concat_length,Option.getD_some];intro hk';have h1:=((h.row i (by omega)).lt k hk).2;have h2:=(ho.lt k hk').1;omega
def fW (w:World) (base:Nat) (v:Value) (L:List (List Int)):Prop:=∃ vs,OwnV w base v vs/\bj w base vs L
theorem fW.form {w:World} {base:Nat} {v:Value} {L:List (List Int)} (h:fW w base v L):∃ a cap,v=.slice a L.length cap/\L.length<=cap/\cap<=9223372036854775807:=by
 obtain ⟨vs,h1,h2⟩:=h;have:=h1.form
 rwa [h2.len] at this
theorem fW.intss {w:World} {base:Nat} {a:Option Addr} {n cap:Nat} {L:List (List Int)} (h:fW w base (.slice a n cap) L):dD w a n cap L:=by
 obtain ⟨a',cap',he,h1,h2⟩:=h.form;simp only [Value.slice.injEq] at he;obtain ⟨rfl,rfl,rfl⟩:=he;obtain ⟨vs,h3,h4⟩:=h;refine ⟨rfl,h1,h2,fun k hk=>?_⟩;obtain ⟨g,rfl,_,hc⟩:=h3.cell hk;refine ⟨g,0,rfl,fun k hk=>?_⟩;have hv:k<vs.length:=by rw [h4.len];exact hk
 obtain ⟨a',cap',hf,_⟩:=(h4.row k hk).form;have ho:=h4.row k hk;rw [hf] at ho;refine ⟨a',_,cap',?_,ho.ints⟩;rw [Nat.zero_add,hc k hk,<-hf];simp [hv]
theorem Row.own {w:World} {b base:Nat} {l:List Int} {n:Nat} (h:Row w b 3 l) (hb:base<=b) (hn:l.length=n) (hm:n<=1099511627776):OwnI w base (.slice (some ⟨b,0,none⟩) n n) l:=by
 subst hn;refine ⟨by simp,.inr ⟨b,l.length,aW l,rfl,hb,h,?_,?_,?_,?_⟩⟩
 ·omega
 ·simp [maxLen];omega
 ·simp [aW]
 ·simp [aW,List.take_of_length_le]
end Go.Proofs.YthjjfkeacobikaaGreat
namespace Go.Proofs.YthjjfkeacobikaaGreat
open Go.RowKit
def bit (s:Int) (k:Nat):Bool:=decide (s / 2 ^ k % 2=1)
def hasP (s k:Int):Bool:=decide (0<=s)&&(inB k 0 4&&bit s k.toNat)
def cntC (n:Int):Int:=if inB n 0 5 then 2 ^ n.toNat else 0
theorem and_i64 (a b:Nat) (ha:a<9223372036854775808) (hb:b<9223372036854775808):bits .and .i64 (a:Int) (b:Int)=((a &&& b:Nat):Int):=by
 have hx:a &&& b<2 ^ 63:=Nat.and_lt_two_pow _ (by omega);have h1:(BitVec.ofInt 64 (a:Int)).toNat=a:=by rw [BitVec.ofInt_natCast,BitVec.toNat_ofNat];exact Nat.mod_eq_of_lt (by omega)
 have h2:(BitVec.ofInt 64 (b:Int)).toNat=b:=by rw [BitVec.ofInt_natCast,BitVec.toNat_ofNat];exact Nat.mod_eq_of_lt (by omega)
 show IntKind.i64.wrap ((BitVec.ofInt 64 (a:Int) &&& BitVec.ofInt 64 (b:Int)).toNat:Int)=_;rw [BitVec.toNat_and,h1,h2,IntKind.wrap_i64];omega
theorem or_i64 (a b:Nat) (ha:a<9223372036854775808) (hb:b<9223372036854775808):bits .or .i64 (a:Int) (b:Int)=((a ||| b:Nat):Int):=by
 have hx:a ||| b<2 ^ 63:=Nat.or_lt_two_pow (by omega) (by omega)
 have h1:(BitVec.ofInt 64 (a:Int)).toNat=a:=by rw [BitVec.ofInt_natCast,BitVec.toNat_ofNat];exact Nat.mod_eq_of_lt (by omega)
 have h2:(BitVec.ofInt 64 (b:Int)).toNat=b:=by rw [BitVec.ofInt_natCast,BitVec.toNat_ofNat];exact Nat.mod_eq_of_lt (by omega)
 show IntKind.i64.wrap ((BitVec.ofInt 64 (a:Int) ||| BitVec.ofInt 64 (b:Int)).toNat:Int)=_;rw [BitVec.toNat_or,h1,h2,IntKind.wrap_i64];omega
theorem and_one (x:Int) (h:0<=x) (h':x<=9223372036854775807):bits BinOp.and IntKind.i64 x 1=x % 2:=by
 obtain ⟨n,rfl⟩:∃ n:Nat,x=n:=⟨x.toNat,by omega⟩;have:=and_i64 n 1 (by omega) (by omega);rw [Nat.and_one_is_mod] at this;have h2:((n % 2:Nat):Int)=(n:Int) % 2:=by omega
 exact this.trans h2
theorem fI (k:Nat):(1:Int)<=2 ^ k:=by
 have:(0:Int)<2 ^ k:=Int.pow_pos (by decide);omega
theorem iE (k:Nat) (h:k<=5):(2:Int) ^ k<=32:=by
 have:k=0 ∨ k=1 ∨ k=2 ∨ k=3 ∨ k=4 ∨ k=5:=by omega
 rcases this with rfl|rfl|rfl|rfl|rfl|rfl <;> decide
theorem nH (s:Int) (k:Nat) (h:0<=s):0<=s / 2 ^ k/\s / 2 ^ k<=s:=by
 have:=fI k;exact ⟨Int.ediv_nonneg h (by omega),Int.ediv_le_self _ h⟩
theorem lG (s:Int) (k:Nat) (h:0<=s) (h':s<=9223372036854775807):(bits BinOp.and IntKind.i64 (s / 2 ^ k) 1 == 1)=bit s k:=by
 have:=nH s k h;rw [and_one _ this.1 (by omega)];unfold bit;rw [Bool.eq_iff_iff];simp
theorem wrap_pow (k:Nat) (h:k<=5):wrap64 ((2:Int) ^ k)=2 ^ k:=by
 have:=fI k;have:=iE k h;unfold wrap64;omega
set_option maxHeartbeats 400000 in
theorem iS (s k:Int) (w:World) (h':s<=9223372036854775807) :
 Calls Tryz.prog 165 #[.int .i64 s,.int .i64 k] w fun e w'=>e=.returned (.bool (hasP s k))/\w=w':=by
 by_cases hs:0<=s
 ·cases hk:inB k 0 4
  ·go_enter Tryz.func165,Tryz.ntmps165
   go_wp2_with (first|(go_at_call 80;refine (aU _ _ _ _).mono ?_;rintro e w' ⟨rfl,rfl⟩));go_ret;exact ⟨ag (by unfold hasP;rw [hk];simp),rfl⟩
  ·obtain ⟨n,rfl⟩:∃ n:Nat,k=n:=⟨k.toNat,by unfold inB at hk;simp at hk;omega⟩;have hn:n<=4:=by unfold inB at hk;simp at hk;omega
   have hb:=lG s n hs h';go_enter Tryz.func165,Tryz.ntmps165
   go_wp2_with (first|(go_at_call 80;refine (aU _ _ _ _).mono ?_;rintro e w' ⟨rfl,rfl⟩));go_ret;exact ⟨ag (by unfold hasP;rw [hk];simp [hs]),rfl⟩
 ·go_enter Tryz.func165,Tryz.ntmps165
  go_wp2_with fail;go_ret;exact ⟨ag (by unfold hasP;rw [decide_eq_false (by omega)];rfl),rfl⟩
set_option maxHeartbeats 400000 in
theorem dq (n:Int) (w:World):Calls Tryz.prog 73 #[.int .i64 n] w fun e w'=>e=.returned (.int .i64 (cntC n))/\w=w':=by
 cases hk:inB n 0 5
 ·go_enter Tryz.func73,Tryz.ntmps73
  go_wp2_with (first|(go_at_call 95;refine (bv _ _ _ _).mono ?_;rintro e w' ⟨rfl,rfl⟩));go_ret;exact ⟨aM (by unfold cntC;rw [hk];rfl),rfl⟩
 ·obtain ⟨m,rfl⟩:∃ k:Nat,n=k:=⟨n.toNat,by unfold inB at hk;simp at hk;omega⟩;have hn:m<=5:=by unfold inB at hk;simp at hk;omega
  go_enter Tryz.func73,Tryz.ntmps73
  go_wp2_with (first|(go_at_call 95;refine (bv _ _ _ _).mono ?_;rintro e w' ⟨rfl,rfl⟩))
  go_loop [3,4] (fun s i=>∃ (k:Nat) (z:Int),k<=m/\i=.int .i64 k/\s=.int .i64 z/\0<=z/\z<=32/\Hid (z=2 ^ k)) (fun _ i=>m-(intOf i).toNat)
  case atStart=>exact ⟨0,1,Nat.zero_le _,rfl,rfl,by omega,by omega,ae (by simp)⟩
  case round =>
   obtain ⟨k,z,hkm,rfl,rfl,hz0,hz1,HZ⟩:=hrel;by_cases hlt:k<m
   ·go_wp2
    go_round
    case rel =>
     refine ⟨k+1,z*2,by omega,by go_num,rfl,by omega,?_,ae (by rw [HZ.out,Int.pow_succ])⟩;have:=iE (k+1) (by omega);rw [Int.pow_succ,<-HZ.out] at this;exact this
    case measure=>simp [intOf];omega
   ·go_wp2
    go_ret;have hkm':k=m:=by omega
    subst hkm';exact ⟨aM (by unfold cntC;rw [hk];simpa using HZ.out),rfl⟩
theorem cntC_bit (k:Int) (h:inB k 0 4=true):cntC k=2 ^ k.toNat:=by
 unfold cntC;rw [if_pos];unfold inB at *;simp at *;omega
set_option maxHeartbeats 400000 in
theorem s_l2Bit (n:Int) (w:World):Calls Tryz.prog 78 #[.int .i64 n] w fun e w'=>e=.returned (.int .i64 (cntC n))/\w=w':=by
 go_enter Tryz.func78,Tryz.ntmps78
 go_wp2_with (first|(go_at_call 73;refine (dq _ _).mono ?_;rintro e w' ⟨rfl,rfl⟩));go_ret;exact ⟨rfl,rfl⟩
set_option maxHeartbeats 400000 in
theorem gF (s k:Int) (w:World) (h':s<=9223372036854775807) :
 Calls Tryz.prog 79 #[.int .i64 s,.int .i64 k] w fun e w'=>e=.returned (.bool (hasP s k))/\w=w':=by
 cases hk:inB k 0 4
 ·go_enter Tryz.func79,Tryz.ntmps79
  go_wp2_with (first|(go_at_call 95;refine (bv _ _ _ _).mono ?_;rintro e w' ⟨rfl,rfl⟩));go_ret;exact ⟨ag (by unfold hasP;rw [hk];simp),rfl⟩
 ·by_cases hs:0<=s
  ·obtain ⟨n,rfl⟩:∃ n:Nat,k=n:=⟨k.toNat,by unfold inB at hk;simp at hk;omega⟩;have hn:n<=4:=by unfold inB at hk;simp at hk;omega
   have hc:cntC (n:Int)=2 ^ n:=by rw [cntC_bit _ hk];simp
   have hp:=fI n;have hd:=nH s n hs;have hd1:=hd.1;have hne:((2:Int) ^ n == 0)=false:=by simp;omega
   have HB:=ae (show (s / 2 ^ n % 2 == 1)=bit s n by unfold bit;rw [Bool.eq_iff_iff];simp);have HD:=ae hd;clear hd;go_enter Tryz.func79,Tryz.ntmps79
   go_wp2_with (first|(go_at_call 95;refine (bv _ _ _ _).mono ?_;rintro e w' ⟨rfl,rfl⟩)|(go_at_call 78;refine (s_l2Bit _ _).mono ?_;rintro e w' ⟨rfl,rfl⟩));go_ret;exact ⟨ag (by rw [HB.out];unfold hasP;rw [hk];simp [hs]),rfl⟩
  ·go_enter Tryz.func79,Tryz.ntmps79
   go_wp2_with (first|(go_at_call 95;refine (bv _ _ _ _).mono ?_;rintro e w' ⟨rfl,rfl⟩));go_ret;exact ⟨ag (by unfold hasP;rw [decide_eq_false (by omega)];rfl),rfl⟩
def bitI (b:Bool):Int:=if b then 1 else 0
set_option maxHeartbeats 400000 in
theorem eE (b:Bool) (w:World):Calls Tryz.prog 74 #[.bool b] w fun e w'=>e=.returned (.int .i64 (bitI b))/\w=w':=by
 cases b
 all_goals
  go_enter Tryz.func74,Tryz.ntmps74
  go_wp2
  go_ret;exact ⟨rfl,rfl⟩
theorem hasP_bit (s:Int) (k:Nat) (h:0<=s) (hk:k<=4):hasP s (k:Int)=bit s k:=by
 unfold hasP inB;rw [decide_eq_true h,decide_eq_true (by omega),decide_eq_true (by omega)];simp
def cN (n:Nat):Nat:=2 ^ n
theorem jx (n:Nat):(cN n:Int)=2 ^ n:=by unfold cN;simp
theorem eX (n:Nat) (h:n<=5):1<=cN n/\cN n<=32:=by
 have h1:=fI n;have h2:=iE n h;rw [<-jx] at h1 h2;omega
theorem iX (n:Nat) (h:n<=5):cntC (n:Int)=(cN n:Int):=by
 unfold cntC;rw [if_pos (by unfold inB;simp;omega),jx];simp
set_option maxHeartbeats 400000 in
theorem s_CountC (n:Nat) (h:n<=5) (w:World):Calls Tryz.prog 73 #[.int .i64 (n:Int)] w fun e w'=>e=.returned (.int .i64 (cN n:Int))/\w=w':=by
 have:=dq n w
 rwa [iX n h] at this
set_option maxRecDepth 100000
structure dW (w:World) (a:Option Addr) (n cap:Nat):Prop where
 hcap:n<=cap
 hmax:cap<=9223372036854775807
 cell:∀ k,k<n->∃ b off,a=some ⟨b,off,none⟩/\∀ k,k<n->∃ x:Int,w.cell? ⟨b,off+k,none⟩=some (.int .u8 x)/\0<=x/\x<=255
theorem dW.ext {w w':World} {a:Option Addr} {n cap:Nat} (h:dW w a n cap) (hx:Ext w w'):dW w' a n cap :=
 ⟨h.hcap,h.hmax,fun k hk=>let ⟨b,off,e,hc⟩:=h.cell k hk;⟨b,off,e,fun k hk=>let ⟨x,h1,h2⟩:=hc k hk;⟨x,hx.cellSome h1,h2⟩⟩⟩
theorem dW.at {w:World} {a:Option Addr} {n cap:Nat} (h:dW w a n cap) {k:Nat} (hk:k<n):∃ b off x,a=some ⟨b,off,none⟩/\w.cell? ⟨b,off+k,none⟩=some (.int .u8 x)/\0<=x/\x<=255 :=
 let ⟨b,off,e,hc⟩:=h.cell k hk;let ⟨x,h1,h2,h3⟩:=hc k hk;⟨b,off,x,e,h1,h2,h3⟩
def Cur (w:World) (cb:Nat):Prop:=∃ (ba:Option Addr) (bn bc:Nat) (i h:Int),w.heap[cb]?=some (.cells #[.slice ba bn bc,.int .i64 i,.int .i64 h] 156 (0,0))/\dW w ba bn bc/\0<=i/\i<=bn/\∀ b off,ba=some ⟨b,off,none⟩->0<bn->b<cb
theorem Cur.lt {w:World} {cb:Nat} (h:Cur w cb):cb<w.heap.size:=by obtain ⟨_,_,_,_,_,h,_⟩:=h;exact lt_of_block h
theorem Cur.ext {w w':World} {cb:Nat} (h:Cur w cb) (hx:Ext w w'):Cur w' cb:=by
 have hl:=h.lt;obtain ⟨ba,bn,bc,i,v,h1,h2,h3⟩:=h;exact ⟨ba,bn,bc,i,v,(hx.block _ hl).trans h1,h2.ext hx,h3⟩
theorem dO {w w':World} {b:Nat} (h:w'.heap[b]?=w.heap[b]?) (o:Nat):w'.cell? ⟨b,o,none⟩=w.cell? ⟨b,o,none⟩:=by
 simp only [World.cell?,h]
theorem kL {w:World} {cb bn bc:Nat} {ba:Option Addr} {i i' h v:Int} (hb:w.heap[cb]?=some (.cells #[.slice ba bn bc,.int .i64 i,.int .i64 h] 156 (0,0))) (hby:dW w ba bn bc)
 (h0:0<=i') (h1:i'<=bn) (hne:∀ b off,ba=some ⟨b,off,none⟩->0<bn->b<cb) {W0 W:World} (hW0:W0.heap[cb]?=some (.cells #[.slice ba bn bc,.int .i64 i',.int .i64 v] 156 (0,0))) (hg:w.grownBy W0 (some cb)) (hW:Ext W0 W):Cur W cb/\w.grownBy W (some cb):=by
 have hby0:dW W0 ba bn bc:=by
  refine ⟨hby.hcap,hby.hmax,fun j hj=>?_⟩;obtain ⟨b,off,e,hc⟩:=hby.cell j hj;refine ⟨b,off,e,fun j hj=>?_⟩;obtain ⟨y,hy,hy1⟩:=hc j hj;refine ⟨y,(dO (hg.block b (World.block_lt_of_cell? _ _ hy) (fun e2=>Nat.ne_of_lt (hne b off e (by omega)) (Option.some.inj e2))) _).trans hy,hy1⟩
 exact ⟨⟨ba,bn,bc,i',v,(hW.block _ (lt_of_block hW0)).trans hW0,hby0.ext hW,h0,h1,hne⟩,iQ hg (cL none hW) (fun k hk=>by cases hk)⟩
theorem and_mask (x:Int) (m:Nat) (hm:m<2147483648):0<=bits .and .i64 x (m:Int)/\bits .and .i64 x (m:Int)<=m:=by
 have h2:(BitVec.ofInt 64 (m:Int)).toNat=m:=by rw [BitVec.ofInt_natCast,BitVec.toNat_ofNat];exact Nat.mod_eq_of_lt (by omega)
 have e:bits .and .i64 x (m:Int)=IntKind.i64.wrap ((BitVec.ofInt 64 x &&& BitVec.ofInt 64 (m:Int)).toNat:Int):=rfl;rw [e,BitVec.toNat_and,h2];have:=Nat.and_le_right (n:=(BitVec.ofInt 64 x).toNat) (m:=m);rw [IntKind.wrap_i64];omega
theorem iA (x:Int):0<=bits .and .i64 x 255/\bits .and .i64 x 255<=255:=and_mask x 255 (by omega)
set_option maxHeartbeats 4000000 in
theorem ob {w:World} {a:Option Addr} {n cap:Nat} (h:dW w a n cap) (hn:n<=1048576) :
 Calls Tryz.prog 68 #[.slice a n cap] w fun e w'=>(∃ cb,e=.returned (.pointer (some ⟨cb,0,none⟩))/\w.heap.size<=cb/\Cur w' cb)/\Ext w w':=by
 have hcap:=h.hcap;have hmax:=h.hmax;have HB:=ae h
 have HLT:=ae (show ∀ b off,a=some ⟨b,off,none⟩->0<n->b<w.heap.size by
  intro b off e hp;obtain ⟨b',off',x,e',hc,_⟩:=h.at hp;rw [e] at e';simp only [Option.some.injEq,Addr.mk.injEq,and_true] at e';obtain ⟨rfl,rfl⟩:=e'
  exact World.block_lt_of_cell? _ _ hc)
 clear h;go_enter Tryz.func68,Tryz.ntmps68
 go_wp2_with fail
 go_loop [3,4] (fun hh ii=>∃ (k:Nat) (hv:Int),k<=n/\ii=.int .i64 (k:Int)/\hh=.int .i64 hv) (fun _ ii=>n-(intOf ii).toNat)
 case atStart=>exact ⟨0,_,Nat.zero_le _,rfl,rfl⟩
 case round =>
  obtain ⟨k,hv,hk,rfl,rfl⟩:=hrel;by_cases hlt:k<n/\k<4000
  ·obtain ⟨hlt1,hlt2⟩:=hlt;obtain ⟨b,off,x,rfl,hc,hx0,hx1⟩:=HB.out.at hlt1;go_wp2_with fail
   go_round
   case rel=>exact ⟨k+1,_,by omega,by go_num,rfl⟩
   case measure=>simp [intOf];omega
  ·have hge:¬ k<n ∨ (k<n/\¬ k<4000):=by omega
   have HP:=ae (show Cur (w.alloc (.cells #[.slice a n cap,.int .i64 0,.int .i64 hv] 156)) w.heap.size from
    ⟨a,n,cap,0,hv,heap_alloc_new _ _,HB.out.ext (Ext.alloc _ _),by omega,by omega,fun b off e hp=>by have:=HLT.out b off e hp;omega⟩)
   clear hlt
   rcases hge with hge|⟨hge1,hge2⟩
   all_goals
    go_wp2_with fail;go_ret;exact ⟨⟨_,rfl,Nat.le_refl _,HP.out⟩,Ext.alloc _ _⟩
set_option maxHeartbeats 8000000 in
theorem fS {w:World} {cb:Nat} (h:Cur w cb) :
 Calls Tryz.prog 166 #[.pointer (some ⟨cb,0,none⟩)] w fun e w'=>(∃ x:Int,e=.returned (.int .i64 x)/\0<=x/\x<=255)/\Cur w' cb/\w.grownBy w' (some cb):=by
 obtain ⟨ba,bn,bc,i,hv,hb,hby,h0,h1,hne⟩:=h;have hl:=lt_of_block hb;have c0:w.cell? ⟨cb,0,none⟩=some (.slice ba bn bc):=by rw [cell_of_row w cb 0 _ _ _ hb];rfl
 have c1:w.cell? ⟨cb,1,none⟩=some (.int .i64 i):=by rw [cell_of_row w cb 1 _ _ _ hb];rfl
 have c2:w.cell? ⟨cb,2,none⟩=some (.int .i64 hv):=by rw [cell_of_row w cb 2 _ _ _ hb];rfl
 have f1:w.frozen? ⟨cb,1,none⟩=false:=frozen_of_row w cb 1 _ _ hb;have f2:w.frozen? ⟨cb,2,none⟩=false:=frozen_of_row w cb 2 _ _ hb;have HBY:=ae hby;have HB:=ae hb;have HNE:=ae hne;have hcap:=hby.hcap;have hmax:=hby.hmax;clear hb hby hne;by_cases hlt:i<bn
 ·obtain ⟨k,rfl⟩:∃ k:Nat,i=k:=⟨i.toNat,by omega⟩;obtain ⟨b,off,x,rfl,hc,hx0,hx1⟩:=HBY.out.at (k:=k) (by omega);have hbne:b ≠ cb:=Nat.ne_of_lt (HNE.out b off rfl (by omega));go_enter Tryz.func166,Tryz.ntmps166
  have hbne':¬ cb=b:=fun e=>hbne e.symm
  have hki:0<=(k:Int)+1:=by omega
  have hkj:(k:Int)+1<=9223372036854775807:=by omega
  have HFIN:=ae (fun (v:Int) (W:World) (hW:Drew ((w.setCell ⟨cb,2,none⟩ (.int .i64 v)).setCell ⟨cb,1,none⟩ (.int .i64 ((k:Int)+1))) W) =>
   kL (i':=(k:Int)+1) (v:=v) HB.out HBY.out hki (by omega) HNE.out (W0:=(w.setCell ⟨cb,2,none⟩ (.int .i64 v)).setCell ⟨cb,1,none⟩ (.int .i64 ((k:Int)+1)))
    (by rw [heap_setCell_same _ _ _ _ _ _ (heap_setCell_same _ _ _ _ _ _ HB.out)];rfl)
    ⟨rfl,rfl,rfl,by simp,fun j hj hne=>by
     have hj:j ≠ cb:=fun e=>hne (by rw [e])
     rw [heap_setCell_other _ _ _ _ hj,heap_setCell_other _ _ _ _ hj]⟩ hW.ext)
  go_wp2_with fail
  go_quiet (fail)
  go_wp2_with fail
  go_quiet (fail)
  go_wp2_with fail
  go_quiet (fail)
  go_wp2_with fail;refine bodyPost_ret (v:=.int .i64 _) (by simp [results,Tryz.results166,go_sem];rfl) rfl ⟨⟨_,rfl,(iA _).1,(iA _).2⟩,HFIN.out _ _ ⟨_,rfl⟩⟩
 ·have HFIN:=ae (fun (v:Int) (W:World) (hW:Drew (w.setCell ⟨cb,2,none⟩ (.int .i64 v)) W) =>
   kL (i':=i) (v:=v) HB.out HBY.out h0 h1 HNE.out (W0:=w.setCell ⟨cb,2,none⟩ (.int .i64 v))
    (by rw [heap_setCell_same _ _ _ _ _ _ HB.out];rfl)
    ⟨rfl,rfl,rfl,by simp,fun j hj hne=>by
     have hj:j ≠ cb:=fun e=>hne (by rw [e])
     rw [heap_setCell_other _ _ _ _ hj]⟩ hW.ext)
  go_enter Tryz.func166,Tryz.ntmps166
  go_wp2_with fail
  go_quiet (fail)
  go_wp2_with fail
  go_quiet (fail)
  go_wp2_with fail;refine bodyPost_ret (v:=.int .i64 _) (by simp [results,Tryz.results166,go_sem];rfl) rfl ⟨⟨_,rfl,(iA _).1,(iA _).2⟩,HFIN.out _ _ (Drew.trans ⟨_,rfl⟩ ⟨_,rfl⟩)⟩
def Drawn (w:World) (cb:Nat) (lo hi:Int) (e:Ending) (w':World):Prop:=(∃ x:Int,e=.returned (.int .i64 x)/\lo<=x/\x<=hi)/\Cur w' cb/\w.grownBy w' (some cb)
theorem du {w w1 w2:World} {cb:Nat} (h:w.grownBy w1 (some cb)) (k:w1.grownBy w2 (some cb)):w.grownBy w2 (some cb):=iQ h k (fun k hk=>.inl hk)
set_option maxHeartbeats 8000000 in
theorem ch {w:World} {cb:Nat} (h:Cur w cb) (n:Int) (hn:1<=n) :
 Calls Tryz.prog 92 #[.pointer (some ⟨cb,0,none⟩),.int .i64 n] w (Drawn w cb 0 (n-1)):=by
 have H:=ae h;clear h;have hn0:¬ n<=0:=by omega
 have hnz:(n == 0)=false:=by simp;omega
 by_cases hle:n<=256
 ·go_enter Tryz.func92,Tryz.ntmps92
  go_wp2_with fail;refine (fS H.out).mono ?_;rintro e w1 ⟨⟨x,rfl,hx0,hx1⟩,hc,hg⟩;have HC:=ae hc;have HG:=ae hg;clear hc hg;go_wp2_with fail;go_ret;refine ⟨⟨_,rfl,Int.emod_nonneg _ (by omega),?_⟩,HC.out,HG.out⟩;have:=Int.emod_lt_of_pos x (show 0<n by omega);omega
 ·go_enter Tryz.func92,Tryz.ntmps92
  go_wp2_with fail;refine (fS H.out).mono ?_;rintro e w1 ⟨⟨x,rfl,hx0,hx1⟩,hc,hg⟩;have H1:=ae hc;have G1:=ae hg;clear hc hg;go_wp2_with fail;refine (fS H1.out).mono ?_;rintro e w2 ⟨⟨y,rfl,hy0,hy1⟩,hc,hg⟩;have H2:=ae hc;have G2:=ae (du G1.out hg);clear hc hg;go_wp2_with fail;refine (fS H2.out).mono ?_;rintro e w3 ⟨⟨z,rfl,hz0,hz1⟩,hc,hg⟩;have H3:=ae hc;have G3:=ae (du G2.out hg);clear hc hg;go_wp2_with fail;refine (fS H3.out).mono ?_;rintro e w4 ⟨⟨u,rfl,hu0,hu1⟩,hc,hg⟩;have H4:=ae hc;have G4:=ae (du G3.out hg);clear hc hg;go_wp2_with fail;go_ret;refine ⟨⟨_,rfl,Int.emod_nonneg _ (by omega),?_⟩,H4.out,G4.out⟩;have:=Int.emod_lt_of_pos (x*16777216+y*65536+z*256+u) (show 0<n by omega);omega
set_option maxHeartbeats 8000000 in
theorem dV {w:World} {cb:Nat} (h:Cur w cb) {a:Option Addr} {n cap:Nat} {l:List Int} (hl:Ints w a n cap l) (hn:1<=n) (hne:∀ b off,a=some ⟨b,off,none⟩->b ≠ cb) :
 Calls Tryz.prog 106 #[.pointer (some ⟨cb,0,none⟩),.slice a n cap] w fun e w'=>(∃ k:Nat,k<n/\e=.returned (.int .i64 (l[k]?.getD 0)))/\Cur w' cb/\w.grownBy w' (some cb):=by
 have hcap:=hl.hcap;have hmax:=hl.hmax;have H:=ae (ch h (n:Int) (by omega));have HL:=ae hl;have HN:=ae hne;clear h hl hne;go_enter Tryz.func106,Tryz.ntmps106
 go_wp2_with fail;refine H.out.mono ?_;rintro e w1 ⟨⟨x,rfl,hx0,hx1⟩,hc,hg⟩;obtain ⟨k,rfl⟩:∃ k:Nat,x=k:=⟨x.toNat,by omega⟩;have hk:k<n:=by omega
 obtain ⟨b,off,rfl,hcell⟩:=HL.out.at hk;have hcell1:w1.cell? ⟨b,off+k,none⟩=some (.int .i64 (l[k]?.getD 0)) :=
  (dO (hg.block b (World.block_lt_of_cell? _ _ hcell) (fun e=>HN.out b off rfl (Option.some.inj e))) _).trans hcell
 have HC:=ae hc;have HG:=ae hg;clear hc hg hcell;go_wp2_with fail;go_ret;exact ⟨⟨k,hk,rfl⟩,HC.out,HG.out⟩
open Go.ChangeShapes Go.WideShapes Go.ChangeAt Go.RowKit Go.Joins Go.Deep
section
variable {H:Type} {enc:TypeId × Value->H} {P:Program} {w:World} {base:Nat} {spare:Nat->Bool} {held:Bool}
theorem oJ {t e:TypeId} {fuel:Nat} {v:Value} {x:DataW H × List MemPlace} (ht:P.underlying t=some (.slice e)) (he:P.underlying e=some (.int .u8)) (hc:P.cellsOf e=1)
 (h:DataW.trod enc P w base spare held fuel t [v]=some x):∃ a n cap,v=.slice a n cap/\dW w a n cap:=by
 obtain ⟨a,n,cap,l,hv,hl,h1,h2,h3⟩:=pS (E:=fun u z=>u=.int .u8 z/\0<=z/\z<=255) ht hc (fun n u y hy=>by
  obtain ⟨z,hz,_,wf⟩:=DataW.trod_int he hy
  exact ⟨z,by simpa using hz,wf_u8 wf⟩) h
 refine ⟨a,n,cap,hv,⟨h1,h2,fun k hk=>?_⟩⟩;obtain ⟨b,off,ha,hc⟩:=h3 k hk;refine ⟨b,off,ha,fun k hk=>?_⟩;obtain ⟨u,h4,h5,h6⟩:=hc k hk;exact ⟨_,by rw [h4,h5],h6⟩
end
end Go.Proofs.YthjjfkeacobikaaGreat
