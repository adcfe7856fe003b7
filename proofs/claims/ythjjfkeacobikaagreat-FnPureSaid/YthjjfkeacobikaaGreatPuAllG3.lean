import Derived.Test.YthjjfkeacobikaaGreatPuAllG0
import Derived.Test.YthjjfkeacobikaaGreatPuAllG2
import Derived.Deep.RegionLaw
set_option linter.unusedVariables false
set_option linter.unusedSimpArgs false
namespace Go.Proofs.YthjjfkeacobikaaGreat
open Go.RowKit
structure Rats (w:World) (a:Option Addr) (n cap:Nat) (l:List (Int × Int)):Prop where
 hlen:l.length=n
 hcap:n<=cap
 hmax:cap<=9223372036854775807
 cell:∀ k,k<n->∃ b off,a=some ⟨b,off,none⟩/\∀ k,k<n->w.cell? ⟨b,off+k*2,none⟩=some (.int .i64 (l[k]?.getD (0,0)).1)/\w.cell? ⟨b,off+k*2+1,none⟩=some (.int .i64 (l[k]?.getD (0,0)).2)
theorem Rats.ext {w w':World} {a:Option Addr} {n cap:Nat} {l:List (Int × Int)} (h:Rats w a n cap l) (hx:Ext w w'):Rats w' a n cap l :=
 ⟨h.hlen,h.hcap,h.hmax,fun k hk=>let ⟨b,off,e,hc⟩:=h.cell k hk;⟨b,off,e,fun k hk=>⟨hx.cellSome (hc k hk).1,hx.cellSome (hc k hk).2⟩⟩⟩
theorem Rats.at {w:World} {a:Option Addr} {n cap:Nat} {l:List (Int × Int)} (h:Rats w a n cap l) {k:Nat} (hk:k<n) :
 ∃ b off x y,a=some ⟨b,off,none⟩/\l[k]?.getD (0,0)=(x,y)/\w.cell? ⟨b,off+k*2,none⟩=some (.int .i64 x)/\w.cell? ⟨b,off+k*2+1,none⟩=some (.int .i64 y) :=
 let ⟨b,off,e,hc⟩:=h.cell k hk;⟨b,off,_,_,e,rfl,(hc k hk).1,(hc k hk).2⟩
theorem eo {l:List (Int × Int)} {k:Nat} (h:k<l.length):l.take (k+1)=l.take k++[l[k]?.getD (0,0)]:=by
 rw [List.take_succ_eq_append_getElem h];simp [h]
set_option maxHeartbeats 1000000 in
theorem ig {w:World} {a a':Option Addr} {n n' cap cap':Nat} {l l':List (Int × Int)} (h:Rats w a n cap l) (h':Rats w a' n' cap' l') :
 Calls Tryz.prog 35 #[.slice a n cap,.slice a' n' cap'] w fun e w'=>e=.returned (.bool (decide (l=l')))/\Drew w w':=by
 have hn:=h.hcap;have hm:=h.hmax;have hn':=h'.hcap;have hm':=h'.hmax;have HL:=ae h.hlen;have HL':=ae h'.hlen;by_cases hne:n=n'
 ·subst hne;go_enter Tryz.func35,Tryz.ntmps35
  go_wp2
  go_loopw [5] (fun i wr=>∃ k:Nat,k<=n/\i=.int .i64 k/\l.take k=l'.take k/\Drew w wr) (fun i _=>n-(intOf i).toNat)
  case atStart=>exact ⟨0,Nat.zero_le _,rfl,rfl,Drew.refl _⟩
  case round =>
   obtain ⟨k,hk,rfl,htk,hx⟩:=hrel;have HT:=ae htk;clear htk;by_cases hlt:k<n
   ·have h1:=h.ext hx.ext;have h1':=h'.ext hx.ext;obtain ⟨b,off,x,y,rfl,hxy,hc1,hc2⟩:=h1.at hlt;obtain ⟨b',off',x',y',rfl,hxy',hc1',hc2'⟩:=h1'.at hlt;have HXY:=ae hxy;have HXY':=ae hxy';clear hxy hxy';by_cases hq:x=x'/\y=y'
    ·obtain ⟨rfl,rfl⟩:=hq
     go_wp2
     go_quiet (fail)
     go_wp2
     go_roundw
     case rel=>exact ⟨k+1,by omega,by go_num,by rw [eo (by have:=HL.out;omega),eo (by have:=HL'.out;omega),HT.out,HXY.out,HXY'.out],hx.trans ⟨_,rfl⟩⟩
     case measure=>simp [intOf];omega
    ·have HQ:=ae hq;cases hx1:(x == x')
     all_goals
      cases hy1:(y == y')
     case neg.true.true=>exact absurd ⟨by simpa using hx1,by simpa using hy1⟩ hq
     all_goals
      clear hq
      go_wp2
      go_quiet (fail)
      go_wp2
      go_ret;refine ⟨ag ?_,hx.trans ⟨_,rfl⟩⟩
      symm
      rw [decide_eq_false_iff_not];intro e;have:=HXY.out.symm.trans ((congrArg (fun l=>l[k]?.getD (0,0)) e).trans HXY'.out);simp only [Prod.mk.injEq] at this;exact HQ.out this
   ·go_wp2
    go_ret;refine ⟨ag ?_,hx⟩
    symm
    rw [decide_eq_true_eq];have:=HT.out
    rwa [List.take_of_length_le (by have:=HL.out;omega),List.take_of_length_le (by have:=HL'.out;omega)] at this
 ·have hne':((n:Int) != (n':Int))=true:=by simp;omega
  have HN:=ae hne;clear hne;go_enter Tryz.func35,Tryz.ntmps35
  go_wp2
  go_ret;refine ⟨ag ?_,Drew.refl _⟩
  symm
  rw [decide_eq_false_iff_not];intro e;exact HN.out (by rw [<-HL.out,<-HL'.out,e])
def ratCells (l:List (Int × Int)):Array Value:=(l.flatMap fun p=>[Value.int .i64 p.1,Value.int .i64 p.2]).toArray
theorem ko:∀ (l:List (Int × Int)) (k:Nat),k<l.length->(l.flatMap fun p=>[Value.int .i64 p.1,Value.int .i64 p.2])[k*2]?=some (.int .i64 (l[k]?.getD (0,0)).1)/\(l.flatMap fun p=>[Value.int .i64 p.1,Value.int .i64 p.2])[k*2+1]?=some (.int .i64 (l[k]?.getD (0,0)).2)
 | [],k,h=>absurd h (by simp)
 | p :: l,0,_=>by simp
 | p :: l,k+1,h=>by
   have:=ko l k (by simpa using h);rw [show (k+1)*2=k*2+1+1 by omega]
   simpa using this
theorem lL:∀ (l:List (Int × Int)) (k:Nat) (x y:Int),k<l.length->((l.flatMap fun p=>[Value.int .i64 p.1,Value.int .i64 p.2]).set (k*2) (.int .i64 x)).set (k*2+1) (.int .i64 y)=(l.set k (x,y)).flatMap fun p=>[Value.int .i64 p.1,Value.int .i64 p.2]
 | [],k,_,_,h=>absurd h (by simp)
 | p :: l,0,_,_,_=>by simp
 | p :: l,k+1,x,y,h=>by
   have:=lL l k x y (by simpa using h);rw [show (k+1)*2=k*2+1+1 by omega]
   simpa using this
theorem iZ:∀ l:List (Int × Int),(l.flatMap fun p=>[Value.int .i64 p.1,Value.int .i64 p.2]).length=l.length*2
 | []=>rfl
 | p :: l=>by have:=iZ l;simp at this ⊢;omega
def RRow (w:World) (b:Nat) (t:TypeId) (l:List (Int × Int)):Prop:=w.heap[b]?=some (.cells (ratCells l) t (0,0))
theorem Tryz.infoRat:(Tryz.prog.info? 43).map (fun i=>(i.zero,i.size,i.bytes))=some (some (.agg #[.int .i64 0,.int .i64 0]),2,16):=by kernel_rfl
def ratL (l:List (Int × Int)):List Value:=l.flatMap fun p=>[Value.int .i64 p.1,Value.int .i64 p.2]
theorem nu (l l':List (Int × Int)):ratL (l++l')=ratL l++ratL l':=by simp [ratL]
theorem ms:∀ (l:List (Int × Int)),∀ u ∈ ratL l,u.oneCell'=true
 | [],u,h=>by simp [ratL] at h
 | p :: l,u,h=>by
   simp only [ratL,List.flatMap_cons,List.mem_append,List.mem_cons,List.not_mem_nil,or_false] at h
   rcases h with (rfl|rfl)|h
   ·rfl
   ·rfl
   ·exact ms l u h
def OwnR (w:World) (base:Nat) (v:Value) (l:List (Int × Int)):Prop:=w.ownsRow base 43 2 v l.length (ratL l)
theorem OwnR.form {w:World} {base:Nat} {v:Value} {l:List (Int × Int)} (h:OwnR w base v l):∃ a cap,v=.slice a l.length cap/\l.length<=cap/\cap<=9223372036854775807:=by
 rcases h.2 with ⟨rfl,h0⟩|⟨g,cap,cur,rfl,_,_,h1,h2,_⟩
 ·exact ⟨none,0,by rw [h0],by omega,by omega⟩
 ·exact ⟨_,cap,rfl,h1,by simpa [maxLen] using h2⟩
theorem OwnR.var {w:World} {base:Nat} {v:Value} {l:List (Int × Int)} (h:OwnR w base v l):∃ a n cap,v=.slice a n cap/\Hid (l.length=n):=by
 obtain ⟨a,cap,e,_⟩:=h.form;exact ⟨a,_,cap,e,rfl⟩
theorem OwnR.rats {w:World} {base:Nat} {a:Option Addr} {n cap:Nat} {l:List (Int × Int)} (h:OwnR w base (.slice a n cap) l):Rats w a n cap l:=by
 rcases h.2 with ⟨he,h0⟩|⟨g,cap',cur,he,_,hg,h1,h2,hs,ht⟩
 ·simp only [Value.slice.injEq] at he;obtain ⟨rfl,rfl,rfl⟩:=he;exact ⟨h0,Nat.le_refl _,by omega,fun k hk=>absurd hk (by omega)⟩
 ·simp only [Value.slice.injEq] at he;obtain ⟨rfl,rfl,rfl⟩:=he;refine ⟨rfl,h1,by simpa [maxLen] using h2,fun k hk=>⟨g,0,rfl,fun k hk=>?_⟩⟩;rw [Nat.zero_add,cell_of_row w g _ cur _ (0,0) hg,cell_of_row w g _ cur _ (0,0) hg];obtain ⟨q1,q2⟩:=ko l k hk;change (ratL l)[k*2]?=_ at q1;change (ratL l)[k*2+1]?=_ at q2;rw [<-ht,List.getElem?_take,if_pos (by omega)] at q1 q2;exact ⟨by simpa using q1,by simpa using q2⟩
theorem OwnR.lt {w:World} {base:Nat} {v:Value} {l:List (Int × Int)} (h:OwnR w base v l):∀ k,v.ownBlock=some k->base<=k/\k<w.heap.size:=World.ownsRow.lt h
theorem OwnR.keep {w w':World} {base:Nat} {v:Value} {l:List (Int × Int)} (h:OwnR w base v l) (hk:∀ k,v.ownBlock=some k->w'.heap[k]?=w.heap[k]?):OwnR w' base v l:=by
 refine ⟨h.1,?_⟩
 rcases h.2 with hn|⟨g,cap,cur,rfl,hb,hgg,rest⟩
 ·exact .inl hn
 ·exact .inr ⟨g,cap,cur,rfl,hb,(hk g rfl).trans hgg,rest⟩
theorem OwnR.ext {w w':World} {base:Nat} {v:Value} {l:List (Int × Int)} (h:OwnR w base v l) (hx:Ext w w'):OwnR w' base v l:=h.keep fun k hk=>hx.block k (h.lt k hk).2
theorem OwnR.on {w:World} {base:Nat} {v:Value} {l:List (Int × Int)} (h:OwnR w base v l):On base w (fun W=>OwnR W base v l):=fun w2 h2=>h.keep fun k hk=>h2 k (h.lt k hk).1 (h.lt k hk).2
theorem OwnR.mono {w:World} {base base':Nat} {v:Value} {l:List (Int × Int)} (h:OwnR w base v l) (hb:base'<=base):OwnR w base' v l:=by
 refine ⟨h.1,?_⟩
 rcases h.2 with hn|⟨g,cap,cur,rfl,hbb,rest⟩
 ·exact .inl hn
 ·exact .inr ⟨g,cap,cur,rfl,by omega,rest⟩
theorem OwnR.nil (w:World) (base:Nat):OwnR w base (.slice none 0 0) []:=World.ownsRow_nil w base _ 2
section
variable {P:Program} {w:World} {ops:Array Oper} {rest:List Oper} {o:Oper} {a:Act} {Q:Exit->Act->World->Prop}
theorem dd {K:Act->World->Prop} (s x:Operand) (ho:o.op=.call { callee:=.builtin .append,args:=#[s,x],argTypes:=#[36,36] })
 (base:Nat) (v:Value) (l:List (Int × Int)) (hs:a.eval s=v) (hown:OwnR w base v l) (ao:Option Addr) (m c:Nat) (l':List (Int × Int)) (hx:a.eval x=.slice ao m c) (hi':Rats w ao m c l') (hb:l.length+m<=1099511627776) (hbase:base<=w.heap.size)
 (h:∀ v' w',OwnR w' base v' (l++l')->w.grownBy w' v.ownBlock->Near w v v'->K (a.put o.dst v') w'):o.wp Tryz.prog a w K Q:=by
 obtain ⟨i,hi,hz0,hz1,hz2⟩:=info_parts Tryz.infoRat;cases ao with
 | none =>
   have hm:m=0:=by
    rcases Nat.eq_zero_or_pos m with h0|h0
    ·exact h0
    ·obtain ⟨b,off,e,_⟩:=hi'.cell 0 h0;cases e
   subst hm;have hl:l'=[]:=List.eq_nil_of_length_eq_zero hi'.hlen;subst hl;refine es w s x 36 ho base 43 i 2 Tryz.underlying36 hi v l.length _ hs hown c hx ?_;exact h v w (by simpa using hown) (World.grownBy.refl _ _) (Near.refl _ _)
 | some ad =>
   refine dN w s x 36 ho base 43 i (.agg #[.int .i64 0,.int .i64 0]) 2 16 Tryz.underlying36 hi hz0 hz1 hz2 rfl (by decide) v l.length (ratL l) hs hown ad m c (ratL l') hx (by have:=iZ l';have:=hi'.hlen;unfold ratL;omega) ?_ (ms l') (by simp [maxLen];omega) (by omega) hbase ?_
   ·intro j u hu;have hjl:j<l'.length*2:=by
     have:=(List.getElem?_eq_some_iff.1 hu).1;have h2:=iZ l';unfold ratL at this;omega
    have hml:=hi'.hlen;obtain ⟨b,off,e,hc⟩:=hi'.cell (j / 2) (by omega);simp only [Option.some.injEq] at e;subst e;obtain ⟨c1,c2⟩:=hc (j / 2) (by omega);obtain ⟨q1,q2⟩:=ko l' (j / 2) (by omega);change (ratL l')[j / 2*2]?=_ at q1;change (ratL l')[j / 2*2+1]?=_ at q2;have hj:j=j / 2*2 ∨ j=j / 2*2+1:=by omega
    have ha:∀ k,(⟨b,off,none⟩:Addr).add k=⟨b,off+k,none⟩:=fun k=>by unfold Addr.add;split <;> simp_all
    rw [ha]
    rcases hj with hj|hj
    ·rw [hj] at hu ⊢;rw [q1] at hu;rw [c1,<-hu]
    ·rw [hj] at hu ⊢;rw [q2] at hu;rw [<-Nat.add_assoc,c2,<-hu]
   ·intro v' w' h1 h2 h3;refine h v' w' ?_ h2 h3;unfold OwnR;rw [List.length_append,hi'.hlen,nu];exact h1
theorem aJ (hgd:o.guard=none) (s x:Operand) (ho:o.op=.call { callee:=.builtin .append,args:=#[s,x],argTypes:=#[36,36] })
 (base:Nat) (v:Value) (l:List (Int × Int)) (hs:a.eval s=v) (hown:OwnR w base v l) (ao:Option Addr) (m c:Nat) (l':List (Int × Int)) (hx:a.eval x=.slice ao m c) (hi':Rats w ao m c l') (hb:l.length+m<=1099511627776) (hbase:base<=w.heap.size)
 (h:∀ v' w',OwnR w' base v' (l++l')->w.grownBy w' v.ownBlock->Near w v v'->wpList Tryz.prog ops Q rest (a.put o.dst v') w'):wpList Tryz.prog ops Q (o :: rest) a w :=
 wpList_plain hgd fun _ hK=>dd s x ho base v l hs hown ao m c l' hx hi' hb hbase fun v' w' h1 h2 h3=>hK _ _ (h v' w' h1 h2 h3)
end
theorem OwnR.made (w:World) (base:Nat) (hb:base<=w.heap.size):OwnR (w.alloc (.cells #[] 43)) base (.slice (some ⟨w.heap.size,0,none⟩) 0 0) [] :=
 World.ownsRow_lit w #[] 0 hb (by omega) rfl
theorem Rats.one (w:World) (x y:Int) (t:TypeId):Rats (w.alloc (.cells #[.int .i64 x,.int .i64 y] t)) (some ⟨w.heap.size,0,none⟩) 1 1 [(x,y)] :=
 ⟨rfl,Nat.le_refl _,by omega,fun k hk=>⟨_,0,rfl,fun k hk=>by
  obtain rfl:k=0:=by omega
  simp⟩⟩
theorem Rats.one' (w:World) (x y:Int) (t:TypeId) (n:Nat) (hn:n=w.heap.size):Rats (w.alloc (.cells #[.int .i64 x,.int .i64 y] t)) (some ⟨n,0,none⟩) 1 1 [(x,y)]:=by
 subst hn;exact Rats.one w x y t
theorem OwnR.set {w:World} {base g n cap:Nat} {l:List (Int × Int)} (h:OwnR w base (.slice (some ⟨g,0,none⟩) n cap) l) {k:Nat} (hk:k<l.length) (x y:Int) :
 OwnR ((w.setCell ⟨g,k*2,none⟩ (.int .i64 x)).setCell ⟨g,k*2+1,none⟩ (.int .i64 y)) base (.slice (some ⟨g,0,none⟩) n cap) (l.set k (x,y)):=by
 obtain ⟨a',c',he,_⟩:=OwnR.form h;simp only [Value.slice.injEq] at he;obtain ⟨_,rfl,_⟩:=he;have h1:=(World.ownsRow.stored h (k*2) (.int .i64 x)).1;have h2:=(World.ownsRow.stored h1 (k*2+1) (.int .i64 y)).1;unfold OwnR;rw [List.length_set];have e:=lL l k x y hk;change _=ratL (l.set k (x,y)) at e;rw [<-e];exact h2
theorem OwnR.block {w:World} {base:Nat} {a:Option Addr} {n cap:Nat} {l:List (Int × Int)} (h:OwnR w base (.slice a n cap) l) {k:Nat} (hk:k<n):∃ g,a=some ⟨g,0,none⟩/\base<=g/\(∀ j,w.frozen? ⟨g,j,none⟩=false)/\g<w.heap.size:=by
 rcases h.2 with ⟨he,h0⟩|⟨g,cap',cur,he,hb,hg,_⟩
 ·simp only [Value.slice.injEq] at he;omega
 ·simp only [Value.slice.injEq] at he;obtain ⟨rfl,_⟩:=he;exact ⟨g,rfl,hb,fun j=>frozen_of_row w g j cur _ hg,lt_of_block hg⟩
end Go.Proofs.YthjjfkeacobikaaGreat
namespace Go.Proofs.YthjjfkeacobikaaGreat
def gI (a b:Int):Int:=(Int.gcd a b:Int)
theorem nK (a b:Int):gI b (a.tmod b)=gI a b:=by
 unfold gI Int.gcd;rw [Int.natAbs_tmod,Nat.gcd_comm b.natAbs,<-Nat.gcd_rec,Nat.gcd_comm]
theorem kq (a:Int):gI a 0=(a.natAbs:Int):=by simp [gI]
theorem fF (a b:Int):gI (-a) b=gI a b:=by simp [gI,Int.gcd]
theorem iC (a b:Int):gI a (-b)=gI a b:=by simp [gI,Int.gcd]
theorem ip (a:Int) {b:Int} (h:b ≠ 0):1<=gI a b:=by
 unfold gI;have:0<Int.gcd a b:=Int.gcd_pos_of_ne_zero_right a h;omega
theorem kR (a b:Int):0<=gI a b:=by unfold gI;omega
theorem gI_le (a:Int) {b:Int} (h:b ≠ 0):gI a b<=b.natAbs:=by
 unfold gI Int.gcd
 exact_mod_cast Nat.gcd_le_right _ (by omega)
theorem kp (a b:Int):gI a b ∣ a:=Int.gcd_dvd_left ..
theorem iB (a b:Int):gI a b ∣ b:=Int.gcd_dvd_right ..
def valR (p:Int × Int):Bool:=inB p.2 1 1000000000&&(inB p.1 (-1000000000) 1000000000&&decide (gI p.1 p.2=1))
theorem bh {p:Int × Int} (h:valR p=true):1<=p.2/\p.2<=1000000000/\-1000000000<=p.1/\p.1<=1000000000:=by
 simp only [valR,inB,Bool.and_eq_true,decide_eq_true_eq] at h;omega
theorem fV (x y:Int):valR (-x,y)=valR (x,y):=by
 have h1:inB (-x) (-1000000000) 1000000000=inB x (-1000000000) 1000000000:=by
  unfold inB;have e1:decide (-1000000000<=-x)=decide (x<=1000000000):=by by_cases h:x<=1000000000 <;> simp [h] <;> omega
  have e2:decide (-x<=1000000000)=decide (-1000000000<=x):=by by_cases h:-1000000000<=x <;> simp [h] <;> omega
  rw [e1,e2,Bool.and_comm]
 simp only [valR,fF,h1]
def cutR (p:Int × Int):(Int × Int) × Bool:=if valR p=true then (p,true) else ((0,0),false)
def aD (n d:Int):(Int × Int) × Bool :=
 if d=0 ∨ inB n (-1000000000000000000) 1000000000000000000=false ∨ inB d (-1000000000000000000) 1000000000000000000=false then ((0,0),false)
 else if d<0 then cutR (n.tdiv (-gI n d),d.tdiv (-gI n d)) else cutR (n.tdiv (gI n d),d.tdiv (gI n d))
theorem lI {p:Int × Int} (h:(cutR p).2=true):valR (cutR p).1=true:=by
 unfold cutR at h ⊢
 split at h
 ·next h1=>rw [if_pos h1];exact h1
 ·simp at h
theorem fg {n d:Int} (h:(aD n d).2=true):valR (aD n d).1=true:=by
 unfold aD at h ⊢
 split at h
 ·simp at h
 ·next h1 =>
  rw [if_neg h1]
  split at h
  ·next h2=>rw [if_pos h2];exact lI h
  ·next h2=>rw [if_neg h2];exact lI h
theorem ratOf_no {n d:Int} (h:(aD n d).2=false):(aD n d).1=(0,0):=by
 unfold aD cutR at h ⊢
 split at h
 ·next h1=>rw [if_pos h1]
 ·next h1 =>
  rw [if_neg h1]
  split at h
  ·next h2 =>
   rw [if_pos h2]
   split at h
   ·simp at h
   ·next h3=>rw [if_neg h3]
  ·next h2 =>
   rw [if_neg h2]
   split at h
   ·simp at h
   ·next h3=>rw [if_neg h3]
theorem io (n d:Int) (hd:0<d):gI (n.tdiv (gI n d)) (d.tdiv (gI n d))=1:=by
 have hg:=ip n (show d ≠ 0 by omega);obtain ⟨k,hk⟩:=kp n d;obtain ⟨m,hm⟩:=iB n d;have h1:n.tdiv (gI n d)=k:=by
    conv=>lhs;arg 1;rw [hk]
    exact Int.mul_tdiv_cancel_left _ (by omega)
 have h2:d.tdiv (gI n d)=m:=by
    conv=>lhs;arg 1;rw [hm]
    exact Int.mul_tdiv_cancel_left _ (by omega)
 rw [h1,h2];have h3:gI (gI n d*k) (gI n d*m)=gI n d:=by rw [<-hk,<-hm]
 have h4:gI (gI n d*k) (gI n d*m)=gI n d*gI k m:=by
  show ((Int.gcd _ _:Nat):Int)=_;rw [Int.gcd_mul_left];have:((gI n d).natAbs:Int)=gI n d:=by omega
  rw [Int.natCast_mul,this]
  rfl
 rw [h3] at h4;have h5:gI n d*1=gI n d*gI k m:=by omega
 have:=Int.eq_of_mul_eq_mul_left (by omega) h5;omega
theorem ju (n g:Int) (hg:1<=g):(n.tdiv g).natAbs<=n.natAbs:=by
 rw [Int.natAbs_tdiv];exact Nat.div_le_self _ _
theorem mv {n d:Int} (hd:1<=d) (hd':d<=1000000000) (h:-1000000000<=n) (h':n<=1000000000):(aD n d).2=true:=by
 have hg:=ip n (show d ≠ 0 by omega);have hgl:=gI_le n (show d ≠ 0 by omega);unfold aD;rw [if_neg (by simp [inB];omega),if_neg (by omega)];unfold cutR;have h1:=ju n (gI n d) hg;have h2:=ju d (gI n d) hg;have h3:1<=d.tdiv (gI n d):=by
  obtain ⟨m,hm⟩:=iB n d;have h2:d.tdiv (gI n d)=m:=by
     conv=>lhs;arg 1;rw [hm]
     exact Int.mul_tdiv_cancel_left _ (by omega)
  rw [h2]
  rcases Int.lt_or_le 0 m with h|h
  ·omega
  ·have:gI n d*m<=0:=Int.mul_nonpos_of_nonneg_of_nonpos (by omega) h;omega
 rw [if_pos];simp only [valR,inB,io n d (by omega),Bool.and_eq_true,decide_eq_true_eq,and_true];omega
def addR (a b:Int × Int):(Int × Int) × Bool:=if (valR a&&valR b)=true then aD (a.1*b.2+b.1*a.2) (a.2*b.2) else ((0,0),false)
def subR (a b:Int × Int):(Int × Int) × Bool:=if (valR a&&valR b)=true then aD (a.1*b.2-b.1*a.2) (a.2*b.2) else ((0,0),false)
def mulR (a b:Int × Int):(Int × Int) × Bool:=if (valR a&&valR b)=true then aD (a.1*b.1) (a.2*b.2) else ((0,0),false)
def divR (a b:Int × Int):(Int × Int) × Bool:=if (valR a&&valR b)=true then aD (a.1*b.2) (a.2*b.1) else ((0,0),false)
def cmpR (a b:Int × Int):Int:=if (valR a&&valR b)=true then (if a.1*b.2<b.1*a.2 then -1 else if b.1*a.2<a.1*b.2 then 1 else 0) else 0
theorem mP (a b:Int × Int):addR a (-b.1,b.2)=subR a b:=by
 unfold addR subR;rw [fV,Int.neg_mul,<-Int.sub_eq_add_neg]
theorem mul_bd {x y:Int} (h1:-1000000000<=x) (h2:x<=1000000000) (h3:-1000000000<=y) (h4:y<=1000000000):-1000000000000000000<=x*y/\x*y<=1000000000000000000:=by
 have hx:x.natAbs<=1000000000:=by omega
 have hy:y.natAbs<=1000000000:=by omega
 have h:(x*y).natAbs<=1000000000*1000000000:=by
  rw [Int.natAbs_mul];exact Nat.mul_le_mul hx hy
 omega
set_option maxRecDepth 100000
open Go.RowKit
def in18 (a:Int):Prop:=-1000000000000000000<=a/\a<=1000000000000000000
theorem oe (p:Int) {q:Int} (h:q ≠ 0):(p.tmod q).natAbs<q.natAbs:=by
 rw [Int.natAbs_tmod];exact Nat.mod_lt _ (by omega)
theorem od (p:Int) {q:Int} (h:q ≠ 0) (hq:in18 q):in18 (p.tmod q):=by
 have:=oe p h;unfold in18 at *
 revert this
 generalize p.tmod q=r;intro this;omega
set_option maxHeartbeats 1000000 in
theorem gU (a b:Int) (w:World) (ha:in18 a) (hb:in18 b) :
 Calls Tryz.prog 172 #[.int .i64 a,.int .i64 b] w fun e w'=>e=.returned (.int .i64 (gI a b))/\Drew w w':=by
 go_enter Tryz.func172,Tryz.ntmps172
 go_wp2
 go_loopw [0,1] (fun x y wr=>∃ p q:Int,x=.int .i64 p/\y=.int .i64 q/\Hid (gI p q=gI a b)/\Hid (in18 p)/\Hid (in18 q)/\Drew w wr) (fun _ y _=>(intOf y).natAbs)
 case atStart=>exact ⟨a,b,rfl,rfl,ae rfl,ae ha,ae hb,Drew.refl _⟩
 case round =>
  obtain ⟨p,q,rfl,rfl,HG,HP,HQ,hx⟩:=hrel;obtain ⟨hp1,hp2⟩:=HP.out;obtain ⟨hq1,hq2⟩:=HQ.out;by_cases hq:q=0
  ·subst hq
   go_wp2
   all_goals
    go_ret;refine ⟨aM ?_,hx⟩;have:=HG.out;rw [kq] at this;omega
  ·have hqb:(q != 0)=true:=by simpa using hq
   have hqb':(q == 0)=false:=by simpa using hq
   have ht:=oe p hq;have HT:=ae ht;have HQ':=ae hq
   go_wp2
   go_quiet (fail)
   go_wp2
   go_roundw
   case rel=>exact ⟨q,p.tmod q,rfl,by go_num,ae (by rw [nK];exact HG.out),HQ,ae (od p HQ'.out HQ.out),hx.trans ⟨_,rfl⟩⟩
   case measure=>have h:=HT.out;rw [Int.natAbs_tmod] at h;simp [intOf,Int.natAbs_tmod];omega
set_option maxHeartbeats 1000000 in
theorem kE (a b:Int) (w:World) (ha:in18 a) (hb:in18 b) :
 Calls Tryz.prog 164 #[.int .i64 a,.int .i64 b] w fun e w'=>e=.returned (.int .i64 (gI a b))/\Drew w w':=by
 have ha':=ha;have hb':=hb;obtain ⟨ha1,ha2⟩:=ha';obtain ⟨hb1,hb2⟩:=hb';by_cases h1:a<0
 all_goals
  by_cases h2:b<0
  all_goals
   go_enter Tryz.func164,Tryz.ntmps164
   go_wp2
   go_loop [0,1,5] (fun x y z=>∃ p q:Int,x=.int .i64 p/\y=.int .i64 q/\0<=p/\0<=q/\Hid (gI p q=gI a b)/\Hid (in18 p)/\Hid (in18 q)) (fun _ y _=>(intOf y).natAbs)
   case atStart =>
    first
     | exact ⟨_,_,rfl,rfl,by omega,by omega,ae rfl,ae ha,ae hb⟩
     | exact ⟨-a,_,by go_num,rfl,by omega,by omega,ae (fF _ _),ae ⟨by omega,by omega⟩,ae hb⟩
     | exact ⟨_,-b,rfl,by go_num,by omega,by omega,ae (iC _ _),ae ha,ae ⟨by omega,by omega⟩⟩
     | exact ⟨-a,-b,by go_num,by go_num,by omega,by omega,ae ((fF _ _).trans (iC _ _)),ae ⟨by omega,by omega⟩,ae ⟨by omega,by omega⟩⟩
   case round =>
    obtain ⟨p,q,rfl,rfl,hp0,hq0,HG,HP,HQ⟩:=hrel;by_cases hq:q=0
    ·subst hq
     go_wp2
     go_ret;refine ⟨aM ?_,Drew.refl _⟩;have:=HG.out;rw [kq] at this;omega
    ·have hqb':(q == 0)=false:=by simpa using hq
     have hgt:0<q:=by omega
     have HT:=ae (Int.emod_lt_of_pos p hgt);have HTN:=ae (Int.emod_nonneg p hq);have HQ':=ae hq;have HM:=ae (Int.tmod_eq_emod_of_nonneg (b:=q) hp0)
     go_wp2
     go_round
     case rel=>exact ⟨q,p % q,rfl,by go_num,by omega,HTN.out,ae (by rw [<-HM.out,nK];exact HG.out),HQ,ae (by rw [<-HM.out];exact od p HQ'.out HQ.out)⟩
     case measure=>have:=HT.out;have:=HTN.out;simp [intOf];omega
abbrev ratV (x y:Int):Value:=.agg #[.int .i64 x,.int .i64 y]
abbrev resR (r:(Int × Int) × Bool):Value:=.tuple #[.agg #[.int .i64 r.1.1,.int .i64 r.1.2],.bool r.2]
theorem eR {a:Int} (h:in18 a):in18 (-a):=by unfold in18 at *;omega
theorem jU (n:Int) {g:Int} (hg:1<=g) (hn:in18 n):in18 (n.tdiv g):=by
 have:=ju n g hg;unfold in18 at *
 revert this
 generalize n.tdiv g=r;intro this;omega
theorem bu {a:Int} (h:in18 a):IntKind.i64.wrap a=a/\wrap64 a=a:=by
 unfold in18 at h;have:wrap64 a=a:=by unfold wrap64;omega
 exact ⟨by rw [IntKind.wrap_i64];omega,this⟩
set_option maxHeartbeats 1000000 in
theorem av (x y:Int) (w:World) :
 Calls Tryz.prog 105 #[ratV x y] w fun e w'=>e=.returned (.bool (valR (x,y)))/\Ext w w':=by
 have HX:=ae (Ext.alloc w (.cells #[.int .i64 x,.int .i64 y] 43));cases h1:inB y 1 1000000000
 ·have H1:=ae h1;clear h1;go_enter Tryz.func105,Tryz.ntmps105
  go_wp2_with fail;refine (aU _ _ _ _).mono ?_;rw [H1.out];rintro e w1 ⟨rfl,rfl⟩
  go_wp2
  go_ret;exact ⟨ag (by simp [valR,H1.out]),HX.out⟩
 ·have H1:=ae h1;have hy:in18 y:=by simp only [inB,Bool.and_eq_true,decide_eq_true_eq] at h1;exact ⟨by omega,by omega⟩
  clear h1;cases h2:inB x (-1000000000) 1000000000
  ·have H2:=ae h2;clear h2;go_enter Tryz.func105,Tryz.ntmps105
   go_wp2_with fail;refine (aU _ _ _ _).mono ?_;rw [H1.out];rintro e w1 ⟨rfl,rfl⟩;go_wp2_with fail;refine (aU _ _ _ _).mono ?_;rw [H2.out];rintro e w1 ⟨rfl,rfl⟩
   go_wp2
   go_ret;exact ⟨ag (by simp [valR,H2.out]),HX.out⟩
  ·have H2:=ae h2;have hx:in18 x:=by simp only [inB,Bool.and_eq_true,decide_eq_true_eq] at h2;exact ⟨by omega,by omega⟩
   clear h2;have HC:=ae (gU x y (w.alloc (.cells #[.int .i64 x,.int .i64 y] 43)) hx hy);go_enter Tryz.func105,Tryz.ntmps105
   go_wp2_with fail;refine (aU _ _ _ _).mono ?_;rw [H1.out];rintro e w1 ⟨rfl,rfl⟩;go_wp2_with fail;refine (aU _ _ _ _).mono ?_;rw [H2.out];rintro e w1 ⟨rfl,rfl⟩;go_wp2_with fail;refine HC.out.mono ?_;rintro e w1 ⟨rfl,hd⟩
   go_wp2
   go_ret;exact ⟨ag (by simp only [valR,H1.out,H2.out];by_cases h:gI x y=1 <;> simp [h]),HX.out.trans hd.ext⟩
set_option maxHeartbeats 1000000 in
theorem az (x y:Int) (w:World) :
 Calls Tryz.prog 104 #[ratV x y] w fun e w'=>e=.returned (.bool (valR (x,y)))/\Ext w w':=by
 have HX:=ae (Ext.alloc w (.cells #[.int .i64 x,.int .i64 y] 43));cases h1:inB y 1 1000000000
 ·have H1:=ae h1;clear h1;go_enter Tryz.func104,Tryz.ntmps104
  go_wp2_with fail;refine (bv _ _ _ _).mono ?_;rw [H1.out];rintro e w1 ⟨rfl,rfl⟩
  go_wp2
  go_ret;exact ⟨ag (by simp [valR,H1.out]),HX.out⟩
 ·have H1:=ae h1;have hy:in18 y:=by simp only [inB,Bool.and_eq_true,decide_eq_true_eq] at h1;exact ⟨by omega,by omega⟩
  clear h1;cases h2:inB x (-1000000000) 1000000000
  ·have H2:=ae h2;clear h2;go_enter Tryz.func104,Tryz.ntmps104
   go_wp2_with fail;refine (bv _ _ _ _).mono ?_;rw [H1.out];rintro e w1 ⟨rfl,rfl⟩;go_wp2_with fail;refine (bv _ _ _ _).mono ?_;rw [H2.out];rintro e w1 ⟨rfl,rfl⟩
   go_wp2
   go_ret;exact ⟨ag (by simp [valR,H2.out]),HX.out⟩
  ·have H2:=ae h2;have hx:in18 x:=by simp only [inB,Bool.and_eq_true,decide_eq_true_eq] at h2;exact ⟨by omega,by omega⟩
   clear h2;have HC:=ae (kE x y (w.alloc (.cells #[.int .i64 x,.int .i64 y] 43)) hx hy);go_enter Tryz.func104,Tryz.ntmps104
   go_wp2_with fail;refine (bv _ _ _ _).mono ?_;rw [H1.out];rintro e w1 ⟨rfl,rfl⟩;go_wp2_with fail;refine (bv _ _ _ _).mono ?_;rw [H2.out];rintro e w1 ⟨rfl,rfl⟩;go_wp2_with fail;refine HC.out.mono ?_;rintro e w1 ⟨rfl,hd⟩
   go_wp2
   go_ret;exact ⟨ag (by simp only [valR,H1.out,H2.out];by_cases h:gI x y=1 <;> simp [h]),HX.out.trans hd.ext⟩
set_option maxHeartbeats 4000000 in
theorem iD (n d:Int) (w:World) :
 Calls Tryz.prog 178 #[.int .i64 n,.int .i64 d] w fun e w'=>e=.returned (resR (aD n d))/\Ext w w':=by
 have HX:=ae (Ext.alloc w (.cells #[.int .i64 0,.int .i64 0] 43));by_cases h0:d=0
 ·have HR:=ae (show aD n d=((0,0),false) by unfold aD;rw [if_pos (.inl h0)]);subst h0;go_enter Tryz.func178,Tryz.ntmps178
  go_wp2
  rw [HR.out];refine bodyPost_ret (v:=.tuple #[.agg #[.int .i64 0,.int .i64 0],.bool false]) (by simp [results,Tryz.results178,go_sem]) rfl ⟨rfl,HX.out⟩
 have h0b:(d == 0)=false:=by simpa using h0
 cases h1:inB n (-1000000000000000000) 1000000000000000000
 ·have H1:=ae h1;clear h1;have HR:=ae (show aD n d=((0,0),false) by unfold aD;rw [if_pos (.inr (.inl H1.out))]);go_enter Tryz.func178,Tryz.ntmps178
  go_wp2_with fail;refine (aU _ _ _ _).mono ?_;rw [H1.out];rintro e w1 ⟨rfl,rfl⟩
  go_wp2
  rw [HR.out];refine bodyPost_ret (v:=.tuple #[.agg #[.int .i64 0,.int .i64 0],.bool false]) (by simp [results,Tryz.results178,go_sem]) rfl ⟨rfl,HX.out⟩
 have H1:=ae h1;have hn:in18 n:=by simp only [inB,Bool.and_eq_true,decide_eq_true_eq] at h1;exact ⟨by omega,by omega⟩
 clear h1;cases h2:inB d (-1000000000000000000) 1000000000000000000
 ·have H2:=ae h2;clear h2;have HR:=ae (show aD n d=((0,0),false) by unfold aD;rw [if_pos (.inr (.inr H2.out))]);go_enter Tryz.func178,Tryz.ntmps178
  go_wp2_with fail;refine (aU _ _ _ _).mono ?_;rw [H1.out];rintro e w1 ⟨rfl,rfl⟩;go_wp2_with fail;refine (aU _ _ _ _).mono ?_;rw [H2.out];rintro e w1 ⟨rfl,rfl⟩
  go_wp2
  rw [HR.out];refine bodyPost_ret (v:=.tuple #[.agg #[.int .i64 0,.int .i64 0],.bool false]) (by simp [results,Tryz.results178,go_sem]) rfl ⟨rfl,HX.out⟩
 have H2:=ae h2;have hd:in18 d:=by simp only [inB,Bool.and_eq_true,decide_eq_true_eq] at h2;exact ⟨by omega,by omega⟩
 clear h2;have hg1:=ip n h0;have hg2:=gI_le n h0;have hq:=jU n hg1 hn;have hq':=jU d hg1 hd;by_cases h3:d<0
 ·have HC:=ae (gU n d (w.alloc (.cells #[.int .i64 0,.int .i64 0] 43)) hn hd);obtain ⟨g,hg⟩:∃ g,g=gI n d:=⟨_,rfl⟩;rw [<-hg] at hg1 hg2 HC hq hq';have HG:=ae hg;have hg3:g<=1000000000000000000:=by obtain ⟨_,_⟩:=hd;omega
  have hgz:¬ g=0:=by omega
  have hgn:(-g == 0)=false:=by simp;omega
  obtain ⟨hn1,hn2⟩:=hn;obtain ⟨hd1,hd2⟩:=hd;obtain ⟨q1,hq1⟩:∃ q1,q1=-(n.tdiv g):=⟨_,rfl⟩;obtain ⟨q2,hq2⟩:∃ q2,q2=-(d.tdiv g):=⟨_,rfl⟩;have HR:=ae (show aD n d=cutR (q1,q2) by unfold aD;rw [if_neg (by simp [h0,H1.out,H2.out]),if_pos h3,<-HG.out,Int.tdiv_neg,Int.tdiv_neg,hq1,hq2]);obtain ⟨e1,e2⟩:=bu (eR hq);obtain ⟨e3,e4⟩:=bu (eR hq');rw [<-hq1] at e1 e2;rw [<-hq2] at e3 e4;have m1:(-n).tdiv g=q1:=by rw [Int.neg_tdiv,hq1]
  have m2:(-d).tdiv g=q2:=by rw [Int.neg_tdiv,hq2]
  have m3:n.tdiv (-g)=q1:=by rw [Int.tdiv_neg,hq1]
  have m4:d.tdiv (-g)=q2:=by rw [Int.tdiv_neg,hq2]
  have hq1':=hq1.symm;have hq2':=hq2.symm;clear hq hq' hg hg2 hq1 hq2;cases hv:valR (q1,q2)
  all_goals
   go_enter Tryz.func178,Tryz.ntmps178
   go_wp2_with fail;refine (aU _ _ _ _).mono ?_;rw [H1.out];rintro e w1 ⟨rfl,rfl⟩;go_wp2_with fail;refine (aU _ _ _ _).mono ?_;rw [H2.out];rintro e w1 ⟨rfl,rfl⟩;go_wp2_with fail;refine HC.out.mono ?_;rintro e w1 ⟨rfl,hd⟩;have hB:w1.heap[w.heap.size]?=some (.cells #[.int .i64 0,.int .i64 0] 43 (0,0)):=(hd.ext.block _ (by simp)).trans (heap_alloc_new _ _);have HB:=ae hB;have LT:=ae (lt_of_block hB);have X1:=ae (HX.out.trans hd.ext);clear hd hB
   go_wp2
   go_region_law (fail)
   have X2:=ae ((X1.out.trans (Ext.alloc w1 (.cells #[.int .i64 q1,.int .i64 q2] 43))).trans (Ext.drew _));have HV:=ae (av q1 q2 ((w1.alloc (.cells #[.int .i64 q1,.int .i64 q2] 43)).drew));go_wp2_with fail;refine HV.out.mono ?_;rw [hv];rintro e w2 ⟨rfl,hx⟩;have lt:=LT.out;have hB:w2.heap[w.heap.size]?=some (.cells #[.int .i64 0,.int .i64 0] 43 (0,0)):=(hx.block _ (by simp;omega)).trans ((bz w1 (.cells #[.int .i64 q1,.int .i64 q2] 43) _ lt).trans HB.out);have hC:w2.heap[w1.heap.size]?=some (.cells #[.int .i64 q1,.int .i64 q2] 43 (0,0)):=(hx.block _ (by simp)).trans (heap_alloc_new w1 (.cells #[.int .i64 q1,.int .i64 q2] 43));have b0:w2.cell? ⟨w.heap.size,0,none⟩=some (.int .i64 0):=by rw [cell_of_row _ _ _ _ _ _ hB];rfl
   have b1:w2.cell? ⟨w.heap.size,1,none⟩=some (.int .i64 0):=by rw [cell_of_row _ _ _ _ _ _ hB];rfl
   have c0:w2.cell? ⟨w1.heap.size,0,none⟩=some (.int .i64 q1):=by rw [cell_of_row _ _ _ _ _ _ hC];rfl
   have c1:w2.cell? ⟨w1.heap.size,1,none⟩=some (.int .i64 q2):=by rw [cell_of_row _ _ _ _ _ _ hC];rfl
   have fb:∀ o,w2.frozen? ⟨w.heap.size,o,none⟩=false:=fun o=>frozen_of_row _ _ _ _ _ hB
   have X3:=ae (X2.out.trans hx);clear hx hB hC lt
   go_wp2
   rw [HR.out]
  ·refine bodyPost_ret (v:=.tuple #[.agg #[.int .i64 0,.int .i64 0],.bool false]) (by simp [results,Tryz.results178,go_sem,b0,b1]) rfl ⟨by simp [cutR,hv],?_⟩;exact (X3.out.setCell (by simp) _).setCell (by simp) _
  ·refine bodyPost_ret (v:=.tuple #[.agg #[.int .i64 q1,.int .i64 q2],.bool true]) (by simp [results,Tryz.results178,go_sem,b0,b1]) rfl ⟨by simp [cutR,hv],?_⟩;exact (X3.out.setCell (by simp) _).setCell (by simp) _
 ·have HC:=ae (gU n d (w.alloc (.cells #[.int .i64 0,.int .i64 0] 43)) hn hd);obtain ⟨g,hg⟩:∃ g,g=gI n d:=⟨_,rfl⟩;rw [<-hg] at hg1 hg2 HC hq hq';have HG:=ae hg;have hg3:g<=1000000000000000000:=by obtain ⟨_,_⟩:=hd;omega
  have hgz:¬ g=0:=by omega
  obtain ⟨hn1,hn2⟩:=hn;obtain ⟨hd1,hd2⟩:=hd;obtain ⟨q1,hq1⟩:∃ q1,q1=n.tdiv g:=⟨_,rfl⟩;obtain ⟨q2,hq2⟩:∃ q2,q2=d.tdiv g:=⟨_,rfl⟩;have HR:=ae (show aD n d=cutR (q1,q2) by unfold aD;rw [if_neg (by simp [h0,H1.out,H2.out]),if_neg h3,<-HG.out,hq1,hq2]);have hm:d.tdiv g=d / g:=Int.tdiv_eq_ediv_of_nonneg (by omega);obtain ⟨e1,e2⟩:=bu hq;obtain ⟨e3,e4⟩:=bu hq';rw [<-hq1] at e1 e2;rw [<-hq2] at e3 e4;have hq1':=hq1.symm;have hq2':=hq2.symm;have hq3':d / g=q2:=by rw [<-hm,hq2]
  clear hq hq' hg hg2 hq1 hq2 hm;cases hv:valR (q1,q2)
  all_goals
   go_enter Tryz.func178,Tryz.ntmps178
   go_wp2_with fail;refine (aU _ _ _ _).mono ?_;rw [H1.out];rintro e w1 ⟨rfl,rfl⟩;go_wp2_with fail;refine (aU _ _ _ _).mono ?_;rw [H2.out];rintro e w1 ⟨rfl,rfl⟩;go_wp2_with fail;refine HC.out.mono ?_;rintro e w1 ⟨rfl,hd⟩;have hB:w1.heap[w.heap.size]?=some (.cells #[.int .i64 0,.int .i64 0] 43 (0,0)):=(hd.ext.block _ (by simp)).trans (heap_alloc_new _ _);have HB:=ae hB;have LT:=ae (lt_of_block hB);have X1:=ae (HX.out.trans hd.ext);clear hd hB
   go_wp2
   go_region_law (fail)
   have X2:=ae ((X1.out.trans (Ext.alloc w1 (.cells #[.int .i64 q1,.int .i64 q2] 43))).trans (Ext.drew _));have HV:=ae (av q1 q2 ((w1.alloc (.cells #[.int .i64 q1,.int .i64 q2] 43)).drew));go_wp2_with fail;refine HV.out.mono ?_;rw [hv];rintro e w2 ⟨rfl,hx⟩;have lt:=LT.out;have hB:w2.heap[w.heap.size]?=some (.cells #[.int .i64 0,.int .i64 0] 43 (0,0)):=(hx.block _ (by simp;omega)).trans ((bz w1 (.cells #[.int .i64 q1,.int .i64 q2] 43) _ lt).trans HB.out);have hC:w2.heap[w1.heap.size]?=some (.cells #[.int .i64 q1,.int .i64 q2] 43 (0,0)):=(hx.block _ (by simp)).trans (heap_alloc_new w1 (.cells #[.int .i64 q1,.int .i64 q2] 43));have b0:w2.cell? ⟨w.heap.size,0,none⟩=some (.int .i64 0):=by rw [cell_of_row _ _ _ _ _ _ hB];rfl
   have b1:w2.cell? ⟨w.heap.size,1,none⟩=some (.int .i64 0):=by rw [cell_of_row _ _ _ _ _ _ hB];rfl
   have c0:w2.cell? ⟨w1.heap.size,0,none⟩=some (.int .i64 q1):=by rw [cell_of_row _ _ _ _ _ _ hC];rfl
   have c1:w2.cell? ⟨w1.heap.size,1,none⟩=some (.int .i64 q2):=by rw [cell_of_row _ _ _ _ _ _ hC];rfl
   have fb:∀ o,w2.frozen? ⟨w.heap.size,o,none⟩=false:=fun o=>frozen_of_row _ _ _ _ _ hB
   have X3:=ae (X2.out.trans hx);clear hx hB hC lt
   go_wp2
   rw [HR.out]
  ·refine bodyPost_ret (v:=.tuple #[.agg #[.int .i64 0,.int .i64 0],.bool false]) (by simp [results,Tryz.results178,go_sem,b0,b1]) rfl ⟨by simp [cutR,hv],?_⟩;exact (X3.out.setCell (by simp) _).setCell (by simp) _
  ·refine bodyPost_ret (v:=.tuple #[.agg #[.int .i64 q1,.int .i64 q2],.bool true]) (by simp [results,Tryz.results178,go_sem,b0,b1]) rfl ⟨by simp [cutR,hv],?_⟩;exact (X3.out.setCell (by simp) _).setCell (by simp) _
set_option maxHeartbeats 4000000 in
theorem iH (n d:Int) (w:World) :
 Calls Tryz.prog 90 #[.int .i64 n,.int .i64 d] w fun e w'=>e=.returned (resR (aD n d))/\Ext w w':=by
 have HX:=ae (Ext.alloc w (.cells #[.int .i64 0,.int .i64 0] 43));by_cases h0:d=0
 ·have HR:=ae (show aD n d=((0,0),false) by unfold aD;rw [if_pos (.inl h0)]);subst h0;go_enter Tryz.func90,Tryz.ntmps90
  go_wp2
  rw [HR.out];refine bodyPost_ret (v:=.tuple #[.agg #[.int .i64 0,.int .i64 0],.bool false]) (by simp [results,Tryz.results90,go_sem]) rfl ⟨rfl,HX.out⟩
 have h0b:(d == 0)=false:=by simpa using h0
 cases h1:inB n (-1000000000000000000) 1000000000000000000
 ·have H1:=ae h1;clear h1;have HR:=ae (show aD n d=((0,0),false) by unfold aD;rw [if_pos (.inr (.inl H1.out))]);go_enter Tryz.func90,Tryz.ntmps90
  go_wp2_with fail;refine (bv _ _ _ _).mono ?_;rw [H1.out];rintro e w1 ⟨rfl,rfl⟩
  go_wp2
  rw [HR.out];refine bodyPost_ret (v:=.tuple #[.agg #[.int .i64 0,.int .i64 0],.bool false]) (by simp [results,Tryz.results90,go_sem]) rfl ⟨rfl,HX.out⟩
 have H1:=ae h1;have hn:in18 n:=by simp only [inB,Bool.and_eq_true,decide_eq_true_eq] at h1;exact ⟨by omega,by omega⟩
 clear h1;cases h2:inB d (-1000000000000000000) 1000000000000000000
 ·have H2:=ae h2;clear h2;have HR:=ae (show aD n d=((0,0),false) by unfold aD;rw [if_pos (.inr (.inr H2.out))]);go_enter Tryz.func90,Tryz.ntmps90
  go_wp2_with fail;refine (bv _ _ _ _).mono ?_;rw [H1.out];rintro e w1 ⟨rfl,rfl⟩;go_wp2_with fail;refine (bv _ _ _ _).mono ?_;rw [H2.out];rintro e w1 ⟨rfl,rfl⟩
  go_wp2
  rw [HR.out];refine bodyPost_ret (v:=.tuple #[.agg #[.int .i64 0,.int .i64 0],.bool false]) (by simp [results,Tryz.results90,go_sem]) rfl ⟨rfl,HX.out⟩
 have H2:=ae h2;have hd:in18 d:=by simp only [inB,Bool.and_eq_true,decide_eq_true_eq] at h2;exact ⟨by omega,by omega⟩
 clear h2;have hg1:=ip n h0;have hg2:=gI_le n h0;have hq:=jU n hg1 hn;have hq':=jU d hg1 hd;by_cases h3:d<0
 ·have HC:=ae (kE (-n) (-d) (w.alloc (.cells #[.int .i64 0,.int .i64 0] 43)) (eR hn) (eR hd));rw [fF,iC] at HC;obtain ⟨g,hg⟩:∃ g,g=gI n d:=⟨_,rfl⟩;rw [<-hg] at hg1 hg2 HC hq hq';have HG:=ae hg;have hg3:g<=1000000000000000000:=by obtain ⟨_,_⟩:=hd;omega
  have hgz:¬ g=0:=by omega
  have hgn:(-g == 0)=false:=by simp;omega
  obtain ⟨hn1,hn2⟩:=hn;obtain ⟨hd1,hd2⟩:=hd;obtain ⟨q1,hq1⟩:∃ q1,q1=-(n.tdiv g):=⟨_,rfl⟩;obtain ⟨q2,hq2⟩:∃ q2,q2=-(d.tdiv g):=⟨_,rfl⟩;have HR:=ae (show aD n d=cutR (q1,q2) by unfold aD;rw [if_neg (by simp [h0,H1.out,H2.out]),if_pos h3,<-HG.out,Int.tdiv_neg,Int.tdiv_neg,hq1,hq2]);obtain ⟨e1,e2⟩:=bu (eR hq);obtain ⟨e3,e4⟩:=bu (eR hq');rw [<-hq1] at e1 e2;rw [<-hq2] at e3 e4;have m1:(-n).tdiv g=q1:=by rw [Int.neg_tdiv,hq1]
  have m2:(-d).tdiv g=q2:=by rw [Int.neg_tdiv,hq2]
  have m3:n.tdiv (-g)=q1:=by rw [Int.tdiv_neg,hq1]
  have m4:d.tdiv (-g)=q2:=by rw [Int.tdiv_neg,hq2]
  have hq1':=hq1.symm;have hq2':=hq2.symm;clear hq hq' hg hg2 hq1 hq2;cases hv:valR (q1,q2)
  all_goals
   go_enter Tryz.func90,Tryz.ntmps90
   go_wp2_with fail;refine (bv _ _ _ _).mono ?_;rw [H1.out];rintro e w1 ⟨rfl,rfl⟩;go_wp2_with fail;refine (bv _ _ _ _).mono ?_;rw [H2.out];rintro e w1 ⟨rfl,rfl⟩;go_wp2_with fail;refine HC.out.mono ?_;rintro e w1 ⟨rfl,hd⟩;have hB:w1.heap[w.heap.size]?=some (.cells #[.int .i64 0,.int .i64 0] 43 (0,0)):=(hd.ext.block _ (by simp)).trans (heap_alloc_new _ _);have HB:=ae hB;have LT:=ae (lt_of_block hB);have X1:=ae (HX.out.trans hd.ext);clear hd hB
   go_wp2
   go_region_law (fail)
   have X2:=ae ((X1.out.trans (Ext.alloc w1 (.cells #[.int .i64 q1,.int .i64 q2] 43))).trans (Ext.drew _));have HV:=ae (az q1 q2 ((w1.alloc (.cells #[.int .i64 q1,.int .i64 q2] 43)).drew));go_wp2_with fail;refine HV.out.mono ?_;rw [hv];rintro e w2 ⟨rfl,hx⟩;have lt:=LT.out;have hB:w2.heap[w.heap.size]?=some (.cells #[.int .i64 0,.int .i64 0] 43 (0,0)):=(hx.block _ (by simp;omega)).trans ((bz w1 (.cells #[.int .i64 q1,.int .i64 q2] 43) _ lt).trans HB.out);have hC:w2.heap[w1.heap.size]?=some (.cells #[.int .i64 q1,.int .i64 q2] 43 (0,0)):=(hx.block _ (by simp)).trans (heap_alloc_new w1 (.cells #[.int .i64 q1,.int .i64 q2] 43));have b0:w2.cell? ⟨w.heap.size,0,none⟩=some (.int .i64 0):=by rw [cell_of_row _ _ _ _ _ _ hB];rfl
   have b1:w2.cell? ⟨w.heap.size,1,none⟩=some (.int .i64 0):=by rw [cell_of_row _ _ _ _ _ _ hB];rfl
   have c0:w2.cell? ⟨w1.heap.size,0,none⟩=some (.int .i64 q1):=by rw [cell_of_row _ _ _ _ _ _ hC];rfl
   have c1:w2.cell? ⟨w1.heap.size,1,none⟩=some (.int .i64 q2):=by rw [cell_of_row _ _ _ _ _ _ hC];rfl
   have fb:∀ o,w2.frozen? ⟨w.heap.size,o,none⟩=false:=fun o=>frozen_of_row _ _ _ _ _ hB
   have X3:=ae (X2.out.trans hx);clear hx hB hC lt
   go_wp2
   rw [HR.out]
  ·refine bodyPost_ret (v:=.tuple #[.agg #[.int .i64 0,.int .i64 0],.bool false]) (by simp [results,Tryz.results90,go_sem,b0,b1]) rfl ⟨by simp [cutR,hv],?_⟩;exact (X3.out.setCell (by simp) _).setCell (by simp) _
  ·refine bodyPost_ret (v:=.tuple #[.agg #[.int .i64 q1,.int .i64 q2],.bool true]) (by simp [results,Tryz.results90,go_sem,b0,b1]) rfl ⟨by simp [cutR,hv],?_⟩;exact (X3.out.setCell (by simp) _).setCell (by simp) _
 ·have HC:=ae (kE n d (w.alloc (.cells #[.int .i64 0,.int .i64 0] 43)) hn hd);obtain ⟨g,hg⟩:∃ g,g=gI n d:=⟨_,rfl⟩;rw [<-hg] at hg1 hg2 HC hq hq';have HG:=ae hg;have hg3:g<=1000000000000000000:=by obtain ⟨_,_⟩:=hd;omega
  have hgz:¬ g=0:=by omega
  obtain ⟨hn1,hn2⟩:=hn;obtain ⟨hd1,hd2⟩:=hd;obtain ⟨q1,hq1⟩:∃ q1,q1=n.tdiv g:=⟨_,rfl⟩;obtain ⟨q2,hq2⟩:∃ q2,q2=d.tdiv g:=⟨_,rfl⟩;have HR:=ae (show aD n d=cutR (q1,q2) by unfold aD;rw [if_neg (by simp [h0,H1.out,H2.out]),if_neg h3,<-HG.out,hq1,hq2]);have hm:d.tdiv g=d / g:=Int.tdiv_eq_ediv_of_nonneg (by omega);obtain ⟨e1,e2⟩:=bu hq;obtain ⟨e3,e4⟩:=bu hq';rw [<-hq1] at e1 e2;rw [<-hq2] at e3 e4;have hq1':=hq1.symm;have hq2':=hq2.symm;have hq3':d / g=q2:=by rw [<-hm,hq2]
  clear hq hq' hg hg2 hq1 hq2 hm;cases hv:valR (q1,q2)
  all_goals
   go_enter Tryz.func90,Tryz.ntmps90
   go_wp2_with fail;refine (bv _ _ _ _).mono ?_;rw [H1.out];rintro e w1 ⟨rfl,rfl⟩;go_wp2_with fail;refine (bv _ _ _ _).mono ?_;rw [H2.out];rintro e w1 ⟨rfl,rfl⟩;go_wp2_with fail;refine HC.out.mono ?_;rintro e w1 ⟨rfl,hd⟩;have hB:w1.heap[w.heap.size]?=some (.cells #[.int .i64 0,.int .i64 0] 43 (0,0)):=(hd.ext.block _ (by simp)).trans (heap_alloc_new _ _);have HB:=ae hB;have LT:=ae (lt_of_block hB);have X1:=ae (HX.out.trans hd.ext);clear hd hB
   go_wp2
   go_region_law (fail)
   have X2:=ae ((X1.out.trans (Ext.alloc w1 (.cells #[.int .i64 q1,.int .i64 q2] 43))).trans (Ext.drew _));have HV:=ae (az q1 q2 ((w1.alloc (.cells #[.int .i64 q1,.int .i64 q2] 43)).drew));go_wp2_with fail;refine HV.out.mono ?_;rw [hv];rintro e w2 ⟨rfl,hx⟩;have lt:=LT.out;have hB:w2.heap[w.heap.size]?=some (.cells #[.int .i64 0,.int .i64 0] 43 (0,0)):=(hx.block _ (by simp;omega)).trans ((bz w1 (.cells #[.int .i64 q1,.int .i64 q2] 43) _ lt).trans HB.out);have hC:w2.heap[w1.heap.size]?=some (.cells #[.int .i64 q1,.int .i64 q2] 43 (0,0)):=(hx.block _ (by simp)).trans (heap_alloc_new w1 (.cells #[.int .i64 q1,.int .i64 q2] 43));have b0:w2.cell? ⟨w.heap.size,0,none⟩=some (.int .i64 0):=by rw [cell_of_row _ _ _ _ _ _ hB];rfl
   have b1:w2.cell? ⟨w.heap.size,1,none⟩=some (.int .i64 0):=by rw [cell_of_row _ _ _ _ _ _ hB];rfl
   have c0:w2.cell? ⟨w1.heap.size,0,none⟩=some (.int .i64 q1):=by rw [cell_of_row _ _ _ _ _ _ hC];rfl
   have c1:w2.cell? ⟨w1.heap.size,1,none⟩=some (.int .i64 q2):=by rw [cell_of_row _ _ _ _ _ _ hC];rfl
   have fb:∀ o,w2.frozen? ⟨w.heap.size,o,none⟩=false:=fun o=>frozen_of_row _ _ _ _ _ hB
   have X3:=ae (X2.out.trans hx);clear hx hB hC lt
   go_wp2
   rw [HR.out]
  ·refine bodyPost_ret (v:=.tuple #[.agg #[.int .i64 0,.int .i64 0],.bool false]) (by simp [results,Tryz.results90,go_sem,b0,b1]) rfl ⟨by simp [cutR,hv],?_⟩;exact (X3.out.setCell (by simp) _).setCell (by simp) _
  ·refine bodyPost_ret (v:=.tuple #[.agg #[.int .i64 q1,.int .i64 q2],.bool true]) (by simp [results,Tryz.results90,go_sem,b0,b1]) rfl ⟨by simp [cutR,hv],?_⟩;exact (X3.out.setCell (by simp) _).setCell (by simp) _
end Go.Proofs.YthjjfkeacobikaaGreat
