import Derived.Test.YthjjfkeacobikaaGreatLeAllG5
import Derived.Test.YthjjfkeacobikaaGreatLeAllG10
import Derived.Test.YthjjfkeacobikaaGreatLeAllG13
import Derived.Test.YthjjfkeacobikaaGreatLeAllG1
import Derived.Test.YthjjfkeacobikaaGreatLeAllG6
set_option linter.unusedVariables false
set_option linter.unusedSimpArgs false
namespace Go.Proofs.YthjjfkeacobikaaGreat
open Go.RowKit
set_option maxHeartbeats 2000000 in
theorem el (x y:Int) (w:World) (h0:-9223372036854775807<=x) (h1:x<=9223372036854775807) :
 Calls Tryz.prog 137 #[ratV x y] w fun e w'=>e=.returned (ratV (-x) y)/\Ext w w':=by
 go_enter Tryz.func137,Tryz.ntmps137
 go_wp2_with fail;refine bodyPost_ret (v:=ratV (-x) y) (by simp [results,Tryz.results137,go_sem]) rfl ⟨rfl,?_⟩;exact (Ext.alloc _ _).trans (Ext.alloc _ _)
set_option maxHeartbeats 2000000 in
theorem eg (x y:Int) (w:World) (h0:-9223372036854775807<=x) (h1:x<=9223372036854775807) :
 Calls Tryz.prog 88 #[ratV x y] w fun e w'=>e=.returned (ratV (-x) y)/\Ext w w':=by
 go_enter Tryz.func88,Tryz.ntmps88
 go_wp2_with fail;refine bodyPost_ret (v:=ratV (-x) y) (by simp [results,Tryz.results88,go_sem]) rfl ⟨rfl,?_⟩;exact (Ext.alloc _ _).trans (Ext.alloc _ _)
set_option maxRecDepth 100000
def AsksR (P:Program) (w:World) (fid:FuncId) (ca:Array Value) (p:Int × Int->Bool):Prop :=
 ∀ x y (w1:World),Ext w w1->Calls P fid (#[ratV x y]++ca) w1 fun e w2=>e=.returned (.bool (p (x,y)))/\Ext w1 w2
set_option maxHeartbeats 1000000 in
theorem mv {w:World} {a:Option Addr} {n cap:Nat} {l:List (Int × Int)} {fid:FuncId} {ca:Array Value} {p:Int × Int->Bool} (h:Rats w a n cap l) (hg:IsGo Tryz.prog fid) (hf:AsksR Tryz.prog w fid ca p) :
 Calls Tryz.prog 284 #[.slice a n cap,.func (.func fid) #[] ca] w fun e w'=>e=.returned (.int .i64 (bV p l))/\Ext w w':=by
 have hn:=h.hcap;have hm:=h.hmax;have HL:=ae h.hlen;have HI:=ae h;have HF0:=ae hf;clear h hf;have hcf:∀ (args:Array Value) (w:World),(callFunc fid args).run Tryz.prog w=.ok (.enter fid args) w:=hg;go_enter Tryz.func284,Tryz.ntmps284
 go_wp2_with fail
 go_loopg [8] n (fun gk ii wr=>∃ k:Nat,Hid (gk+k=n)/\ii=.int .i64 (k:Int)/\Hid ((l.take k).all (fun x=>!p x)=true)/\Hid (Ext w wr))
 case atStart=>exact ⟨0,ae (by omega),rfl,ae rfl,ae (Ext.refl _)⟩
 case round =>
  obtain ⟨g1,h_g1⟩:∃ x,x=gk:=⟨_,rfl⟩;subst h_g1;obtain ⟨wr1,h_wr1⟩:∃ x,x=wr:=⟨_,rfl⟩;subst h_wr1;obtain ⟨k,HK,rfl,HA,HX⟩:=hrel;by_cases hlt:k<n
  ·obtain ⟨b,off,x,y,rfl,hxy,hc0,hc1⟩:=(HI.out.ext HX.out).at hlt;have HF:=ae (HF0.out x y wr1 HX.out);cases hb:p (x,y)
   all_goals
    rw [hb] at HF
   ·have HT:=ae (show (l.take (k+1)).all (fun x=>!p x)=true by
     rw [List.take_succ_eq_append_getElem (by rw [HL.out];exact hlt),List.all_append,HA.out];have:l[k]'(by rw [HL.out];exact hlt)=(x,y):=by rw [List.getElem?_eq_getElem (by rw [HL.out];exact hlt)] at hxy;simpa using hxy
     rw [this];simp [hb])
    clear hxy hb;go_wp2_with fail;refine HF.out.mono ?_;rintro e w2 ⟨rfl,hx2⟩;go_wp2_with fail
    go_roundg (g1-1)
    case measure=>have:=HK.out;omega
    case rel=>exact ⟨k+1,ae (by have:=HK.out;omega),by go_num,HT,ae (HX.out.trans hx2)⟩
   ·have HB:=ae (show bV p l=k from eJ (d:=(0,0)) (by rw [HL.out];exact hlt) HA.out (by rw [hxy];exact hb));clear hxy hb;go_wp2_with fail;refine HF.out.mono ?_;rintro e w2 ⟨rfl,hx2⟩;go_wp2_with fail;go_ret;exact ⟨aQ HB.out.symm,HX.out.trans hx2⟩
  ·have HT:=ae (show bV p l=-1 by
    have h2:=HA.out;rw [List.take_of_length_le (by rw [HL.out];have:=HK.out;omega)] at h2
    exact dL h2)
   go_wp2_with fail;go_ret;exact ⟨aQ HT.out.symm,HX.out⟩
set_option maxHeartbeats 400000 in
theorem gu {w:World} {a:Option Addr} {n cap:Nat} {l:List (Int × Int)} {fid:FuncId} {ca:Array Value} {p:Int × Int->Bool} (h:Rats w a n cap l) (hg:IsGo Tryz.prog fid) (hf:AsksR Tryz.prog w fid ca p) :
 Calls Tryz.prog 275 #[.slice a n cap,.func (.func fid) #[] ca] w fun e w'=>e=.returned (.bool (l.any p))/\Ext w w':=by
 have HC:=ae (mv h hg hf);clear h hf;go_enter Tryz.func275,Tryz.ntmps275
 go_wp2_with fail;refine HC.out.mono ?_;rintro e w2 ⟨rfl,hx2⟩
 go_wp2
 all_goals go_ret;refine ⟨ag ?_,hx2⟩;rw [<-gJ]
theorem pN (x y:Int) (w:World):Calls Tryz.prog 276 #[ratV x y] w fun e w'=>e=.returned (.bool (!valR (x,y)))/\Ext w w':=by
 have HX:=ae (Ext.alloc w (.cells #[.int .i64 x,.int .i64 y] 43));go_enter Tryz.func276,Tryz.ntmps276
 go_wp2_with fail;refine (ar x y _).mono ?_;rintro e w1 ⟨rfl,hx⟩;have X1:=ae (HX.out.trans hx);clear hx;go_wp2_with fail;go_ret;exact ⟨rfl,X1.out⟩
theorem om:IsGo Tryz.prog 276:=isGo Tryz.func276 (by kernel_rfl) (by kernel_rfl)
theorem lm {w:World} {a:Option Addr} {n cap:Nat} {l:List (Int × Int)} (h:Rats w a n cap l) :
 Calls Tryz.prog 246 #[.slice a n cap] w fun e w'=>e=.returned (.bool (allV l))/\Ext w w':=by
 have HC:=ae (gu h om (ca:=#[]) (p:=fun r=>!valR r) (fun x y w1 _=>pN x y w1));have HE:=ae (show (!l.any (fun r=>!valR r))=allV l by unfold allV;rw [List.not_any_eq_all_not];simp);clear h;go_enter Tryz.func246,Tryz.ntmps246
 go_wp2_with fail;refine HC.out.mono ?_;rintro e w1 ⟨rfl,hx⟩;have X1:=ae hx;clear hx;go_wp2_with fail;go_ret;exact ⟨ag HE.out,X1.out⟩
theorem mo (x y:Int) (w:World):Calls Tryz.prog 280 #[ratV x y] w fun e w'=>e=.returned (.bool (!(valR (x,y)&&decide (0<=x))))/\Ext w w':=by
 have HX:=ae (Ext.alloc w (.cells #[.int .i64 x,.int .i64 y] 43));have HV:=ae (fun w=>ar x y w);cases hv:valR (x,y)
 ·rw [hv] at HV;clear hv;go_enter Tryz.func280,Tryz.ntmps280
  go_wp2_with fail;refine (HV.out _).mono ?_;rintro e w1 ⟨rfl,hx⟩;have X1:=ae (HX.out.trans hx);clear hx;go_wp2_with fail;go_ret;exact ⟨rfl,X1.out⟩
 ·rw [hv] at HV;clear hv;cases hx0:decide (0<=x)
  ·have hlt:decide (x<0)=true:=by simp at hx0 ⊢;omega
   clear hx0;go_enter Tryz.func280,Tryz.ntmps280
   go_wp2_with fail;refine (HV.out _).mono ?_;rintro e w1 ⟨rfl,hx⟩;have hc:w1.cell? ⟨w.heap.size,0,none⟩=some (.int .i64 x):=hx.cellSome (by simp);have X1:=ae (HX.out.trans hx);clear hx;go_wp2_with fail;go_ret;exact ⟨rfl,X1.out⟩
  ·have hlt:decide (x<0)=false:=by simp at hx0 ⊢;omega
   clear hx0;go_enter Tryz.func280,Tryz.ntmps280
   go_wp2_with fail;refine (HV.out _).mono ?_;rintro e w1 ⟨rfl,hx⟩;have hc:w1.cell? ⟨w.heap.size,0,none⟩=some (.int .i64 x):=hx.cellSome (by simp);have X1:=ae (HX.out.trans hx);clear hx;go_wp2_with fail;go_ret;exact ⟨rfl,X1.out⟩
theorem lk:IsGo Tryz.prog 280:=isGo Tryz.func280 (by kernel_rfl) (by kernel_rfl)
theorem jg {w:World} {a:Option Addr} {n cap:Nat} {l:List (Int × Int)} (h:Rats w a n cap l) (m:Nat) :
 Calls Tryz.prog 256 #[.slice a n cap,.int .i64 (m:Int)] w fun e w'=>e=.returned (.bool (decide (l.length=m)&&posV l))/\Ext w w':=by
 have hcap:=h.hcap;have hmax:=h.hmax;have HL:=ae h.hlen;have HC:=ae (gu h lk (ca:=#[]) (p:=fun r=>!(valR r&&decide (0<=r.1))) (fun x y w1 _=>mo x y w1));have HE:=ae (show (!l.any (fun r=>!(valR r&&decide (0<=r.1))))=posV l by unfold posV;rw [List.not_any_eq_all_not];simp);clear h;cases hn:((n:Int) == (m:Int))
 ·have HN:=ae (show decide (l.length=m)=false by rw [HL.out];simp at hn ⊢;omega);go_enter Tryz.func256,Tryz.ntmps256
  go_wp2_with fail;go_ret;exact ⟨ag (by rw [HN.out];rfl),Ext.refl _⟩
 ·have HN:=ae (show decide (l.length=m)=true by rw [HL.out];simp at hn ⊢;omega);go_enter Tryz.func256,Tryz.ntmps256
  go_wp2_with fail;refine HC.out.mono ?_;rintro e w1 ⟨rfl,hx⟩;have X1:=ae hx;clear hx;go_wp2_with fail;go_ret;exact ⟨ag (by rw [HN.out,<-HE.out];simp),X1.out⟩
structure fU (w:World) (a:Option Addr) (n cap:Nat) (L:List (List (Int × Int))):Prop where
 hlen:L.length=n
 hcap:n<=cap
 hmax:cap<=9223372036854775807
 cell:∀ k,k<n->∃ b off,a=some ⟨b,off,none⟩/\∀ k,k<n->∃ a' n' c',w.cell? ⟨b,off+k,none⟩=some (.slice a' n' c')/\Rats w a' n' c' (L[k]?.getD [])
theorem fU.ext {w w':World} {a:Option Addr} {n cap:Nat} {L:List (List (Int × Int))} (h:fU w a n cap L) (hx:Ext w w'):fU w' a n cap L :=
 ⟨h.hlen,h.hcap,h.hmax,fun k hk=>let ⟨b,off,e,hc⟩:=h.cell k hk;⟨b,off,e,fun k hk=>let ⟨a',n',c',h1,h2⟩:=hc k hk;⟨a',n',c',hx.cellSome h1,h2.ext hx⟩⟩⟩
theorem fU.at {w:World} {a:Option Addr} {n cap:Nat} {L:List (List (Int × Int))} (h:fU w a n cap L) {k:Nat} (hk:k<n) :
 ∃ b off a' n' c',a=some ⟨b,off,none⟩/\w.cell? ⟨b,off+k,none⟩=some (.slice a' n' c')/\Rats w a' n' c' (L[k]?.getD []) :=
 let ⟨b,off,e,hc⟩:=h.cell k hk;let ⟨a',n',c',h1,h2⟩:=hc k hk;⟨b,off,a',n',c',e,h1,h2⟩
def OwnW (w:World) (base:Nat) (v:Value) (vs:List Value):Prop:=w.ownsRow base 36 1 v vs.length vs
theorem OwnW.form {w:World} {base:Nat} {v:Value} {vs:List Value} (h:OwnW w base v vs):∃ a cap,v=.slice a vs.length cap/\vs.length<=cap/\cap<=9223372036854775807:=by
 rcases h.2 with ⟨rfl,h0⟩|⟨g,cap,cur,rfl,_,_,h1,h2,_⟩
 ·exact ⟨none,0,by rw [h0],by omega,by omega⟩
 ·exact ⟨_,cap,rfl,h1,by simpa [maxLen] using h2⟩
theorem OwnW.var {w:World} {base:Nat} {v:Value} {vs:List Value} (h:OwnW w base v vs):∃ a n cap,v=.slice a n cap/\Hid (vs.length=n):=by
 obtain ⟨a,cap,e,_⟩:=h.form;exact ⟨a,_,cap,e,rfl⟩
theorem OwnW.cell {w:World} {base:Nat} {a:Option Addr} {n cap:Nat} {vs:List Value} (h:OwnW w base (.slice a n cap) vs) {k:Nat} (hk:k<n):∃ g,a=some ⟨g,0,none⟩/\base<=g/\∀ k,k<n->w.cell? ⟨g,k,none⟩=vs[k]?:=by
 rcases h.2 with ⟨he,h0⟩|⟨g,cap',cur,he,hb,hg,h1,h2,hs,ht⟩
 ·simp only [Value.slice.injEq] at he;omega
 ·simp only [Value.slice.injEq] at he;obtain ⟨rfl,rfl,rfl⟩:=he;refine ⟨g,rfl,hb,fun k hk=>?_⟩;rw [cell_of_row w g k cur _ (0,0) hg];have:(cur.toList.take (vs.length*1))[k]?=vs[k]?:=by rw [ht]
  rw [List.getElem?_take,if_pos (by omega)] at this
  simpa using this
theorem OwnW.len {w:World} {base:Nat} {a:Option Addr} {n cap:Nat} {vs:List Value} (h:OwnW w base (.slice a n cap) vs):vs.length=n:=by
 obtain ⟨a',cap',he,_⟩:=h.form;simp only [Value.slice.injEq] at he;exact he.2.1.symm
theorem OwnW.lt {w:World} {base:Nat} {v:Value} {vs:List Value} (h:OwnW w base v vs):∀ k,v.ownBlock=some k->base<=k/\k<w.heap.size:=World.ownsRow.lt h
theorem OwnW.keep {w w':World} {base:Nat} {v:Value} {vs:List Value} (h:OwnW w base v vs) (hk:∀ k,v.ownBlock=some k->w'.heap[k]?=w.heap[k]?):OwnW w' base v vs:=by
 refine ⟨h.1,?_⟩
 rcases h.2 with hn|⟨g,cap,cur,rfl,hb,hgg,rest⟩
 ·exact .inl hn
 ·exact .inr ⟨g,cap,cur,rfl,hb,(hk g rfl).trans hgg,rest⟩
theorem OwnW.ext {w w':World} {base:Nat} {v:Value} {vs:List Value} (h:OwnW w base v vs) (hx:Ext w w'):OwnW w' base v vs:=h.keep fun k hk=>hx.block k (h.lt k hk).2
theorem OwnR.apart {w:World} {base base':Nat} {v v':Value} {l:List (Int × Int)} {vs:List Value} (h:OwnR w base v l) (h':OwnW w base' v' vs):∀ k,v.ownBlock=some k->v'.ownBlock ≠ some k:=by
 intro k hk hk'
 rcases h.2 with ⟨rfl,_⟩|⟨g,cap,cur,rfl,_,hg,_⟩
 ·simp [Value.ownBlock] at hk
 ·rcases h'.2 with ⟨rfl,_⟩|⟨g',cap',cur',rfl,_,hg',_⟩
  ·simp [Value.ownBlock] at hk'
  ·simp only [Value.ownBlock,Option.some.injEq] at hk hk';subst hk hk';rw [hg] at hg';simp at hg'
theorem Tryz.infoRats:(Tryz.prog.info? 36).map (fun i=>(i.zero,i.size,i.bytes))=some (some (.slice none 0 0),1,24):=by kernel_rfl
section
variable {P:Program} {w:World} {ops:Array Oper} {rest:List Oper} {o:Oper} {a:Act} {Q:Exit->Act->World->Prop}
theorem ez {K:Act->World->Prop} (s x:Operand) (ho:o.op=.call { callee:=.builtin .append,args:=#[s,x],argTypes:=#[81,81] })
 (base:Nat) (v:Value) (vs:List Value) (hs:a.eval s=v) (hown:OwnW w base v vs) (ad:Addr) (u:Value) (c:Nat) (hx:a.eval x=.slice (some ad) 1 c)
 (hcell:w.cell? ad=some u) (h1c:u.oneCell'=true) (hb:vs.length<=1099511627775) (hbase:base<=w.heap.size)
 (h:∀ v' w',OwnW w' base v' (vs++[u])->w.grownBy w' v.ownBlock->Near w v v'->K (a.put o.dst v') w'):o.wp Tryz.prog a w K Q:=by
 obtain ⟨i,hi,hz0,hz1,hz2⟩:=info_parts Tryz.infoRats;refine em w s x 81 ho base 36 i (.slice none 0 0) 1 24 Tryz.underlying81 hi hz0 hz1 hz2 rfl (by decide) v vs.length vs hs hown ad 1 c [u] hx rfl ?_ ?_ (by simp [maxLen];omega) (by omega) hbase ?_
 ·intro j u' hu
  match j with
  | 0=>simpa [Addr.add] using hu ▸ hcell
  | j+1=>simp at hu
 ·intro u' hu;simp only [List.mem_singleton] at hu;rw [hu];exact h1c
 ·intro v' w' h1 h2 h3;refine h v' w' ?_ h2 h3;unfold OwnW;rw [List.length_append];exact h1
end
structure dh (w:World) (base:Nat) (vs:List Value) (L:List (List (Int × Int))):Prop where
 len:vs.length=L.length
 row:∀ i,i<L.length->OwnR w base (vs[i]?.getD undef) (L[i]?.getD [])
 apart:∀ i j k,i<j->j<L.length->(vs[i]?.getD undef).ownBlock=some k->(vs[j]?.getD undef).ownBlock ≠ some k
theorem dh.keep {w w':World} {base:Nat} {vs:List Value} {L:List (List (Int × Int))} (h:dh w base vs L) (hk:∀ i k,i<L.length->(vs[i]?.getD undef).ownBlock=some k->w'.heap[k]?=w.heap[k]?):dh w' base vs L :=
 ⟨h.len,fun i hi=>(h.row i hi).keep fun k hk'=>hk i k hi hk',h.apart⟩
theorem dh.ext {w w':World} {base:Nat} {vs:List Value} {L:List (List (Int × Int))} (h:dh w base vs L) (hx:Ext w w'):dh w' base vs L :=
 h.keep fun i k hi hk=>hx.block k ((h.row i hi).lt k hk).2
theorem dh.nil (w:World) (base:Nat):dh w base [] []:=⟨rfl,fun i hi=>absurd hi (by simp),fun i j k _ hj=>absurd hj (by simp)⟩
theorem dh.snoc {w w':World} {base:Nat} {vs:List Value} {L:List (List (Int × Int))} (h:dh w base vs L) (hx:Ext w w') {v:Value} {l:List (Int × Int)} (ho:OwnR w' w.heap.size v l) (hb:base<=w.heap.size):dh w' base (vs++[v]) (L++[l]):=by
 have h':=h.ext hx;refine ⟨by simp [h.len],fun i hi=>?_,fun i j k hij hj hk=>?_⟩
 ·by_cases hl:i<L.length
  ·rw [List.getElem?_append_left (by rw [h.len];exact hl),List.getElem?_append_left hl];exact h'.row i hl
  ·have:i=L.length:=by simp at hi;omega
   subst this;rw [<-h.len];simp only [List.getElem?_concat_length,Option.getD_some];rw [h.len];simp only [List.getElem?_concat_length,Option.getD_some];exact ho.mono hb
 ·by_cases hl:j<L.length
  ·rw [List.getElem?_append_left (by rw [h.len];omega)] at hk;rw [List.getElem?_append_left (by rw [h.len];exact hl)];exact h.apart i j k hij hl hk
  ·have:j=L.length:=by simp at hj;omega
   subst this;rw [List.getElem?_append_left (by rw [h.len];omega)] at hk;rw [<-h.len];simp only [List.getElem?_concat_length,Option.getD_some];intro hk';have h1:=((h.row i (by omega)).lt k hk).2;have h2:=(ho.lt k hk').1;omega
def kP (w:World) (base:Nat) (v:Value) (L:List (List (Int × Int))):Prop:=∃ vs,OwnW w base v vs/\dh w base vs L
theorem kP.form {w:World} {base:Nat} {v:Value} {L:List (List (Int × Int))} (h:kP w base v L):∃ a cap,v=.slice a L.length cap/\L.length<=cap/\cap<=9223372036854775807:=by
 obtain ⟨vs,h1,h2⟩:=h;have:=h1.form
 rwa [h2.len] at this
theorem kP.ratss {w:World} {base:Nat} {a:Option Addr} {n cap:Nat} {L:List (List (Int × Int))} (h:kP w base (.slice a n cap) L):fU w a n cap L:=by
 obtain ⟨a',cap',he,h1,h2⟩:=h.form;simp only [Value.slice.injEq] at he;obtain ⟨rfl,rfl,rfl⟩:=he;obtain ⟨vs,h3,h4⟩:=h;refine ⟨rfl,h1,h2,fun k hk=>?_⟩;obtain ⟨g,rfl,_,hc⟩:=h3.cell hk;refine ⟨g,0,rfl,fun k hk=>?_⟩;have hv:k<vs.length:=by rw [h4.len];exact hk
 obtain ⟨a',cap',hf,_⟩:=(h4.row k hk).form;have ho:=h4.row k hk;rw [hf] at ho;refine ⟨a',_,cap',?_,ho.rats⟩;rw [Nat.zero_add,hc k hk,<-hf];simp [hv]
structure RMat (w:World) (base:Nat) (a:Option Addr) (N cap:Nat) (vs:List Value) (M:List (List (Int × Int))):Prop where
 own:OwnW w base (.slice a N cap) vs
 rows:dh w base vs M
theorem RMat.vlen {w:World} {base:Nat} {a:Option Addr} {N cap:Nat} {vs:List Value} {M:List (List (Int × Int))} (h:RMat w base a N cap vs M):vs.length=N:=h.own.len
theorem RMat.len {w:World} {base:Nat} {a:Option Addr} {N cap:Nat} {vs:List Value} {M:List (List (Int × Int))} (h:RMat w base a N cap vs M):M.length=N:=by rw [<-h.rows.len];exact h.own.len
theorem RMat.keep {w w':World} {base:Nat} {a:Option Addr} {N cap:Nat} {vs:List Value} {M:List (List (Int × Int))} (h:RMat w base a N cap vs M) (h0:∀ k,(Value.slice a N cap).ownBlock=some k->w'.heap[k]?=w.heap[k]?)
 (h1:∀ i k,i<N->(vs[i]?.getD undef).ownBlock=some k->w'.heap[k]?=w.heap[k]?):RMat w' base a N cap vs M :=
 ⟨h.own.keep h0,h.rows.keep fun i k hi hk=>h1 i k (by rw [<-h.len];exact hi) hk⟩
theorem RMat.ext {w w':World} {base:Nat} {a:Option Addr} {N cap:Nat} {vs:List Value} {M:List (List (Int × Int))} (h:RMat w base a N cap vs M) (hx:Ext w w'):RMat w' base a N cap vs M:=⟨h.own.ext hx,h.rows.ext hx⟩
theorem RMat.outer {w:World} {base:Nat} {a:Option Addr} {N cap:Nat} {vs:List Value} {M:List (List (Int × Int))} (h:RMat w base a N cap vs M) (hN:0<N):∃ G,a=some ⟨G,0,none⟩/\base<=G/\G<w.heap.size/\∀ j,w.frozen? ⟨G,j,none⟩=false:=by
 rcases h.own.2 with ⟨he,h0⟩|⟨g,cap',cur,he,hb,hg,_⟩
 ·simp only [Value.slice.injEq] at he;omega
 ·simp only [Value.slice.injEq] at he;obtain ⟨rfl,_⟩:=he;exact ⟨g,rfl,hb,lt_of_block hg,fun j=>frozen_of_row w g j cur _ hg⟩
theorem RMat.row {w:World} {base G N cap:Nat} {vs:List Value} {M:List (List (Int × Int))} (h:RMat w base (some ⟨G,0,none⟩) N cap vs M) {i n:Nat} (hi:i<N) (hn:(M[i]?.getD []).length=n) (h1:1<=n) :
 ∃ g c,vs[i]?.getD undef=.slice (some ⟨g,0,none⟩) n c/\w.cell? ⟨G,i,none⟩=some (.slice (some ⟨g,0,none⟩) n c)/\OwnR w base (.slice (some ⟨g,0,none⟩) n c) (M[i]?.getD [])/\g ≠ G/\base<=g/\g<w.heap.size/\n<=c/\c<=9223372036854775807:=by
 have hr:=h.rows.row i (by rw [h.len];exact hi);obtain ⟨a',c,he,hc1,hc2⟩:=hr.form;rw [he] at hr;rw [hn] at he hr hc1;obtain ⟨g,rfl,hb,_,hgl⟩:=hr.block (k:=0) (by omega);obtain ⟨G',hG,_,hc⟩:=h.own.cell hi;simp only [Option.some.injEq,Addr.mk.injEq,and_true] at hG;subst hG;refine ⟨g,c,he,?_,hr,fun e=>hr.apart h.own g rfl (by subst e;rfl),hb,hgl,hc1,hc2⟩;rw [hc i hi,<-he];have:i<vs.length:=by rw [h.vlen];exact hi
 simp [this]
theorem RMat.put {w0 w:World} {base G N cap:Nat} {vs:List Value} {M:List (List (Int × Int))} (h:RMat w0 base (some ⟨G,0,none⟩) N cap vs M) (hx:Ext w0 w) (hb:base<=w0.heap.size) {v:Value} {l:List (Int × Int)} (ho:OwnR w w0.heap.size v l) {i:Nat} (hi:i<N) :
 RMat (w.setCell ⟨G,i,none⟩ v) base (some ⟨G,0,none⟩) N cap (vs.set i v) (M.set i l):=by
 have hil:i<M.length:=by rw [h.len];exact hi
 have hvl:i<vs.length:=by rw [h.vlen];exact hi
 have hW:=h.ext hx;obtain ⟨G',hG,hbG,hGl,_⟩:=h.outer (by omega);simp only [Option.some.injEq,Addr.mk.injEq,and_true] at hG;subst hG;have hother:∀ k,k ≠ G->(w.setCell ⟨G,i,none⟩ v).heap[k]?=w.heap[k]?:=fun k hk=>heap_setCell_other _ _ _ _ hk
 refine ⟨?_,⟨by rw [List.length_set,List.length_set];exact h.rows.len,fun k hk=>?_,fun a b k hab hb2 hk hk2=>?_⟩⟩
 ·have ho:=hW.own;unfold OwnW at ho;rw [hW.vlen] at ho;have:=(World.ownsRow.stored ho i v).1;unfold OwnW;rw [List.length_set,hW.vlen];exact this
 ·rw [List.length_set] at hk;by_cases hki:k=i
  ·subst hki;rw [List.getElem?_set_self hvl,List.getElem?_set_self hil];exact (ho.keep fun b hb'=>hother b (by have:=(ho.lt b hb').1;omega)).mono hb
  ·rw [List.getElem?_set_ne (Ne.symm hki),List.getElem?_set_ne (Ne.symm hki)];refine (hW.rows.row k hk).keep fun b hb'=>hother b fun e=>?_
   subst e;exact (hW.rows.row k hk).apart hW.own _ hb' rfl
 ·rw [List.length_set] at hb2;by_cases hai:a=i
  ·subst hai;rw [List.getElem?_set_self hvl] at hk;rw [List.getElem?_set_ne (by omega)] at hk2;have h1:=(ho.lt k hk).1;have h2:=((h.rows.row b hb2).lt k hk2).2;omega
  ·rw [List.getElem?_set_ne (Ne.symm hai)] at hk;by_cases hbi:b=i
   ·subst hbi;rw [List.getElem?_set_self hvl] at hk2;have h1:=(ho.lt k hk2).1;have h2:=((h.rows.row a (by omega)).lt k hk).2;omega
   ·rw [List.getElem?_set_ne (Ne.symm hbi)] at hk2;exact h.rows.apart a b k hab hb2 hk hk2
end Go.Proofs.YthjjfkeacobikaaGreat
namespace Go.Proofs.YthjjfkeacobikaaGreat
set_option maxRecDepth 100000
open Go.RowKit
structure LpC (w:World) (a:Option Addr) (na ca:Nat) (b:Option Addr) (nb cb:Nat) (c:Option Addr) (nc cc:Nat) (A:List (List Int)) (B:List Int) (C:List (Int × Int)):Prop where
 a:dV w a na ca A
 b:Ints w b nb cb B
 c:Rats w c nc cc C
theorem LpC.ext {w w':World} {a:Option Addr} {na ca:Nat} {b:Option Addr} {nb cb:Nat} {c:Option Addr} {nc cc:Nat} {A:List (List Int)} {B:List Int} {C:List (Int × Int)} (h:LpC w a na ca b nb cb c nc cc A B C) (hx:Ext w w'):LpC w' a na ca b nb cb c nc cc A B C :=
 ⟨h.a.ext hx,h.b.ext hx,h.c.ext hx⟩
abbrev lpW (a:Option Addr) (na ca:Nat) (b:Option Addr) (nb cb:Nat) (c:Option Addr) (nc cc:Nat):Value:=.agg #[.slice a na ca,.slice b nb cb,.slice c nc cc]
abbrev be (a:Option Addr) (na ca:Nat) (b:Option Addr) (nb cb:Nat) (c:Option Addr) (nc cc:Nat):Obj:=.cells #[.slice a na ca,.slice b nb cb,.slice c nc cc] 109
theorem mR {A B:List (Int × Int)} {k:Nat} {s:Int × Int} (h:dotN A B k=some s):dotN A B (k+1)=if (mulR (A[k]?.getD (0,0)) (B[k]?.getD (0,0))).2=true/\(addR s (mulR (A[k]?.getD (0,0)) (B[k]?.getD (0,0))).1).2=true
 then some (addR s (mulR (A[k]?.getD (0,0)) (B[k]?.getD (0,0))).1).1 else none:=by simp only [dotN,h,Option.bind_some]
theorem il {A B:List (Int × Int)} {k:Nat} (h:dotN A B k=none):∀ {n:Nat},k<=n->dotN A B n=none
 | n,hn=>by
   obtain ⟨d,rfl⟩:∃ d,n=k+d:=⟨n-k,by omega⟩;clear hn
   induction d with
   | zero=>exact h
   | succ d ih=>show (dotN A B (k+d)).bind _=none;rw [ih];rfl
def optR (o:Option (Int × Int)):(Int × Int) × Bool:=(o.getD (0,0),o.isSome)
set_option maxHeartbeats 8000000 in
theorem fh {w:World} {a b:Option Addr} {n cap n' cap':Nat} {A B:List (Int × Int)} (h:Rats w a n cap A) (h':Rats w b n' cap' B) :
 Calls Tryz.prog 254 #[.slice a n cap,.slice b n' cap'] w fun e w'=>e=.returned (resR (optR (dotL A B)))/\Ext w w':=by
 have HL:=ae h.hlen;have HL':=ae h'.hlen;have hcap:=h.hcap;have hmax:=h.hmax;have hcap':=h'.hcap;have hmax':=h'.hmax;have hx0:=Ext.alloc w (.cells #[.int .i64 0,.int .i64 0] 43);have HIA:=ae (h.ext hx0);have HIB:=ae (h'.ext hx0);have HX0:=ae hx0;have HRB:=ae (show (w.alloc (.cells #[.int .i64 0,.int .i64 0] 43)).heap[w.heap.size]?=some (.cells #[.int .i64 0,.int .i64 0] 43 (0,0)) from aj _ _ _ rfl);clear h h' hx0;by_cases hne:n=n'
 ·subst hne;have HD:=ae (show dotL A B=dotN A B n by unfold dotL;rw [HL.out,HL'.out,if_pos rfl]);have hnn:((n:Int) != (n:Int))=false:=by simp
  go_enter Tryz.func254,Tryz.ntmps254
  go_wp2_with fail;refine (cK 0 _).mono ?_;rintro e w1 ⟨rfl,hx1⟩;have HX1:=ae hx1;have HB0:=ae (ah.new (Ext.refl w1) 0 1);have HRW:=ae (fun (w':World) (hx:Ext w1 w')=>(hx.block _ (by have:=lt_of_block HRB.out;have:=HX1.out.size;omega)).trans ((HX1.out.block _ (lt_of_block HRB.out)).trans HRB.out));have HXW:=ae (HX0.out.trans HX1.out);have hsw1:w.heap.size<w1.heap.size:=by have:=lt_of_block HRB.out;have:=HX1.out.size;omega
  clear hx1;go_wp2_with fail
  go_loopg [21] n (fun gk ii wr=>∃ (k:Nat) (p q:Int),Hid (gk+k=n)/\ii=.int .i64 (k:Int)/\Hid (ah w1 wr w1.heap.size p q)/\Hid (dotN A B k=some (p,q)))
  case atStart=>exact ⟨0,0,1,ae (by omega),rfl,HB0,ae rfl⟩
  case round =>
   obtain ⟨g1,h_g1⟩:∃ x,x=gk:=⟨_,rfl⟩;subst h_g1;obtain ⟨wr1,h_wr1⟩:∃ x,x=wr:=⟨_,rfl⟩;subst h_wr1;obtain ⟨k,p,q,HK,rfl,HB,HT⟩:=hrel;have hb0:=HB.out.c0;have hb1:=HB.out.c1;have hbl:=HB.out.lt;have hszb:=HB.out.ext.size;by_cases hlt:k<n
   ·obtain ⟨ab,aoff,ax,ay,ha,hax,hac0,hac1⟩:=(HIA.out.ext (HX1.out.trans HB.out.ext)).at hlt;obtain ⟨bb,boff,bx,by',hb,hbx,hbc0,hbc1⟩:=(HIB.out.ext (HX1.out.trans HB.out.ext)).at hlt;subst ha hb;obtain ⟨mx,my,one,hm⟩:∃ x y ok,mulR (ax,ay) (bx,by')=((x,y),ok):=⟨_,_,_,rfl⟩;have HM:=ae hm;obtain ⟨p2,q2,two,hs2⟩:∃ u v ok,addR (p,q) (mx,my)=((u,v),ok):=⟨_,_,_,rfl⟩;have HS2:=ae hs2;have HST:=ae (show dotN A B (k+1)=if one=true/\two=true then some (p2,q2) else none by rw [mR HT.out,hax,hbx,hm];simp only;rw [hs2]);clear hax hbx hm hs2;go_upto_region 7 with fail
    go_cut [8,9] (fun sx so wx=>∃ g:Nat,sx=.pointer (some ⟨g,0,none⟩)/\so=.bool one/\Hid (ah wr1 wx g mx my))
    case first =>
     have hk2:Ext wr1 wr1.drew:=Ext.drew wr1;have hka:Ext wr1 (wr1.alloc (.cells #[.int .i64 0,.int .i64 0] 43)).drew:=(Ext.alloc _ _).trans (Ext.drew _);have HKEEP:=ae (fun (w':World) (h:Ext wr1 w')=>(⟨h.cellSome hac0,h.cellSome hac1,h.cellSome hbc0,h.cellSome hbc1,h⟩:w'.cell? ⟨ab,aoff+k*2,none⟩=some (.int .i64 ax)/\w'.cell? ⟨ab,aoff+k*2+1,none⟩=some (.int .i64 ay)/\w'.cell? ⟨bb,boff+k*2,none⟩=some (.int .i64 bx)/\w'.cell? ⟨bb,boff+k*2+1,none⟩=some (.int .i64 by')/\Ext wr1 w'))
     go_region_held3 (fun w'=>w'.cell? ⟨ab,aoff+k*2,none⟩=some (.int .i64 ax)/\w'.cell? ⟨ab,aoff+k*2+1,none⟩=some (.int .i64 ay)/\w'.cell? ⟨bb,boff+k*2,none⟩=some (.int .i64 bx)/\w'.cell? ⟨bb,boff+k*2+1,none⟩=some (.int .i64 by')/\Ext wr1 w')
      (first
        | with_reducible exact HKEEP.out _ hk2
        | with_reducible exact HKEEP.out _ hka
        | with_reducible exact HKEEP.out _ ((hk2.setCell (by first|(simp;done)|(simp;omega)) _).setCell (by first|(simp;done)|(simp;omega)) _)
        | with_reducible exact HKEEP.out _ (hk2.trans (Ext.alloc _ _))
        | with_reducible exact HKEEP.out _ (hBB.put _ _).ext)
      (first
        | (go_at_call 210
           (with_reducible refine (oA ax ay bx by' _).mono ?_)
           rw [HM.out];rintro e w3 ⟨rfl,hx_w3⟩
           first|(with_reducible have hBB:=ah.grow hBB hx_w3)|(with_reducible have hBB:=ah.firstD hx_w3)|(with_reducible have hBB:=ah.laterD hk2 hx_w3)|skip
           first|(have b0_:=hBB.c0;have b1_:=hBB.c1;have fb_:=hBB.free)|skip
           have hk2:Ext wr1 w3:=by first|with_reducible exact hk2.trans hx_w3|with_reducible exact hka.trans hx_w3|with_reducible exact (hk2.trans (Ext.alloc _ _)).trans hx_w3
           have hk2s:=hk2.size)
        | fail)
     all_goals (go_wp2_with fail;go_meet;first|exact ⟨_,rfl,rfl,ae (hBB.put _ _)⟩|exact ⟨_,rfl,rfl,ae (ah.new hk2 _ _)⟩|exact ⟨_,rfl,rfl,ae (ah.new' hk2 _ _ (by simp))⟩)
    obtain ⟨g,rfl,rfl,HB1⟩:=hcut;have g0:=HB1.out.c0;have g1':=HB1.out.c1;have hB3:=HB.out.grow HB1.out.ext;have hb0':=hB3.c0;have hb1':=hB3.c1;have HB3:=ae hB3;clear hb0 hb1 hac0 hac1 hbc0 hbc1 hB3;go_wp2_with fail;refine (ou p q mx my _).mono ?_;rw [HS2.out];rintro e w4 ⟨rfl,hx4⟩;have HB4:=ae (HB3.out.grow hx4);have HB5:=ae (HB4.out.grow (Ext.alloc _ (.cells #[.int .i64 p2,.int .i64 q2] 43)));have hr:=ai (HRW.out _ HB5.out.ext);obtain ⟨hr0,hr1,hrf⟩:=hr;have HX5:=ae HB5.out.ext;have hbf:=HB5.out.free;have hb5l:=HB4.out.lt;have hw4:=HB4.out.ext.size;have h40:=HB4.out.c0;have h41:=HB4.out.c1;have h4f:=HB4.out.free;clear hx4 g0 g1' hb0' hb1';cases one
    ·have HN:=ae (show dotL A B=none by rw [HD.out];exact il (k:=k+1) (by rw [HST.out];simp) hlt);go_wp2_with fail;refine bodyPost_ret (v:=.tuple #[.agg #[.int .i64 0,.int .i64 0],.bool false]) (by simp [results,Tryz.results254,go_sem,hr0,hr1]) rfl ⟨by rw [HN.out];rfl,(((HXW.out.trans HX5.out).store 0 (Nat.le_refl _) _).store 1 (Nat.le_refl _) _)⟩
    ·cases two
     ·have HN:=ae (show dotL A B=none by rw [HD.out];exact il (k:=k+1) (by rw [HST.out];simp) hlt);go_wp2_with fail;refine bodyPost_ret (v:=.tuple #[.agg #[.int .i64 0,.int .i64 0],.bool false]) (by simp [results,Tryz.results254,go_sem,hr0,hr1]) rfl ⟨by rw [HN.out];rfl,(((HXW.out.trans HX5.out).store 0 (Nat.le_refl _) _).store 1 (Nat.le_refl _) _)⟩
     ·have HT2:=ae (show dotN A B (k+1)=some (p2,q2) by rw [HST.out];simp);have HB6:=ae ((HB4.out.put p2 q2).grow (Ext.alloc _ (.cells #[.int .i64 p2,.int .i64 q2] 43)));go_wp2_with fail
      go_roundg (g1-1)
      case measure=>have:=HK.out;omega
      case rel=>exact ⟨k+1,p2,q2,ae (by have:=HK.out;omega),by go_num,HB6,HT2⟩
   ·have hkn:n=k:=by have:=HK.out;omega
    subst hkn;have HY:=ae (show dotL A B=some (p,q) by rw [HD.out];exact HT.out);have hr:=ai (HRW.out wr1 HB.out.ext);obtain ⟨hr0,hr1,hrf⟩:=hr;go_wp2_with fail;refine bodyPost_ret (v:=.tuple #[.agg #[.int .i64 p,.int .i64 q],.bool true]) (by simp [results,Tryz.results254,go_sem,hr0,hr1]) rfl ⟨by rw [HY.out];rfl,(((HXW.out.trans HB.out.ext).store 0 (Nat.le_refl _) _).store 1 (Nat.le_refl _) _)⟩
 ·have HN:=ae (show dotL A B=none by unfold dotL;rw [HL.out,HL'.out,if_neg hne]);have hnn:((n:Int) != (n':Int))=true:=by simp;omega
  have hr:=ai HRB.out;obtain ⟨hr0,hr1,hrf⟩:=hr;go_enter Tryz.func254,Tryz.ntmps254
  go_wp2_with fail;refine bodyPost_ret (v:=.tuple #[.agg #[.int .i64 0,.int .i64 0],.bool false]) (by simp [results,Tryz.results254,go_sem,hr0,hr1]) rfl ⟨by rw [HN.out];rfl,HX0.out⟩
theorem mL {A:List (List Int)} {j k:Nat} (h:k<A.length):colL (A.take k) j++[(A[k]?.getD [])[j]?.getD 0]=colL (A.take (k+1)) j:=by
 rw [eW h];simp [colL]
set_option maxHeartbeats 4000000 in
theorem oD {w:World} {a:Option Addr} {na ca:Nat} {b:Option Addr} {nb cb:Nat} {c:Option Addr} {nc cc:Nat} {A:List (List Int)} (h:dV w a na ca A) {m j:Nat} (hl:∀ i,i<na->(A[i]?.getD []).length=m) (hj:j<m) (hm:m<=1000000) (hbig:na<=1048576) :
 Calls Tryz.prog 255 #[lpW a na ca b nb cb c nc cc,.int .i64 (j:Int)] w fun e w'=>(∃ v,e=.returned v/\OwnI w' w.heap.size v (colL A j))/\Ext w w':=by
 have hcap:=h.hcap;have hmax:=h.hmax;have HL:=ae h.hlen;have hx0:=Ext.alloc w (be a na ca b nb cb c nc cc);have HX0:=ae hx0;have HI:=ae (h.ext hx0);have HLL:=ae hl;have HO:=ae (OwnI.madeS (w.alloc (be a na ca b nb cb c nc cc)) (w.heap.size+1) _ rfl (by simp));clear h hx0 hl;go_enter Tryz.func255,Tryz.ntmps255
 go_wp2_with fail
 go_loopg [5,12] na (fun gk o ii wr=>∃ (k:Nat) (a1:Option Addr) (n1 p1:Nat),Hid (gk+k=na)/\ii=.int .i64 (k:Int)/\o=.slice a1 n1 p1/\Hid (OwnI wr (w.heap.size+1) (.slice a1 n1 p1) (colL (A.take k) j))/\Hid (Ext (w.alloc (be a na ca b nb cb c nc cc)) wr))
 case atStart=>exact ⟨0,_,_,_,ae (by omega),rfl,rfl,ae (by simpa [colL] using HO.out),ae (Ext.alloc _ _)⟩
 case round =>
  obtain ⟨g1,h_g1⟩:∃ x,x=gk:=⟨_,rfl⟩;subst h_g1;obtain ⟨wr1,h_wr1⟩:∃ x,x=wr:=⟨_,rfl⟩;subst h_wr1;obtain ⟨k,a1,n1,p1,HK,rfl,rfl,HO1,HX1⟩:=hrel;have hsz:=HX1.out.size;rw [World.size_alloc] at hsz;by_cases hlt:k<na
  ·obtain ⟨gb,goff,ra,rn,rc,rfl,hgc,hrow⟩:=(HI.out.ext HX1.out).at hlt;have hrn:rn=m:=by rw [<-hrow.hlen];exact HLL.out k hlt
   subst hrn;obtain ⟨eb,eoff,rfl,hec⟩:=hrow.at hj;obtain ⟨x,hx⟩:∃ x,x=(A[k]?.getD [])[j]?.getD 0:=⟨_,rfl⟩;rw [<-hx] at hec;have HS:=ae (show colL (A.take k) j++[x]=colL (A.take (k+1)) j by rw [hx];exact mL (by rw [HL.out];exact hlt));have HLK:=ae (show (colL (A.take k) j).length=k by simp [colL];have:=HL.out;omega);have hrc:=hrow.hcap;have hrm:=hrow.hmax;clear hrow hx
   go_wp2_with (first
    | (at_builtin;refine bm rfl _ _ rfl (w.heap.size+1) (.slice a1 n1 p1) _ rfl (HO1.out.ext (Ext.alloc _ _)) _ 1 _ [x] rfl (Ints.oneS _ _ _ _ (by simp)) (by rw [HLK.out];omega) (by simp;omega) ?_;intro v2 w3 ho hg hnear;have X5:=ae (ak (HX1.out.trans (Ext.alloc _ _)) hg (fun i hi=>by have:=(HO1.out.lt i hi).1;simpa using this));obtain ⟨a2,n2,c2,rfl,HN2⟩:=ho.var;have HO4:=ae ho;clear ho hg hnear))
   go_roundg (g1-1)
   case measure=>have:=HK.out;omega
   case rel=>exact ⟨k+1,a2,n2,c2,ae (by have:=HK.out;omega),by go_num,rfl,ae (by rw [<-HS.out];exact HO4.out),X5⟩
  ·have hkn:na=k:=by have:=HK.out;omega
   subst hkn;have HT:=ae (show A.take na=A from List.take_of_length_le (by rw [HL.out];exact Nat.le_refl _));rw [HT.out] at HO1;go_wp2_with fail;go_ret;exact ⟨⟨_,rfl,HO1.out.mono (Nat.le_succ _)⟩,HX0.out.trans HX1.out⟩
end Go.Proofs.YthjjfkeacobikaaGreat
