import Derived.Test.YtalmoolkhcgmmaaGreatProg
import Derived.WalkKit
import Derived.WalkSpells
import Derived.WalkLawsBesides
import Derived.Lib.Hide
import Derived.Deep.QuietTactic
import Derived.BigQuiet
import Derived.Deep.RegionHeld3
set_option linter.unusedVariables false
set_option linter.unusedSimpArgs false
namespace Go.Proofs.YtalmoolkhcgmmaaGreat
abbrev k5:=Int×Int
abbrev j9:=List Int
abbrev j8:=Option Addr
abbrev j7:=List (List Int)
abbrev j6:=List (Int×Int)
abbrev j5:=List (Int×Int×Int)
theorem j4{Q P:Prop}(q:Q)(h:Q->P:=by intro this;omega):P:=h q
theorem j0{P:Prop}(h:P:=by rfl):P:=h
theorem e8{P:Prop}(h:P:=by kernel_rfl):P:=h
theorem e7{P:Prop}(h:P:=by simp):P:=h
theorem b9{P:Prop}(h:P:=by omega):P:=h
theorem b8{α:Sort _}(a:α):∃x,x=a:=⟨a,rfl⟩
def b7(p:Prop):Prop:=p
theorem b7.o{p:Prop}(h:b7 p):p:=h
theorem b7.out{p:Prop}(h:b7 p):p:=h
variable{P:World->Prop}{k b base n i:Nat}{a:j8}{c w w':World}{v:Value}{l:j9}{t:TypeId}{α:Type}{fid:FuncId}{ca:Array Value}
set_option maxHeartbeats 16000000
open Go.RowKit
theorem ae{P:Prop}(h:P):b7 P:=h
theorem aU{k:IntKind}{a b:Int}(h:a=b):Ending.returned (.int k a)=.returned (.int k b):=by rw[h]
theorem ag{a b:Bool}(h:a=b):Ending.returned (.bool a)=.returned (.bool b):=by rw[h]
abbrev Ext(w w':World):Prop:=Below w.heap.size w w'
theorem Ext.refl(w:World):Ext w w:=Below.refl _ _
theorem Ext.trans{a b:World}(h:Ext a b)(k:Ext b c):Ext a c:=Below.trans h (Below.mono k h.size)
theorem Ext.alloc(w:World)(o:Obj):Ext w (w.alloc o):=(Below.refl _ _).alloc (Nat.le_refl _) o
theorem Ext.Gi{a b:World}(h:Ext a b)(k:Below a.heap.size b c):Ext a c:=Below.trans h k
theorem Ext.Qj(h:Ext w w'):∀b o,b<w.heap.size->w'.frozen? ⟨b,o,none⟩=w.frozen? ⟨b,o,none⟩:=fun b o k=>h.frozen (p:=⟨b,o,none⟩) k
theorem Ext.k6(h:Ext w w'){a:Addr}(k:w.cell? a=some v):w'.cell? a=some v :=
 (h.cell (World.block_lt_of_cell? w a k)).trans k
def On(base:Nat)(w:World)(P:World->Prop):Prop:=∀w2:World,(∀k,base<=k->k<w.heap.size->w2.heap[k]?=w.heap[k]?)->P w2
theorem On.here(h:On base w P):P w:=h w fun _ _ _=>rfl
theorem On.keep(h:On base w P)(hs:w.heap.size<=w'.heap.size)(hk:∀k,base<=k->k<w.heap.size->w'.heap[k]?=w.heap[k]?):On base w' P :=
 fun G h2=>h G fun k h1 h3=>(h2 k h1 b9).trans (hk k h1 h3)
theorem On.ext(h:On base w P)(hx:Ext w w'):On base w' P:=h.keep hx.size fun k _ hk=>hx.block k hk
theorem On.set(h:On base w P){a:Addr}(ha:a.block<base)(v:Value):On base (w.setCell a v) P :=
 h.keep e7 fun k hk _=>heap_setCell_other w a k v b9
theorem On.mono{base':Nat}(h:On base w P)(hb:base'<=base):On base' w P:=fun G h2=>h G fun k h1 h3=>h2 k b9 h3
structure Ints(w:World)(a:j8)(n cap:Nat)(l:j9):Prop where
 hlen:l.length=n
 o3:n<=cap
 l9:cap<=9223372036854775807
 cell:∀k,k<n->∃b off,a=some ⟨b,off,none⟩/\∀k,k<n->w.cell? ⟨b,off+k,none⟩=some (.int .i64 (l[k]?.getD 0))
theorem Ints.ext{cap:Nat}(h:Ints w a n cap l)(hx:Ext w w'):Ints w' a n cap l :=
 ⟨h.hlen,h.o3,h.l9,fun k hk=>let⟨b,off,e,hc⟩:=h.cell k hk;⟨b,off,e,fun k hk=>hx.k6 (hc k hk)⟩⟩
theorem Ints.at{cap:Nat}(h:Ints w a n cap l)(hk:k<n):
 ∃b off,a=some ⟨b,off,none⟩/\w.cell? ⟨b,off+k,none⟩=some (.int .i64 (l[k]?.getD 0)) :=
 let⟨b,off,e,hc⟩:=h.cell k hk;⟨b,off,e,hc k hk⟩
theorem Ints.drewN{cap:Nat}(h:Ints w a n cap l)(m:Nat):Ints (w.drewN m) a n cap l:=h.ext (below_drewN (Ext.refl w) m)
theorem Ints.alloc{cap:Nat}(h:Ints w a n cap l)(o:Obj):Ints (w.alloc o) a n cap l:=h.ext (Ext.alloc w o)
abbrev yd(w w':World):Prop:=∃m,w'=w.drewN m
theorem yd.refl(w:World):yd w w:=⟨0,rfl⟩
theorem yd.trans{a b:World}(h:yd a b)(k:yd b c):yd a c:=by
 obtain⟨m,rfl⟩:=h;obtain⟨n,rfl⟩:=k;exact⟨m+n,World.drewN_drewN _ _ _⟩
theorem yd.ext(h:yd w w'):Ext w w':=by obtain⟨m,rfl⟩:=h;exact below_drewN (Ext.refl w) m
theorem Ext.drew(w:World):Ext w w.drew:=below_drewN (Ext.refl w) 1
theorem bY{P:Program}{f:FuncId}{args:Array Value}
 (h:Calls P f args (w.drewN n) fun e w'=>e=.returned v/\w.drewN n=w'):Calls P f args (w.drewN n) fun e w''=>e=.returned v/\∃m,w''=w.drewN m :=
 h.mono fun _ _ ⟨he,hm⟩=>⟨he,n,hm.symm⟩
def bw(l:j9):Array Value:=(l.map (Value.int .i64)).toArray
theorem sf(l:j9)(k:Nat)(h:k<l.length):(bw l)[k]?=some (.int .i64 (l[k]?.getD 0)):=by simp[bw,h]
theorem qF(l:j9)(k:Nat)(x:Int):(bw l).setIfInBounds k (.int .i64 x)=bw (l.set k x):=by simp[bw]
def Row(w:World)(b:Nat)(t:TypeId)(l:j9):Prop:=w.heap[b]?=some (.cells (bw l) t (0,0))
theorem Row.cell(h:Row w b t l)(hk:k<l.length):w.cell? ⟨b,k,none⟩=some (.int .i64 (l[k]?.getD 0)):=by
 rw[cell_of_row w b k _ t _ h,sf l k hk]
theorem Row.free(h:Row w b t l)(k:Nat):w.frozen? ⟨b,k,none⟩=false:=frozen_of_row w b k _ t h
theorem Row.lt(h:Row w b t l):b<w.heap.size:=lt_of_block h
theorem Row.set(h:Row w b t l)(k:Nat)(x:Int):Row (w.setCell ⟨b,k,none⟩ (.int .i64 x)) b t (l.set k x):=by
 have:=heap_setCell_same w b k _ t (.int .i64 x) h;rw[qF]at this;exact this
theorem Row.ext(h:Row w b t l)(hx:Ext w w'):Row w' b t l:=(hx.block b h.lt).trans h
theorem Row.ints(h:Row w b t l){cap:Nat}(hn:l.length=n)(hc:n<=cap)(hm:cap<=9223372036854775807):Ints w (some ⟨b,0,none⟩) n cap l :=
 ⟨hn,hc,hm,fun _ _=>⟨b,0,rfl,fun k hk=>by rw[Nat.zero_add];exact h.cell b9⟩⟩
def VRow(w:World)(b:Nat)(t:TypeId)(vs:List Value):Prop:=w.heap[b]?=some (.cells vs.toArray t (0,0))
theorem ak(w:World)(o:Obj)(n:Nat)(h:n=w.heap.size):(w.alloc o).heap[n]?=some o:=by rw[h];exact heap_alloc_new w o
theorem bX(w:World)(o:Obj)(n:Nat)(h:n<w.heap.size):(w.alloc o).heap[n]?=w.heap[n]?:=by rw[World.alloc,Array.getElem?_push,if_neg b9]
theorem cW(h:k<l.length):l.take (k+1)=l.take k++[l[k]?.getD 0]:=by
 rw[List.take_succ_eq_append_getElem h];simp[h]
def wJ(n lo hi:Int):Bool:=decide (lo<=n)&&decide (n<=hi)
theorem gA{xs:List α}:xs.toArray[i]?=xs[i]?:=List.getElem?_toArray
theorem gB{a:α}{l:List α}:(a::l)[i+1]?=l[i]?:=List.getElem?_cons_succ
theorem gC{a:α}{l:List α}:(a::l)[0]?=some a:=List.getElem?_cons_zero
theorem sA{xs:List α}{a:α}:xs.toArray.setIfInBounds i a=(xs.set i a).toArray:=List.setIfInBounds_toArray xs i a
theorem sB{x:α}{xs:List α}{a:α}:(x::xs).set 0 a=a::xs:=List.set_cons_zero
theorem sC{x:α}{xs:List α}{a:α}:(x::xs).set (i+1) a=x::xs.set i a:=List.set_cons_succ
section
variable{P:Program}{md:Region.Mode}{ops:Array Oper}{Q:Exit->Act->World->Prop}{S:World->Prop}{fuel:Nat}{listed:Array Bool}{a:Act}{w:World}
theorem tk(i:Nat){oi:Oper}{v:Value}{G:Array Bool}{I:Act}(h:wpAnyH P md ops Q S fuel G I w)(hi:ops[i]?=some oi:=by simp only[gA,gB,gC];rfl)(hs:Region.noSelect ops=true:=by kernel_rfl)
 (hf:Region.free md ops listed i=true:=by kernel_rfl) (hr:(Region.ready md ops listed).contains i=true:=by kernel_rfl) (J:∀c a w,Q (.panic c) (a.put oi.dst v) w->Q (.panic c) a w:=by exact fun _ _ _ h=>h)
 (hy:YieldsIf P ops S oi v a:=by(refine Or.inl ⟨by rfl,?_⟩;intro w G8;(try dsimp only at G8);go_simp;(try with_reducible rfl))) (hS:S w:=by assumption)
 (hl:listed.setIfInBounds i true=G:=by(try simp only[sA,sB,sC]);rfl) (ha:a.put oi.dst v=I:=by(try simp only[Act.put,sA,sB,sC]);rfl):wpAnyH P md ops Q S (fuel+1) listed a w:=by subst hl ha;exact wpAnyH_take hi hs hf hr J hy hS h
theorem sk(i:Nat){oi:Oper}{G:Array Bool}{I:Act}(h:wpAnyH P md ops Q S fuel G I w)(hi:ops[i]?=some oi:=by simp only[gA,gB,gC];rfl)(hs:Region.noSelect ops=true:=by kernel_rfl)
 (hf:Region.free md ops listed i=true:=by kernel_rfl) (hr:(Region.ready md ops listed).contains i=true:=by kernel_rfl) (J:∀c a w,Q (.panic c) (a.put oi.dst undef) w->Q (.panic c) a w:=by exact fun _ _ _ h=>h)
 (hy:YieldsIf P ops S oi undef a:=by exact Or.inr ⟨by rfl,rfl⟩) (hS:S w:=by assumption)
 (hl:listed.setIfInBounds i true=G:=by(try simp only[sA,sB,sC]);rfl) (ha:a.put oi.dst undef=I:=by(try simp only[Act.put,sA,sB,sC]);rfl):wpAnyH P md ops Q S (fuel+1) listed a w:=by subst hl ha;exact wpAnyH_take hi hs hf hr J hy hS h
theorem rd{i:Nat}{o:Oper}(hr:Region.ready md ops listed=[i]:=by kernel_rfl)(ho:ops[i]?=some o:=by simp only[gA,gB,gC];rfl)
 (h:∀K':Act->World->Prop,Shut (∀a w,S w->(S w->wpAnyH P md ops Q S fuel (listed.setIfInBounds i true) a w)->K' a w)->if Region.wanted o (yielded ops a.tmps)=true then Oper.wp P o a w K' Q else K' (a.put o.dst undef) w) :
 wpAnyH P md ops Q S (fuel+1) listed a w:=wpAnyH_ready hr e7 (AllReadyH.cons ho h AllReadyH.nil)
end
theorem aK(n lo hi:Int)(w:World):
 Calls Tryz.prog 49 #[.int .i64 n,.int .i64 lo,.int .i64 hi] w fun e w'=>e=.returned (.bool (wJ n lo hi))/\w=w':=by
 go_enter Tryz.func49,Tryz.ntmps49
 go_wp2
 all_goals go_ret;refine⟨?_,rfl⟩;simp[wJ, *]
 intro h;omega
theorem bG(n lo hi:Int)(w:World):
 Calls Tryz.prog 74 #[.int .i64 n,.int .i64 lo,.int .i64 hi] w fun e w'=>e=.returned (.bool (wJ n lo hi))/\w=w':=by
 go_enter Tryz.func74,Tryz.ntmps74
 go_wp2
 all_goals go_ret;refine⟨?_,rfl⟩;simp[wJ, *]
 intro h;omega
def small(l:j9)(most:Int):Bool:=l.all (wJ · 0 most)&&wJ l.length 1 5
theorem sE{p:Int->Bool}(h:l.all p=true)(hk:k<l.length):p (l[k]?.getD 0)=true:=by
 have:=List.all_eq_true.1 h (l[k]) (List.getElem_mem hk);simpa[hk]using this
def FZ(P:Program)(w:World)(fid:FuncId)(ca:Array Value)(p:Int->Bool):Prop :=
 ∀x (w1:World),Ext w w1->Calls P fid (#[.int .i64 x]++ca) w1 fun e w2=>e=.returned (.bool (p x))/\Ext w1 w2
theorem FZ.ext{P:Program}{p:Int->Bool}(h:FZ P w fid ca p)(hx:Ext w w'):FZ P w' fid ca p :=
 fun x w1 k=>h x w1 (hx.trans k)
def IsGo(P:Program)(fid:FuncId):Prop:=∀(args:Array Value) (w:World),(callFunc fid args).run P w=.ok (.enter fid args) w
theorem isGo {P: Program}{fid: FuncId}{fn: Func}(h : P.funcs[fid]? = some fn)(hn : (fn.name == "runtime.NumGoroutine") = false)(hb : fn.body.isNone = false) : IsGo P fid := by
 intro args w;have hn' : fn.name ≠ "runtime.NumGoroutine" := by simpa using hn
 simp[callFunc,h,hn'];intro hx;rw[hx]at hb;cases hb
def bU{α:Type}(p:α->Bool)(l:List α):Int:=match l.findIdx? p with|some i=>(i:Int)|none=>-1
theorem fh{p:α->Bool}{l:List α}{d:α}(hk:k<l.length)(h0:(l.take k).all (fun x=>!p x)=true)(h1:p (l[k]?.getD d)=true):bU p l=k:=by
 have:l.findIdx? p=some k:=by
  rw[List.findIdx?_eq_some_iff_getElem];refine⟨hk,by simpa[hk]using h1,fun j hj=>?_⟩;have:=List.all_eq_true.1 h0 (l[j]) (by rw[List.mem_take_iff_getElem];exact⟨j,by omega,rfl⟩)
  simpa using this
 simp[bU,this]
theorem dZ{p:α->Bool}{l:List α}(h0:l.all (fun x=>!p x)=true):bU p l=-1:=by
 have:l.findIdx? p=none:=by
  rw[List.findIdx?_eq_none_iff];intro x hx;have:=List.all_eq_true.1 h0 x hx
  simpa using this
 simp[bU,this]
theorem ig(p:α->Bool)(l:List α):decide (0<=bU p l)=l.any p:=by
 by_cases h:l.any p=true
 ·rw[h];unfold bU;cases hf:l.findIdx? p with
  | some i=>simp
  | none =>
    rw[List.findIdx?_eq_none_iff]at hf;obtain⟨x,hx,hp⟩:=List.any_eq_true.1 h;rw[hf x hx]at hp;cases hp
 ·rw[dZ (by simpa using h)];simp only[Bool.not_eq_true]at h;rw[h];rfl
theorem jp{cap:Nat}{p:Int->Bool}(h:Ints w a n cap l)(hg:IsGo Tryz.prog fid)(hf:FZ Tryz.prog w fid ca p):
 Calls Tryz.prog 102 #[.slice a n cap,.func (.func fid) #[] ca] w fun e w'=>e=.returned (.int .i64 (bU p l))/\Ext w w':=by
 have hn:=h.o3;have hm:=h.l9;have XI:∀(args:Array Value) (w:World),(callFunc fid args).run Tryz.prog w=.ok (.enter fid args) w:=hg;go_enter Tryz.func102,Tryz.ntmps102
 go_wp2
 go_loopw [8] (fun i wr=>∃k:Nat,k<=n/\i=.int .i64 k/\(l.take k).all (fun x=>!p x)=true/\Ext w wr) (fun i _=>n-(intOf i).toNat)
 case atStart=>exact⟨0,Nat.zero_le _,rfl,rfl,Ext.refl _⟩
 case round =>
  obtain⟨k,hk,rfl,An,hx⟩:=hrel;have HA:=ae An;clear An;by_cases hlt:k<n
  ·have h':=h.ext hx;obtain⟨b,off,rfl,hc⟩:=h'.at hlt;have HL:=ae h.hlen;have HF:=ae (hf (l[k]?.getD 0) wr hx);by_cases hb:p (l[k]?.getD 0)=true
   ·have HB:=ae hb;go_wp2_with fail;refine HF.o.mono ?_;rintro e w2 ⟨rfl,xg⟩
    go_wp2
    go_ret;exact⟨aU (fh (j4 HL.o) HA.o HB.o).symm,hx.trans (by assumption)⟩
   ·have HB:=ae hb;simp only[Bool.not_eq_true]at hb;go_wp2_with fail;refine HF.o.mono ?_;rintro e w2 ⟨rfl,xg⟩
    go_wp2
    go_roundw
    case rel=>exact⟨k+1,by omega,by go_num,by rw[cW (j4 HL.o),List.all_append,HA.o];simpa using HB.o,hx.trans (by assumption)⟩
    case measure=>simp[intOf];omega
  ·have HL:=ae h.hlen
   go_wp2
   go_ret;refine⟨aU ?_,hx⟩;have:=HA.o;rw[List.take_of_length_le (j4 HL.o)]at this;exact(dZ this).symm
theorem dQ{cap:Nat}{p:Int->Bool}(h:Ints w a n cap l)(hg:IsGo Tryz.prog fid)(hf:FZ Tryz.prog w fid ca p):
 Calls Tryz.prog 50 #[.slice a n cap,.func (.func fid) #[] ca] w fun e w'=>e=.returned (.bool (l.any p))/\Ext w w':=by
 have HC:=ae (jp h hg hf);go_enter Tryz.func50,Tryz.ntmps50
 go_wp2_with fail;refine HC.o.mono ?_;rintro e w2 ⟨rfl,xg⟩
 go_wp2
 all_goals go_ret;refine⟨ag ?_,xg⟩;rw[<-ig]
theorem Tryz.IK:(Tryz.prog.info? 3).map (fun i=>(i.zero,i.size,i.bytes))=some (some (.int .i64 0),1,8):=by kernel_rfl
theorem jq(n:Nat)(hn:n<=1099511627776)(w:World):
 (Instr.makeSlice 24 (.int .i64 (n:Int)) (.int .i64 (n:Int))).run Tryz.prog w=.ok (.slice (some ⟨w.heap.size,0,none⟩) n n) (w.alloc (.cells (bw (List.replicate n 0)) 3)):=by
 obtain⟨i,hi,G,CE,DA⟩:=info_parts Tryz.IK;have hr:=run_make (P:=Tryz.prog) w 24 3 i (.int .i64 0) Tryz.underlying24 hi G .i64 .i64 n n b9 (Int.le_refl _) (by rw[DA];omega) b9;simp only[Int.toNat_natCast]at hr;rw[hr,CE];have:madeCells (Value.int .i64 0).cells (n*1)=bw (List.replicate n 0):=by
  apply Array.toList_inj.1
  show(madeCells #[Value.int .i64 0] (n*1)).toList=_;rw[toList_madeCells_one];simp[bw]
 rw[this]
abbrev pair(x:Int)(a:j8)(n cap:Nat):Value:=.agg #[.int .i64 x,.slice a n cap]
end Go.Proofs.YtalmoolkhcgmmaaGreat
