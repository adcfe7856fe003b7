import Derived.Test.YthjjfkeacobikaaGreatProg
import Derived.WalkKit
import Derived.WalkSpells
import Derived.WalkLawsBesides
import Derived.Lib.Hide
import Derived.Deep.QuietTactic
import Derived.BigQuiet
import Derived.Deep.RegionHeld3
set_option linter.unusedVariables false
set_option linter.unusedSimpArgs false
namespace Go.Proofs.YthjjfkeacobikaaGreat
open Go.RowKit
theorem ae {P:Prop} (h:P):Hid P:=Lib.hid h
theorem aM {k:IntKind} {a b:Int} (h:a=b):Ending.returned (.int k a)=.returned (.int k b):=by rw [h]
theorem ag {a b:Bool} (h:a=b):Ending.returned (.bool a)=.returned (.bool b):=by rw [h]
abbrev Ext (w w':World):Prop:=Below w.heap.size w w'
theorem Ext.refl (w:World):Ext w w:=Below.refl _ _
theorem Ext.trans {a b c:World} (h:Ext a b) (k:Ext b c):Ext a c:=Below.trans h (Below.mono k h.size)
theorem Ext.alloc (w:World) (o:Obj):Ext w (w.alloc o):=(Below.refl _ _).alloc (Nat.le_refl _) o
theorem Ext.trans_below {a b c:World} (h:Ext a b) (k:Below a.heap.size b c):Ext a c:=Below.trans h k
theorem Ext.frozens {w w':World} (h:Ext w w'):∀ b o,b<w.heap.size->w'.frozen? ⟨b,o,none⟩=w.frozen? ⟨b,o,none⟩:=fun b o k=>h.frozen (p:=⟨b,o,none⟩) k
theorem Ext.cellSome {w w':World} (h:Ext w w') {a:Addr} {v:Value} (k:w.cell? a=some v):w'.cell? a=some v :=
 (h.cell (World.block_lt_of_cell? w a k)).trans k
def On (base:Nat) (w:World) (P:World->Prop):Prop:=∀ w2:World,(∀ k,base<=k->k<w.heap.size->w2.heap[k]?=w.heap[k]?)->P w2
theorem On.here {base:Nat} {w:World} {P:World->Prop} (h:On base w P):P w:=h w fun _ _ _=>rfl
theorem On.keep {base:Nat} {w w':World} {P:World->Prop} (h:On base w P) (hs:w.heap.size<=w'.heap.size) (hk:∀ k,base<=k->k<w.heap.size->w'.heap[k]?=w.heap[k]?):On base w' P :=
 fun w2 h2=>h w2 fun k h1 h3=>(h2 k h1 (by omega)).trans (hk k h1 h3)
theorem On.ext {base:Nat} {w w':World} {P:World->Prop} (h:On base w P) (hx:Ext w w'):On base w' P:=h.keep hx.size fun k _ hk=>hx.block k hk
theorem On.set {base:Nat} {w:World} {P:World->Prop} (h:On base w P) {a:Addr} (ha:a.block<base) (v:Value):On base (w.setCell a v) P :=
 h.keep (by simp) fun k hk _=>heap_setCell_other w a k v (by omega)
theorem On.mono {base base':Nat} {w:World} {P:World->Prop} (h:On base w P) (hb:base'<=base):On base' w P:=fun w2 h2=>h w2 fun k h1 h3=>h2 k (by omega) h3
theorem On.imp {base:Nat} {w:World} {P Q:World->Prop} (h:On base w P) (hpq:∀ w,P w->Q w):On base w Q:=fun w2 h2=>hpq _ (h w2 h2)
structure Ints (w:World) (a:Option Addr) (n cap:Nat) (l:List Int):Prop where
 hlen:l.length=n
 hcap:n<=cap
 hmax:cap<=9223372036854775807
 cell:∀ k,k<n->∃ b off,a=some ⟨b,off,none⟩/\∀ k,k<n->w.cell? ⟨b,off+k,none⟩=some (.int .i64 (l[k]?.getD 0))
theorem Ints.ext {w w':World} {a:Option Addr} {n cap:Nat} {l:List Int} (h:Ints w a n cap l) (hx:Ext w w'):Ints w' a n cap l :=
 ⟨h.hlen,h.hcap,h.hmax,fun k hk=>let ⟨b,off,e,hc⟩:=h.cell k hk;⟨b,off,e,fun k hk=>hx.cellSome (hc k hk)⟩⟩
theorem Ints.at {w:World} {a:Option Addr} {n cap:Nat} {l:List Int} (h:Ints w a n cap l) {k:Nat} (hk:k<n) :
 ∃ b off,a=some ⟨b,off,none⟩/\w.cell? ⟨b,off+k,none⟩=some (.int .i64 (l[k]?.getD 0)) :=
 let ⟨b,off,e,hc⟩:=h.cell k hk;⟨b,off,e,hc k hk⟩
theorem Ints.drewN {w:World} {a:Option Addr} {n cap:Nat} {l:List Int} (h:Ints w a n cap l) (m:Nat):Ints (w.drewN m) a n cap l:=h.ext (below_drewN (Ext.refl w) m)
theorem Ints.alloc {w:World} {a:Option Addr} {n cap:Nat} {l:List Int} (h:Ints w a n cap l) (o:Obj):Ints (w.alloc o) a n cap l:=h.ext (Ext.alloc w o)
abbrev Drew (w w':World):Prop:=∃ m,w'=w.drewN m
theorem Drew.refl (w:World):Drew w w:=⟨0,rfl⟩
theorem Drew.trans {a b c:World} (h:Drew a b) (k:Drew b c):Drew a c:=by
 obtain ⟨m,rfl⟩:=h;obtain ⟨n,rfl⟩:=k;exact ⟨m+n,World.drewN_drewN _ _ _⟩
theorem Drew.ext {w w':World} (h:Drew w w'):Ext w w':=by obtain ⟨m,rfl⟩:=h;exact below_drewN (Ext.refl w) m
theorem Ext.drew (w:World):Ext w w.drew:=below_drewN (Ext.refl w) 1
theorem bY {P:Program} {f:FuncId} {args:Array Value} {w:World} {n:Nat} {v:Value}
 (h:Calls P f args (w.drewN n) fun e w'=>e=.returned v/\w.drewN n=w'):Calls P f args (w.drewN n) fun e w''=>e=.returned v/\∃ m,w''=w.drewN m :=
 h.mono fun _ _ ⟨he,hm⟩=>⟨he,n,hm.symm⟩
def aW (l:List Int):Array Value:=(l.map (Value.int .i64)).toArray
theorem ns (l:List Int) (k:Nat) (h:k<l.length):(aW l)[k]?=some (.int .i64 (l[k]?.getD 0)):=by simp [aW,h]
theorem lZ (l:List Int) (k:Nat) (x:Int):(aW l).setIfInBounds k (.int .i64 x)=aW (l.set k x):=by simp [aW]
def Row (w:World) (b:Nat) (t:TypeId) (l:List Int):Prop:=w.heap[b]?=some (.cells (aW l) t (0,0))
theorem Row.cell {w:World} {b:Nat} {t:TypeId} {l:List Int} (h:Row w b t l) {k:Nat} (hk:k<l.length):w.cell? ⟨b,k,none⟩=some (.int .i64 (l[k]?.getD 0)):=by
 rw [cell_of_row w b k _ t _ h,ns l k hk]
theorem Row.free {w:World} {b:Nat} {t:TypeId} {l:List Int} (h:Row w b t l) (k:Nat):w.frozen? ⟨b,k,none⟩=false:=frozen_of_row w b k _ t h
theorem Row.lt {w:World} {b:Nat} {t:TypeId} {l:List Int} (h:Row w b t l):b<w.heap.size:=lt_of_block h
theorem Row.set {w:World} {b:Nat} {t:TypeId} {l:List Int} (h:Row w b t l) (k:Nat) (x:Int):Row (w.setCell ⟨b,k,none⟩ (.int .i64 x)) b t (l.set k x):=by
 have:=heap_setCell_same w b k _ t (.int .i64 x) h;rw [lZ] at this;exact this
theorem Row.ext {w w':World} {b:Nat} {t:TypeId} {l:List Int} (h:Row w b t l) (hx:Ext w w'):Row w' b t l:=(hx.block b h.lt).trans h
theorem Row.ints {w:World} {b:Nat} {t:TypeId} {l:List Int} (h:Row w b t l) {n cap:Nat} (hn:l.length=n) (hc:n<=cap) (hm:cap<=9223372036854775807):Ints w (some ⟨b,0,none⟩) n cap l :=
 ⟨hn,hc,hm,fun _ _=>⟨b,0,rfl,fun k hk=>by rw [Nat.zero_add];exact h.cell (by omega)⟩⟩
def VRow (w:World) (b:Nat) (t:TypeId) (vs:List Value):Prop:=w.heap[b]?=some (.cells vs.toArray t (0,0))
theorem aj (w:World) (o:Obj) (n:Nat) (h:n=w.heap.size):(w.alloc o).heap[n]?=some o:=by rw [h];exact heap_alloc_new w o
theorem bz (w:World) (o:Obj) (n:Nat) (h:n<w.heap.size):(w.alloc o).heap[n]?=w.heap[n]?:=by rw [World.alloc,Array.getElem?_push,if_neg (by omega)]
theorem cw {l:List Int} {k:Nat} (h:k<l.length):l.take (k+1)=l.take k++[l[k]?.getD 0]:=by
 rw [List.take_succ_eq_append_getElem h];simp [h]
def inB (n lo hi:Int):Bool:=decide (lo<=n)&&decide (n<=hi)
theorem gA {α:Type} {xs:List α} {i:Nat}:xs.toArray[i]?=xs[i]?:=List.getElem?_toArray
theorem gB {α:Type} {a:α} {l:List α} {i:Nat}:(a :: l)[i+1]?=l[i]?:=List.getElem?_cons_succ
theorem gC {α:Type} {a:α} {l:List α}:(a :: l)[0]?=some a:=List.getElem?_cons_zero
theorem sA {α:Type} {xs:List α} {i:Nat} {a:α}:xs.toArray.setIfInBounds i a=(xs.set i a).toArray:=List.setIfInBounds_toArray xs i a
theorem sB {α:Type} {x:α} {xs:List α} {a:α}:(x :: xs).set 0 a=a :: xs:=List.set_cons_zero
theorem sC {α:Type} {x:α} {xs:List α} {i:Nat} {a:α}:(x :: xs).set (i+1) a=x :: xs.set i a:=List.set_cons_succ
section
variable {P:Program} {md:Region.Mode} {ops:Array Oper} {Q:Exit->Act->World->Prop} {S:World->Prop} {fuel:Nat} {listed:Array Bool} {a:Act} {w:World}
theorem tk (i:Nat) {oi:Oper} {v:Value} {l':Array Bool} {a':Act} (h:wpAnyH P md ops Q S fuel l' a' w) (hi:ops[i]?=some oi:=by simp only [gA,gB,gC];rfl) (hs:Region.noSelect ops=true:=by kernel_rfl)
 (hf:Region.free md ops listed i=true:=by kernel_rfl) (hr:(Region.ready md ops listed).contains i=true:=by kernel_rfl) (hQ:∀ c a w,Q (.panic c) (a.put oi.dst v) w->Q (.panic c) a w:=by exact fun _ _ _ h=>h)
 (hy:YieldsIf P ops S oi v a:=by (refine Or.inl ⟨by rfl,?_⟩;intro w hSw;(try dsimp only at hSw);go_simp;(try with_reducible rfl))) (hS:S w:=by assumption)
 (hl:listed.setIfInBounds i true=l':=by (try simp only [sA,sB,sC]);rfl) (ha:a.put oi.dst v=a':=by (try simp only [Act.put,sA,sB,sC]);rfl):wpAnyH P md ops Q S (fuel+1) listed a w:=by subst hl ha;exact wpAnyH_take hi hs hf hr hQ hy hS h
theorem sk (i:Nat) {oi:Oper} {l':Array Bool} {a':Act} (h:wpAnyH P md ops Q S fuel l' a' w) (hi:ops[i]?=some oi:=by simp only [gA,gB,gC];rfl) (hs:Region.noSelect ops=true:=by kernel_rfl)
 (hf:Region.free md ops listed i=true:=by kernel_rfl) (hr:(Region.ready md ops listed).contains i=true:=by kernel_rfl) (hQ:∀ c a w,Q (.panic c) (a.put oi.dst undef) w->Q (.panic c) a w:=by exact fun _ _ _ h=>h)
 (hy:YieldsIf P ops S oi undef a:=by exact Or.inr ⟨by rfl,rfl⟩) (hS:S w:=by assumption)
 (hl:listed.setIfInBounds i true=l':=by (try simp only [sA,sB,sC]);rfl) (ha:a.put oi.dst undef=a':=by (try simp only [Act.put,sA,sB,sC]);rfl):wpAnyH P md ops Q S (fuel+1) listed a w:=by subst hl ha;exact wpAnyH_take hi hs hf hr hQ hy hS h
theorem rd {i:Nat} {o:Oper} (hr:Region.ready md ops listed=[i]:=by kernel_rfl) (ho:ops[i]?=some o:=by simp only [gA,gB,gC];rfl)
 (h:∀ K':Act->World->Prop,Shut (∀ a w,S w->(S w->wpAnyH P md ops Q S fuel (listed.setIfInBounds i true) a w)->K' a w)->if Region.wanted o (yielded ops a.tmps)=true then Oper.wp P o a w K' Q else K' (a.put o.dst undef) w) :
 wpAnyH P md ops Q S (fuel+1) listed a w:=wpAnyH_ready hr (by simp) (AllReadyH.cons ho h AllReadyH.nil)
end
end Go.Proofs.YthjjfkeacobikaaGreat
namespace Go.Proofs.YthjjfkeacobikaaGreat
open Go.RowKit
set_option maxHeartbeats 400000 in
theorem aU (n lo hi:Int) (w:World) :
 Calls Tryz.prog 80 #[.int .i64 n,.int .i64 lo,.int .i64 hi] w fun e w'=>e=.returned (.bool (inB n lo hi))/\w=w':=by
 go_enter Tryz.func80,Tryz.ntmps80
 go_wp2
 all_goals go_ret;refine ⟨?_,rfl⟩;simp [inB, *]
 intro h;omega
set_option maxHeartbeats 400000 in
theorem bv (n lo hi:Int) (w:World) :
 Calls Tryz.prog 95 #[.int .i64 n,.int .i64 lo,.int .i64 hi] w fun e w'=>e=.returned (.bool (inB n lo hi))/\w=w':=by
 go_enter Tryz.func95,Tryz.ntmps95
 go_wp2
 all_goals go_ret;refine ⟨?_,rfl⟩;simp [inB, *]
 intro h;omega
theorem nw {p:Int->Bool} {l:List Int} (h:l.all p=true) {k:Nat} (hk:k<l.length):p (l[k]?.getD 0)=true:=by
 have:=List.all_eq_true.1 h (l[k]) (List.getElem_mem hk);simpa [hk] using this
def Asks (P:Program) (w:World) (fid:FuncId) (ca:Array Value) (p:Int->Bool):Prop :=
 ∀ x (w1:World),Ext w w1->Calls P fid (#[.int .i64 x]++ca) w1 fun e w2=>e=.returned (.bool (p x))/\Ext w1 w2
theorem Asks.ext {P:Program} {w w':World} {fid:FuncId} {ca:Array Value} {p:Int->Bool} (h:Asks P w fid ca p) (hx:Ext w w'):Asks P w' fid ca p :=
 fun x w1 k=>h x w1 (hx.trans k)
def IsGo (P:Program) (fid:FuncId):Prop:=∀ (args:Array Value) (w:World),(callFunc fid args).run P w=.ok (.enter fid args) w
theorem isGo {P : Program} {fid : FuncId} {fn : Func} (h : P.funcs[fid]? = some fn) (hn : (fn.name == "runtime.NumGoroutine") = false) (hb : fn.body.isNone = false) : IsGo P fid := by
 intro args w;have hn' : fn.name ≠ "runtime.NumGoroutine" := by simpa using hn
 simp [callFunc,h,hn'];intro hx;rw [hx] at hb;cases hb
def bT {α:Type} (p:α->Bool) (l:List α):Int:=match l.findIdx? p with|some i=>(i:Int)|none=>-1
theorem ee {α:Type} {p:α->Bool} {l:List α} {k:Nat} {d:α} (hk:k<l.length) (h0:(l.take k).all (fun x=>!p x)=true) (h1:p (l[k]?.getD d)=true):bT p l=k:=by
 have:l.findIdx? p=some k:=by
  rw [List.findIdx?_eq_some_iff_getElem];refine ⟨hk,by simpa [hk] using h1,fun j hj=>?_⟩;have:=List.all_eq_true.1 h0 (l[j]) (by rw [List.mem_take_iff_getElem];exact ⟨j,by omega,rfl⟩)
  simpa using this
 simp [bT,this]
theorem dw {α:Type} {p:α->Bool} {l:List α} (h0:l.all (fun x=>!p x)=true):bT p l=-1:=by
 have:l.findIdx? p=none:=by
  rw [List.findIdx?_eq_none_iff];intro x hx;have:=List.all_eq_true.1 h0 x hx
  simpa using this
 simp [bT,this]
theorem fs {α:Type} (p:α->Bool) (l:List α):decide (0<=bT p l)=l.any p:=by
 by_cases h:l.any p=true
 ·rw [h];unfold bT;cases hf:l.findIdx? p with
  | some i=>simp
  | none =>
    rw [List.findIdx?_eq_none_iff] at hf;obtain ⟨x,hx,hp⟩:=List.any_eq_true.1 h;rw [hf x hx] at hp;cases hp
 ·rw [dw (by simpa using h)];simp only [Bool.not_eq_true] at h;rw [h];rfl
set_option maxHeartbeats 400000 in
theorem gM {w:World} {a:Option Addr} {n cap:Nat} {l:List Int} {fid:FuncId} {ca:Array Value} {p:Int->Bool} (h:Ints w a n cap l) (hg:IsGo Tryz.prog fid) (hf:Asks Tryz.prog w fid ca p) :
 Calls Tryz.prog 158 #[.slice a n cap,.func (.func fid) #[] ca] w fun e w'=>e=.returned (.int .i64 (bT p l))/\Ext w w':=by
 have hn:=h.hcap;have hm:=h.hmax;have hcf:∀ (args:Array Value) (w:World),(callFunc fid args).run Tryz.prog w=.ok (.enter fid args) w:=hg;go_enter Tryz.func158,Tryz.ntmps158
 go_wp2
 go_loopw [8] (fun i wr=>∃ k:Nat,k<=n/\i=.int .i64 k/\(l.take k).all (fun x=>!p x)=true/\Ext w wr) (fun i _=>n-(intOf i).toNat)
 case atStart=>exact ⟨0,Nat.zero_le _,rfl,rfl,Ext.refl _⟩
 case round =>
  obtain ⟨k,hk,rfl,hall,hx⟩:=hrel;have HA:=ae hall;clear hall;by_cases hlt:k<n
  ·have h':=h.ext hx;obtain ⟨b,off,rfl,hc⟩:=h'.at hlt;have HL:=ae h.hlen;have HF:=ae (hf (l[k]?.getD 0) wr hx);by_cases hb:p (l[k]?.getD 0)=true
   ·have HB:=ae hb;go_wp2_with fail;refine HF.out.mono ?_;rintro e w2 ⟨rfl,hx2⟩
    go_wp2
    go_ret;exact ⟨aM (ee (by have:=HL.out;omega) HA.out HB.out).symm,hx.trans (by assumption)⟩
   ·have HB:=ae hb;simp only [Bool.not_eq_true] at hb;go_wp2_with fail;refine HF.out.mono ?_;rintro e w2 ⟨rfl,hx2⟩
    go_wp2
    go_roundw
    case rel=>exact ⟨k+1,by omega,by go_num,by rw [cw (by have:=HL.out;omega),List.all_append,HA.out];simpa using HB.out,hx.trans (by assumption)⟩
    case measure=>simp [intOf];omega
  ·have HL:=ae h.hlen
   go_wp2
   go_ret;refine ⟨aM ?_,hx⟩;have:=HA.out;rw [List.take_of_length_le (by have:=HL.out;omega)] at this;exact (dw this).symm
set_option maxHeartbeats 400000 in
theorem dL {w:World} {a:Option Addr} {n cap:Nat} {l:List Int} {fid:FuncId} {ca:Array Value} {p:Int->Bool} (h:Ints w a n cap l) (hg:IsGo Tryz.prog fid) (hf:Asks Tryz.prog w fid ca p) :
 Calls Tryz.prog 81 #[.slice a n cap,.func (.func fid) #[] ca] w fun e w'=>e=.returned (.bool (l.any p))/\Ext w w':=by
 have HC:=ae (gM h hg hf);go_enter Tryz.func81,Tryz.ntmps81
 go_wp2_with fail;refine HC.out.mono ?_;rintro e w2 ⟨rfl,hx2⟩
 go_wp2
 all_goals go_ret;refine ⟨ag ?_,hx2⟩;rw [<-fs]
theorem Tryz.infoInt:(Tryz.prog.info? 3).map (fun i=>(i.zero,i.size,i.bytes))=some (some (.int .i64 0),1,8):=by kernel_rfl
theorem gN (n:Nat) (hn:n<=1099511627776) (w:World) :
 (Instr.makeSlice 24 (.int .i64 (n:Int)) (.int .i64 (n:Int))).run Tryz.prog w=.ok (.slice (some ⟨w.heap.size,0,none⟩) n n) (w.alloc (.cells (aW (List.replicate n 0)) 3)):=by
 obtain ⟨i,hi,hz0,hz1,hz2⟩:=info_parts Tryz.infoInt;have hr:=run_make (P:=Tryz.prog) w 24 3 i (.int .i64 0) Tryz.underlying24 hi hz0 .i64 .i64 n n (by omega) (Int.le_refl _) (by rw [hz2];omega) (by omega);simp only [Int.toNat_natCast] at hr;rw [hr,hz1];have:madeCells (Value.int .i64 0).cells (n*1)=aW (List.replicate n 0):=by
  apply Array.toList_inj.1
  show (madeCells #[Value.int .i64 0] (n*1)).toList=_;rw [toList_madeCells_one];simp [aW]
 rw [this]
abbrev pair (x:Int) (a:Option Addr) (n cap:Nat):Value:=.agg #[.int .i64 x,.slice a n cap]
end Go.Proofs.YthjjfkeacobikaaGreat
