import Derived.Test.YtdadoignenffgaaGreatDoorSvAllG0
set_option linter.unusedVariables false
set_option linter.unusedSimpArgs false
namespace Go.Proofs.YtdadoignenffgaaGreatDoor
variable{l:j7}{w:World}{fid:FuncId}{ca:Array Value}{α:Type}
set_option maxHeartbeats 16000000
open Go.RowKit
theorem ae{P:Prop}(h:P):b7 P:=h
theorem aJ(n lo hi:Int)(w:World):
 Calls Tryz.prog 61 #[.int .i64 n,.int .i64 lo,.int .i64 hi] w fun e w'=>e=.returned (.bool (r' n lo hi))/\w=w':=by
 go_enter Tryz.func61,Tryz.ntmps61
 go_wp2
 all_goals go_ret;refine⟨?_,rfl⟩;simp[r', *]
 intro h;omega
theorem bm(n lo hi:Int)(w:World):
 Calls Tryz.prog 45 #[.int .i64 n,.int .i64 lo,.int .i64 hi] w fun e w'=>e=.returned (.bool (r' n lo hi))/\w=w':=by
 go_enter Tryz.func45,Tryz.ntmps45
 go_wp2
 all_goals go_ret;refine⟨?_,rfl⟩;simp[r', *]
 intro h;omega
theorem qW{p:Int->Bool}(h:l.all p=true){k:Nat}(hk:k<l.length):p (l[k]?.getD 0)=true:=by
 have:=List.all_eq_true.1 h (l[k]) (List.getElem_mem hk);simpa[hk]using this
def Eo(P:Program)(w:World)(fid:FuncId)(ca:Array Value)(p:Int->Bool):Prop :=
 ∀x (w1:World),Ext w w1->Calls P fid (#[.int .i64 x]++ca) w1 fun e w2=>e=.returned (.bool (p x))/\Ext w1 w2
theorem Eo.ext{P:Program}{w':World}{p:Int->Bool}(h:Eo P w fid ca p)(hx:Ext w w'):Eo P w' fid ca p :=
 fun x w1 k=>h x w1 (hx.trans k)
def IsGo(P:Program)(fid:FuncId):Prop:=∀(args:Array Value) (w:World),(callFunc fid args).run P w=.ok (.enter fid args) w
theorem isGo {P: Program}{fid: FuncId}{fn: Func}(h : P.funcs[fid]? = some fn)(hn : (fn.name == "runtime.NumGoroutine") = false)(hb : fn.body.isNone = false) : IsGo P fid := by
 intro args w;have hn' : fn.name ≠ "runtime.NumGoroutine" := by simpa using hn
 simp[callFunc,h,hn'];intro hx;rw[hx]at hb;cases hb
def bX{α:Type}(p:α->Bool)(l:List α):Int:=match l.findIdx? p with|some i=>(i:Int)|none=>-1
theorem eH{p:α->Bool}{l:List α}{k:Nat}{d:α}(hk:k<l.length)(h0:(l.take k).all (fun x=>!p x)=true)(h1:p (l[k]?.getD d)=true):bX p l=k:=by
 have:l.findIdx? p=some k:=by
  rw[List.findIdx?_eq_some_iff_getElem];refine⟨hk,by simpa[hk]using h1,fun j hj=>?_⟩;have:=List.all_eq_true.1 h0 (l[j]) (by rw[List.mem_take_iff_getElem];exact⟨j,by omega,rfl⟩)
  simpa using this
 simp[bX,this]
theorem dL{p:α->Bool}{l:List α}(h0:l.all (fun x=>!p x)=true):bX p l=-1:=by
 have:l.findIdx? p=none:=by
  rw[List.findIdx?_eq_none_iff];intro x hx;have:=List.all_eq_true.1 h0 x hx
  simpa using this
 simp[bX,this]
theorem gh(p:α->Bool)(l:List α):decide (0<=bX p l)=l.any p:=by
 by_cases h:l.any p=true
 ·rw[h];unfold bX;cases hf:l.findIdx? p with
  | some i=>simp
  | none =>
    rw[List.findIdx?_eq_none_iff]at hf;obtain⟨x,hx,hp⟩:=List.any_eq_true.1 h;rw[hf x hx]at hp;cases hp
 ·rw[dL (by simpa using h)];simp only[Bool.not_eq_true]at h;rw[h];rfl
theorem iz{a:j6}{n cap:Nat}{p:Int->Bool}(h:Ints w a n cap l)(hg:IsGo Tryz.prog fid)(hf:Eo Tryz.prog w fid ca p):
 Calls Tryz.prog 185 #[.slice a n cap,.func (.func fid) #[] ca] w fun e w'=>e=.returned (.int .i64 (bX p l))/\Ext w w':=by
 have hn:=h.l8;have hm:=h.o0;have RP:∀(args:Array Value) (w:World),(callFunc fid args).run Tryz.prog w=.ok (.enter fid args) w:=hg;go_enter Tryz.func185,Tryz.ntmps185
 go_wp2
 go_loopw [8] (fun i wr=>∃k:Nat,k<=n/\i=.int .i64 k/\(l.take k).all (fun x=>!p x)=true/\Ext w wr) (fun i _=>n-(intOf i).toNat)
 case atStart=>exact⟨0,Nat.zero_le _,rfl,rfl,Ext.refl _⟩
 case round =>
  obtain⟨k,hk,rfl,zF,hx⟩:=hrel;have HA:=ae zF;clear zF;by_cases hlt:k<n
  ·have h':=h.ext hx;obtain⟨b,off,rfl,hc⟩:=h'.at hlt;have HL:=ae h.hlen;have HF:=ae (hf (l[k]?.getD 0) wr hx);by_cases hb:p (l[k]?.getD 0)=true
   ·have HB:=ae hb;go_wp2_with fail;refine HF.o.mono ?_;rintro e w2 ⟨rfl,vL⟩
    go_wp2
    go_ret;exact⟨aD (eH (j1 HL.o) HA.o HB.o).symm,hx.trans (by assumption)⟩
   ·have HB:=ae hb;simp only[Bool.not_eq_true]at hb;go_wp2_with fail;refine HF.o.mono ?_;rintro e w2 ⟨rfl,vL⟩
    go_wp2
    go_roundw
    case rel=>exact⟨k+1,by omega,by go_num,by rw[cH (j1 HL.o),List.all_append,HA.o];simpa using HB.o,hx.trans (by assumption)⟩
    case measure=>simp[intOf];omega
  ·have HL:=ae h.hlen
   go_wp2
   go_ret;refine⟨aD ?_,hx⟩;have:=HA.o;rw[List.take_of_length_le (j1 HL.o)]at this;exact(dL this).symm
theorem ei{a:j6}{n cap:Nat}{p:Int->Bool}(h:Ints w a n cap l)(hg:IsGo Tryz.prog fid)(hf:Eo Tryz.prog w fid ca p):
 Calls Tryz.prog 120 #[.slice a n cap,.func (.func fid) #[] ca] w fun e w'=>e=.returned (.bool (l.any p))/\Ext w w':=by
 have HC:=ae (iz h hg hf);go_enter Tryz.func120,Tryz.ntmps120
 go_wp2_with fail;refine HC.o.mono ?_;rintro e w2 ⟨rfl,vL⟩
 go_wp2
 all_goals go_ret;refine⟨ai ?_,vL⟩;rw[<-gh]
theorem Tryz.Gu:(Tryz.prog.info? 3).map (fun i=>(i.zero,i.size,i.bytes))=some (some (.int .i64 0),1,8):=by kernel_rfl
theorem gH(n:Nat)(hn:n<=1099511627776)(w:World):
 (Instr.makeSlice 30 (.int .i64 (n:Int)) (.int .i64 (n:Int))).run Tryz.prog w=.ok (.slice (some ⟨w.heap.size,0,none⟩) n n) (w.alloc (.cells (bh (List.replicate n 0)) 3)):=by
 obtain⟨i,hi,E,G,A4⟩:=info_parts Tryz.Gu;have hr:=run_make (P:=Tryz.prog) w 30 3 i (.int .i64 0) Tryz.underlying30 hi E .i64 .i64 n n e7 (Int.le_refl _) (by rw[A4];omega) e7;simp only[Int.toNat_natCast]at hr;rw[hr,G];have:madeCells (Value.int .i64 0).cells (n*1)=bh (List.replicate n 0):=by
  apply Array.toList_inj.1
  show(madeCells #[Value.int .i64 0] (n*1)).toList=_;rw[toList_madeCells_one];simp[bh]
 rw[this]
abbrev pair(x:Int)(a:j6)(n cap:Nat):Value:=.agg #[.int .i64 x,.slice a n cap]
def bit(s:Int)(k:Nat):Bool:=decide (s/2^k % 2=1)
def yq(s k:Int):Bool:=decide (0<=s)&&(r' k 0 4&&bit s k.toNat)
def Ae(n:Int):Int:=if r' n 0 5 then 2^n.toNat else 0
theorem NH(a b:Nat)(ha:a<9223372036854775808)(hb:b<9223372036854775808):bits .and .i64 (a:Int) (b:Int)=((a &&& b:Nat):Int):=by
 have hx:a &&& b<2^63:=Nat.and_lt_two_pow _ e7;have h1:(BitVec.ofInt 64 (a:Int)).toNat=a:=by rw[BitVec.ofInt_natCast,BitVec.toNat_ofNat];exact Nat.mod_eq_of_lt e7
 have h2:(BitVec.ofInt 64 (b:Int)).toNat=b:=by rw[BitVec.ofInt_natCast,BitVec.toNat_ofNat];exact Nat.mod_eq_of_lt e7
 show IntKind.i64.wrap ((BitVec.ofInt 64 (a:Int) &&& BitVec.ofInt 64 (b:Int)).toNat:Int)=_;rw[BitVec.toNat_and,h1,h2,IntKind.wrap_i64];omega
theorem Pu(a b:Nat)(ha:a<9223372036854775808)(hb:b<9223372036854775808):bits .or .i64 (a:Int) (b:Int)=((a ||| b:Nat):Int):=by
 have hx:a ||| b<2^63:=Nat.or_lt_two_pow e7 e7
 have h1:(BitVec.ofInt 64 (a:Int)).toNat=a:=by rw[BitVec.ofInt_natCast,BitVec.toNat_ofNat];exact Nat.mod_eq_of_lt e7
 have h2:(BitVec.ofInt 64 (b:Int)).toNat=b:=by rw[BitVec.ofInt_natCast,BitVec.toNat_ofNat];exact Nat.mod_eq_of_lt e7
 show IntKind.i64.wrap ((BitVec.ofInt 64 (a:Int) ||| BitVec.ofInt 64 (b:Int)).toNat:Int)=_;rw[BitVec.toNat_or,h1,h2,IntKind.wrap_i64];omega
theorem qX(x:Int)(h:0<=x)(h':x<=9223372036854775807):bits BinOp.and IntKind.i64 x 1=x % 2:=by
 obtain⟨n,rfl⟩:∃n:Nat,x=n:=⟨x.toNat,by omega⟩;have:=NH n 1 e7 e7;rw[Nat.and_one_is_mod]at this;have h2:((n % 2:Nat):Int)=(n:Int) % 2:=by omega
 exact this.trans h2
theorem eR(k:Nat):(1:Int)<=2^k:=by
 have:(0:Int)<2^k:=Int.pow_pos (by decide);omega
theorem fz(k:Nat)(h:k<=5):(2:Int)^k<=32:=by
 have:k=0∨k=1∨k=2∨k=3∨k=4∨k=5:=by omega
 rcases this with rfl|rfl|rfl|rfl|rfl|rfl<;>decide
theorem ms(s:Int)(k:Nat)(h:0<=s):0<=s/2^k/\s/2^k<=s:=by
 have:=eR k;exact⟨Int.ediv_nonneg h e7,Int.ediv_le_self _ h⟩
theorem oC(s:Int)(k:Nat)(h:0<=s)(h':s<=9223372036854775807):(bits BinOp.and IntKind.i64 (s/2^k) 1 == 1)=bit s k:=by
 have:=ms s k h;rw[qX _ this.1 e7];unfold bit;rw[Bool.eq_iff_iff];simp
theorem qt(k:Nat)(h:k<=5):wrap64 ((2:Int)^k)=2^k:=by
 have:=eR k;have:=fz k h;unfold wrap64;omega
theorem fH(s k:Int)(w:World)(h':s<=9223372036854775807):
 Calls Tryz.prog 133 #[.int .i64 s,.int .i64 k] w fun e w'=>e=.returned (.bool (yq s k))/\w=w':=by
 by_cases hs:0<=s
 ·cases hk:r' k 0 4
  ·go_enter Tryz.func133,Tryz.ntmps133
   go_wp2_with (first|(go_at_call 61;refine(aJ _ _ _ _).mono ?_;rintro e w' ⟨rfl,rfl⟩));go_ret;exact⟨ai (by unfold yq;rw[hk];simp),rfl⟩
  ·obtain⟨n,rfl⟩:∃n:Nat,k=n:=⟨k.toNat,by unfold r' at hk;simp at hk;omega⟩;have hn:n<=4:=by unfold r' at hk;simp at hk;omega
   have hb:=oC s n hs h';go_enter Tryz.func133,Tryz.ntmps133
   go_wp2_with (first|(go_at_call 61;refine(aJ _ _ _ _).mono ?_;rintro e w' ⟨rfl,rfl⟩));go_ret;exact⟨ai (by unfold yq;rw[hk];simp[hs]),rfl⟩
 ·go_enter Tryz.func133,Tryz.ntmps133
  go_wp2_with fail;go_ret;exact⟨ai (by unfold yq;rw[decide_eq_false e7];rfl),rfl⟩
theorem dK(n:Int)(w:World):Calls Tryz.prog 99 #[.int .i64 n] w fun e w'=>e=.returned (.int .i64 (Ae n))/\w=w':=by
 cases hk:r' n 0 5
 ·go_enter Tryz.func99,Tryz.ntmps99
  go_wp2_with (first|(go_at_call 45;refine(bm _ _ _ _).mono ?_;rintro e w' ⟨rfl,rfl⟩));go_ret;exact⟨aD (by unfold Ae;rw[hk];rfl),rfl⟩
 ·obtain⟨m,rfl⟩:∃k:Nat,n=k:=⟨n.toNat,by unfold r' at hk;simp at hk;omega⟩;have hn:m<=5:=by unfold r' at hk;simp at hk;omega
  go_enter Tryz.func99,Tryz.ntmps99
  go_wp2_with (first|(go_at_call 45;refine(bm _ _ _ _).mono ?_;rintro e w' ⟨rfl,rfl⟩))
  go_loop [3,4] (fun s i=>∃(k:Nat) (z:Int),k<=m/\i=.int .i64 k/\s=.int .i64 z/\0<=z/\z<=32/\b7 (z=2^k)) (fun _ i=>m-(intOf i).toNat)
  case atStart=>exact⟨0,1,Nat.zero_le _,rfl,rfl,by omega,by omega,ae e8⟩
  case round =>
   obtain⟨k,z,yV,rfl,rfl,xr,Cm,HZ⟩:=hrel;by_cases hlt:k<m
   ·go_wp2
    go_round
    case rel =>
     refine⟨k+1,z*2,by omega,by go_num,rfl,by omega,?_,ae (by rw[HZ.o,Int.pow_succ])⟩;have:=fz (k+1) e7;rw[Int.pow_succ,<-HZ.o]at this;exact this
    case measure=>simp[intOf];omega
   ·go_wp2
    go_ret;have E:k=m:=by omega
    subst E;exact⟨aD (by unfold Ae;rw[hk];simpa using HZ.o),rfl⟩
theorem KT(k:Int)(h:r' k 0 4=true):Ae k=2^k.toNat:=by
 unfold Ae;rw[if_pos];unfold r' at *;simp at *;omega
theorem rI(n:Int)(w:World):Calls Tryz.prog 43 #[.int .i64 n] w fun e w'=>e=.returned (.int .i64 (Ae n))/\w=w':=by
 go_enter Tryz.func43,Tryz.ntmps43
 go_wp2_with (first|(go_at_call 99;refine(dK _ _).mono ?_;rintro e w' ⟨rfl,rfl⟩));go_ret;exact⟨rfl,rfl⟩
theorem eg(s k:Int)(w:World)(h':s<=9223372036854775807):
 Calls Tryz.prog 40 #[.int .i64 s,.int .i64 k] w fun e w'=>e=.returned (.bool (yq s k))/\w=w':=by
 cases hk:r' k 0 4
 ·go_enter Tryz.func40,Tryz.ntmps40
  go_wp2_with (first|(go_at_call 45;refine(bm _ _ _ _).mono ?_;rintro e w' ⟨rfl,rfl⟩));go_ret;exact⟨ai (by unfold yq;rw[hk];simp),rfl⟩
 ·by_cases hs:0<=s
  ·obtain⟨n,rfl⟩:∃n:Nat,k=n:=⟨k.toNat,by unfold r' at hk;simp at hk;omega⟩;have hn:n<=4:=by unfold r' at hk;simp at hk;omega
   have hc:Ae (n:Int)=2^n:=by rw[KT _ hk];simp
   have hp:=eR n;have hd:=ms s n hs;have D1:=hd.1;have hne:((2:Int)^n == 0)=false:=by simp;omega
   have HB:=ae (show(s/2^n % 2 == 1)=bit s n by unfold bit;rw[Bool.eq_iff_iff];simp);have HD:=ae hd;clear hd;go_enter Tryz.func40,Tryz.ntmps40
   go_wp2_with (first|(go_at_call 45;refine(bm _ _ _ _).mono ?_;rintro e w' ⟨rfl,rfl⟩)|(go_at_call 43;refine(rI _ _).mono ?_;rintro e w' ⟨rfl,rfl⟩));go_ret;exact⟨ai (by rw[HB.o];unfold yq;rw[hk];simp[hs]),rfl⟩
  ·go_enter Tryz.func40,Tryz.ntmps40
   go_wp2_with (first|(go_at_call 45;refine(bm _ _ _ _).mono ?_;rintro e w' ⟨rfl,rfl⟩));go_ret;exact⟨ai (by unfold yq;rw[decide_eq_false e7];rfl),rfl⟩
def vX(b:Bool):Int:=if b then 1 else 0
theorem fD(b:Bool)(w:World):Calls Tryz.prog 104 #[.bool b] w fun e w'=>e=.returned (.int .i64 (vX b))/\w=w':=by
 cases b
 all_goals
  go_enter Tryz.func104,Tryz.ntmps104
  go_wp2
  go_ret;exact⟨rfl,rfl⟩
theorem gR(s:Int)(k:Nat)(h:0<=s)(hk:k<=4):yq s (k:Int)=bit s k:=by
 unfold yq r';rw[decide_eq_true h,decide_eq_true e7,decide_eq_true e7];simp
def cN(n:Nat):Nat:=2^n
theorem gK(n:Nat):(cN n:Int)=2^n:=by unfold cN;simp
theorem cW(n:Nat)(h:n<=5):1<=cN n/\cN n<=32:=by
 have h1:=eR n;have h2:=fz n h;rw[<-gK]at h1 h2;omega
theorem iH(n:Nat)(h:n<=5):Ae (n:Int)=(cN n:Int):=by
 unfold Ae;rw[if_pos (by unfold r';simp;omega),gK];simp
theorem I7(n:Nat)(h:n<=5)(w:World):Calls Tryz.prog 99 #[.int .i64 (n:Int)] w fun e w'=>e=.returned (.int .i64 (cN n:Int))/\w=w':=by
 have:=dK n w
 rwa [iH n h]at this
end Go.Proofs.YtdadoignenffgaaGreatDoor
