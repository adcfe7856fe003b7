import Derived.Test.YthjjfkeacobikaaGreatPuAllG27
import Derived.Test.YthjjfkeacobikaaGreatPuAllG43
import Derived.Test.YthjjfkeacobikaaGreatPuAllG7
import Derived.Lib.SliceRun
import Derived.Test.YthjjfkeacobikaaGreatPuAllG5
import Derived.Test.YthjjfkeacobikaaGreatPuAllG19
import Derived.Test.YthjjfkeacobikaaGreatPuAllG12
import Derived.Test.YthjjfkeacobikaaGreatPuAllG4
import Derived.Test.YthjjfkeacobikaaGreatPuAllG18
import Derived.StillTailTactics
import Derived.Test.YthjjfkeacobikaaGreatPuAllG21
import Derived.Test.YthjjfkeacobikaaGreatPuAllG6
set_option linter.unusedVariables false
set_option linter.unusedSimpArgs false
namespace Go.Proofs.YthjjfkeacobikaaGreat
set_option maxRecDepth 100000
open Go.RowKit
structure Kept (p:Int->Bool) (l M:List Int) (i j:Nat):Prop where
 len:M.length=l.length
 le:i<=j
 jl:j<=l.length
 lo:M.take i=(l.take j).filter fun x=>!p x
 hi:∀ k,j<=k->M[k]?.getD 0=l[k]?.getD 0
theorem Kept.drop {p:Int->Bool} {l M:List Int} {i j:Nat} (h:Kept p l M i j) (hj:j<l.length) (hp:p (l[j]?.getD 0)=true):Kept p l M i (j+1) :=
 ⟨h.len,by have:=h.le;omega,by omega,by rw [cw hj,List.filter_append,<-h.lo];simp [hp],fun k hk=>h.hi k (by omega)⟩
theorem Kept.keep {p:Int->Bool} {l M:List Int} {i j:Nat} (h:Kept p l M i j) (hj:j<l.length) (hp:p (l[j]?.getD 0)=false):Kept p l (M.set i (l[j]?.getD 0)) (i+1) (j+1):=by
 have hi:i<M.length:=by have:=h.le;have:=h.len;omega
 refine ⟨by rw [List.length_set];exact h.len,by have:=h.le;omega,by omega,?_,fun k hk=>?_⟩
 ·rw [cw hj,List.filter_append,<-h.lo,List.take_succ_eq_append_getElem (by rw [List.length_set];exact hi),List.take_set_of_le (Nat.le_refl _),List.getElem_set_self];simp [hp]
 ·have:=h.le;rw [List.getElem?_set_ne (by omega)];exact h.hi k (by omega)
theorem Kept.start {p:Int->Bool} {l:List Int} {i:Nat} (hi:i<l.length) (ha:(l.take i).all (fun x=>!p x)=true) (hp:p (l[i]?.getD 0)=true):Kept p l l i (i+1):=by
 refine ⟨rfl,by omega,by omega,?_,fun _ _=>rfl⟩;rw [cw hi,List.filter_append];have:(l.take i).filter (fun x=>!p x)=l.take i:=List.filter_eq_self.2 fun x hx=>List.all_eq_true.1 ha x hx
 rw [this];simp [hp]
theorem OwnI.zeros {base g n cap:Nat}:∀ (m:Nat) {o:Nat} {w:World} {M:List Int},OwnI w base (.slice (some ⟨g,0,none⟩) n cap) M->∃ M',OwnI (w.setCells g o (List.replicate m (.int .i64 0))) base (.slice (some ⟨g,0,none⟩) n cap) M'/\M'.take o=M.take o
 | 0,_,_,M,h=>⟨M,h,rfl⟩
 | m+1,o,w,M,h=>by
   obtain ⟨M',h1,h2⟩:=OwnI.zeros m (o:=o+1) (h.set o 0);refine ⟨M',h1,?_⟩;have h3:=congrArg (List.take o) h2;rw [List.take_take,List.take_take,Nat.min_eq_left (by omega)] at h3;rw [h3,List.take_set_of_le (Nat.le_refl _)]
theorem OwnI.takeO {w:World} {base g n cap:Nat} {M:List Int} (h:OwnI w base (.slice (some ⟨g,0,none⟩) n cap) M) {k:Nat} (hk:k<=n):OwnI w base (.slice (some ⟨g,0,none⟩) k cap) (M.take k):=by
 rcases h.2 with ⟨he,h0⟩|⟨g',cap',cur,he,hb,hg,h1,h2,hs,ht⟩
 ·cases he
 ·simp only [Value.slice.injEq,Option.some.injEq,Addr.mk.injEq,and_true] at he;obtain ⟨rfl,rfl,rfl⟩:=he;have hl:(M.take k).length=k:=by simp;omega
  refine ⟨by simp,.inr ⟨g,cap,cur,by rw [hl],hb,hg,by omega,h2,hs,?_⟩⟩;rw [hl,List.map_take,<-ht,List.take_take,Nat.mul_one,Nat.mul_one,Nat.min_eq_left hk]
theorem OwnI.outS {w:World} {base g n cap:Nat} {l:List Int} (h:OwnI w base (.slice (some ⟨g,0,none⟩) n cap) l):base<=g/\g<w.heap.size/\(∀ j,w.frozen? ⟨g,j,none⟩=false)/\∀ k,k<n->w.cell? ⟨g,k,none⟩=some (.int .i64 (l[k]?.getD 0)):=by
 rcases h.2 with ⟨he,h0⟩|⟨g',cap',cur,he,hb,hg,h1,h2,hs,ht⟩
 ·cases he
 ·have hgg:g'=g:=by simp only [Value.slice.injEq,Option.some.injEq,Addr.mk.injEq,and_true] at he;exact he.1.symm
  subst hgg;refine ⟨hb,lt_of_block hg,fun j=>frozen_of_row w g' j cur _ hg,fun k hk=>?_⟩;obtain ⟨b,off,e,hc⟩:=h.ints.at hk;simp only [Option.some.injEq,Addr.mk.injEq,and_true] at e;rw [<-e.1,<-e.2,Nat.zero_add] at hc;exact hc
theorem fY {B:Nat} {a:World} (b:Nat) (hb:B<=b):∀ (vs:List Value) (o:Nat) {w:World},Below B a w->Below B a (w.setCells b o vs)
 | [],_,_,h=>h
 | v :: r,o,w,h=>fY b hb r (o+1) (h.setCell hb v)
theorem zero_int (w:World):(zeroValue 3).run Tryz.prog w=.ok (.int .i64 0) w:=rfl
set_option maxHeartbeats 4000000 in
theorem lY {W0 w:World} {base g n cap:Nat} {l:List Int} {fid:FuncId} {ca:Array Value} {p:Int->Bool} (hX:Ext W0 w) (hb:W0.heap.size<=base) (h:OwnI w base (.slice (some ⟨g,0,none⟩) n cap) l) (hn:0<n) (hg:IsGo Tryz.prog fid) (hf:Asks Tryz.prog W0 fid ca p) :
 Calls Tryz.prog 200 #[.slice (some ⟨g,0,none⟩) n cap,.func (.func fid) #[] ca] w fun e w' =>
  (∃ m,e=.returned (.slice (some ⟨g,0,none⟩) m cap)/\OwnI w' base (.slice (some ⟨g,0,none⟩) m cap) (l.filter fun x=>!p x))/\Ext W0 w':=by
 have hcap:=h.ints.hcap;have hmax:=h.ints.hmax;have hcf:∀ (args:Array Value) (w:World),(callFunc fid args).run Tryz.prog w=.ok (.enter fid args) w:=hg;have HL:=ae h.ints.hlen;have HO:=ae h;have hbg:=h.outS.1;have HBG:=ae hbg;have HF:=ae hf;have HX:=ae hX;have HIX:=ae (gM (w:=w) h.ints hg (hf.ext hX));clear h hf hX hg hbg;by_cases hany:∃ i,l.findIdx? p=some i
 ·obtain ⟨i0,hi0⟩:=hany;have hix:bT p l=(i0:Int):=by unfold bT;rw [hi0]
  obtain ⟨hil,hip,hia⟩:=List.findIdx?_eq_some_iff_getElem.1 hi0;have hin:i0<n:=by rw [<-HL.out];exact hil
  have hall:(l.take i0).all (fun x=>!p x)=true:=by
   rw [List.all_eq_true];intro x hx;obtain ⟨j,hj,rfl⟩:=List.mem_take_iff_getElem.1 hx;have:=hia j (by omega)
   simpa using this
  have HK0:=ae (Kept.start (p:=p) hil hall (by rw [List.getElem?_eq_getElem hil];exact hip));rw [hix] at HIX;clear hix hi0 hip hia hall hil;go_enter Tryz.func200,Tryz.ntmps200
  go_wp2_with fail;refine HIX.out.mono ?_;rintro e w1 ⟨rfl,hx1⟩;have HX1:=ae (HX.out.trans hx1);have HO1:=ae (HO.out.ext hx1);have hne:((i0:Int) == -1)=false:=by simp
  clear hx1;go_wp2_with fail
  go_loopg [5,6] n (fun gk ii jj wr=>∃ (i j:Nat) (M:List Int),Hid (gk+j=n+i0+1)/\ii=.int .i64 (i:Int)/\jj=.int .i64 (j:Int)/\Hid (Kept p l M i j)/\Hid (i<j)/\Hid (OwnI wr base (.slice (some ⟨g,0,none⟩) n cap) M)/\Hid (Ext W0 wr))
  case atStart=>exact ⟨i0,i0+1,l,ae (by omega),rfl,by simp,HK0,ae (by omega),HO1,HX1⟩
  case round =>
   obtain ⟨g1,h_g1⟩:∃ x,x=gk:=⟨_,rfl⟩;subst h_g1;obtain ⟨wr1,h_wr1⟩:∃ x,x=wr:=⟨_,rfl⟩;subst h_wr1;obtain ⟨i,j,M,HJ,rfl,rfl,HK,HIJ,HM,HX2⟩:=hrel;have hij:=HIJ.out;by_cases hlt:j<n
   ·have hc:=HM.out.outS.2.2.2 j hlt;rw [HK.out.hi j (Nat.le_refl _)] at hc;obtain ⟨x,hx⟩:∃ x,x=l[j]?.getD 0:=⟨_,rfl⟩;rw [<-hx] at hc;have HXX:=ae hx;have HC:=ae (HF.out x wr1 HX2.out);have hjl:j<l.length:=by rw [HL.out];exact hlt
    clear hx;cases hpx:p x
    ·have HKN:=ae (HK.out.keep hjl (by rw [<-HXX.out];exact hpx));rw [<-HXX.out] at HKN;rw [hpx] at HC;clear hpx;go_wp2_with fail;refine HC.out.mono ?_;rintro e w2 ⟨rfl,hx2⟩;have HM2:=ae (HM.out.ext hx2);have hci:=HM2.out.outS.2.2.2 i (by omega);have hfz:=HM2.out.outS.2.2.1;have hfi:=hfz i;have HM3:=ae (HM2.out.set i x);have HX3:=ae ((HX2.out.trans hx2).store i (Nat.le_trans hb HBG.out) (.int .i64 x));clear hx2 hfz;go_wp2_with fail
     go_roundg (g1-1)
     case measure=>have:=HJ.out;omega
     case rel=>exact ⟨i+1,j+1,_,ae (by have:=HJ.out;omega),by go_num,by go_num,HKN,ae (by omega),HM3,HX3⟩
    ·have HKN:=ae (HK.out.drop hjl (by rw [<-HXX.out];exact hpx));rw [hpx] at HC;clear hpx;go_wp2_with fail;refine HC.out.mono ?_;rintro e w2 ⟨rfl,hx2⟩;have HM2:=ae (HM.out.ext hx2);have HX3:=ae (HX2.out.trans hx2);clear hx2;go_wp2_with fail
     go_roundg (g1-1)
     case measure=>have:=HJ.out;omega
     case rel=>exact ⟨i,j+1,_,ae (by have:=HJ.out;omega),rfl,by go_num,HKN,ae (by omega),HM2,HX3⟩
   ·have hjn:j=n:=by have:=HK.out.jl;have:=HL.out;omega
    subst hjn;have hcl:∀ ty,(Builtin.clear_ #[24] ty #[.slice (some ⟨g,i,none⟩) (j-i) (cap-i)]).run Tryz.prog wr1=.ok (.tuple #[]) (wr1.setCells g i (List.replicate (j-i) (.int .i64 0))):=fun ty=>by
     refine Lib.run_clear_slice wr1 _ 3 ty _ Tryz.underlying24 zero_int rfl rfl g i _ _ (by omega) (fun k hk=>?_) (fun k hk=>?_)
     ·rw [HM.out.outS.2.2.2 (i+k) (by omega)];rfl
     ·exact HM.out.outS.2.2.1 _
    obtain ⟨M',hM',hMt⟩:=OwnI.zeros (w:=wr1) (j-i) (o:=i) HM.out
    have HT:=ae (show M'.take i=l.filter fun x=>!p x by
     rw [hMt,HK.out.lo,List.take_of_length_le (by rw [HL.out];exact Nat.le_refl _)])
    have HMF:=ae hM';have HXF:=ae (fY g (Nat.le_trans hb HBG.out) (List.replicate (j-i) (.int .i64 0)) i HX2.out);clear hMt hM';go_wp2_with fail;go_ret;exact ⟨⟨i,rfl,by rw [<-HT.out];exact HMF.out.takeO (by omega)⟩,HXF.out⟩
 ·have hix:bT p l=-1:=by
   unfold bT;cases hq:l.findIdx? p with
   | none=>rfl
   | some i=>exact absurd ⟨i,hq⟩ hany
  have HFI:=ae (show l.filter (fun x=>!p x)=l by
   rw [List.filter_eq_self];intro x hx;cases hq:l.findIdx? p with
   | none=>have:=List.findIdx?_eq_none_iff.1 hq x hx;simpa using this
   | some i=>exact absurd ⟨i,hq⟩ hany)
  rw [hix] at HIX;clear hix hany;go_enter Tryz.func200,Tryz.ntmps200
  go_wp2_with fail;refine HIX.out.mono ?_;rintro e w1 ⟨rfl,hx1⟩;have HX1:=ae (HX.out.trans hx1);have HO1:=ae (HO.out.ext hx1);clear hx1;go_wp2_with fail;go_ret;exact ⟨⟨n,rfl,by rw [HFI.out];exact HO1.out⟩,HX1.out⟩
def AsksX (P:Program) (w:World) (fid:FuncId) (ca:Array Value) (p:Int × Int × Int->Bool):Prop :=
 ∀ x y z (w1:World),Ext w w1->Calls P fid (#[.agg #[.int .i64 x,.int .i64 y,.int .i64 z]]++ca) w1 fun e w2=>e=.returned (.bool (p (x,y,z)))/\Ext w1 w2
set_option maxHeartbeats 1000000 in
theorem kw {w:World} {a:Option Addr} {n cap:Nat} {l:List (Int × Int × Int)} {fid:FuncId} {ca:Array Value} {p:Int × Int × Int->Bool} (h:Fixs w a n cap l) (hg:IsGo Tryz.prog fid) (hf:AsksX Tryz.prog w fid ca p) :
 Calls Tryz.prog 258 #[.slice a n cap,.func (.func fid) #[] ca] w fun e w'=>e=.returned (.int .i64 (bT p l))/\Ext w w':=by
 have hn:=h.hcap;have hm:=h.hmax;have hcf:∀ (args:Array Value) (w:World),(callFunc fid args).run Tryz.prog w=.ok (.enter fid args) w:=hg;have HL:=ae h.hlen;have HI:=ae h;have HF:=ae hf;clear h hf hg;go_enter Tryz.func258,Tryz.ntmps258
 go_wp2_with fail
 go_loopg [8] n (fun gk ii wr=>∃ k:Nat,Hid (gk+k=n)/\ii=.int .i64 (k:Int)/\Hid ((l.take k).all (fun x=>!p x)=true)/\Hid (Ext w wr))
 case atStart=>exact ⟨0,ae (by omega),rfl,ae rfl,ae (Ext.refl _)⟩
 case round =>
  obtain ⟨g1,h_g1⟩:∃ x,x=gk:=⟨_,rfl⟩;subst h_g1;obtain ⟨wr1,h_wr1⟩:∃ x,x=wr:=⟨_,rfl⟩;subst h_wr1;obtain ⟨k,HK,rfl,HA,HX⟩:=hrel;by_cases hlt:k<n
  ·obtain ⟨b,off,x,y,z,rfl,hxy,hc0,hc1,hc2⟩:=(HI.out.ext HX.out).at hlt;have HC:=ae (HF.out x y z wr1 HX.out);have hkl:k<l.length:=by rw [HL.out];exact hlt
   cases hb:p (x,y,z)
   all_goals rw [hb] at HC
   ·have HT:=ae (show (l.take (k+1)).all (fun x=>!p x)=true by rw [ep hkl,List.all_append,HA.out,hxy];simp [hb]);clear hb hxy;go_wp2_with fail;refine HC.out.mono ?_;rintro e w2 ⟨rfl,hx2⟩;have HX2:=ae (HX.out.trans hx2);clear hx2;go_wp2_with fail
    go_roundg (g1-1)
    case measure=>have:=HK.out;omega
    case rel=>exact ⟨k+1,ae (by have:=HK.out;omega),by go_num,HT,HX2⟩
   ·have HT:=ae (show bT p l=(k:Int) from ee (d:=(0,0,0)) hkl HA.out (by rw [hxy];exact hb));clear hb hxy;go_wp2_with fail;refine HC.out.mono ?_;rintro e w2 ⟨rfl,hx2⟩;have HX2:=ae (HX.out.trans hx2);clear hx2;go_wp2_with fail;go_ret;exact ⟨aM HT.out.symm,HX2.out⟩
  ·have HT:=ae (show l.take k=l from List.take_of_length_le (by rw [HL.out];have:=HK.out;omega));go_wp2_with fail;go_ret;exact ⟨aM (by rw [dw];have:=HA.out;rwa [HT.out] at this),HX.out⟩
set_option maxHeartbeats 400000 in
theorem iL {w:World} {a:Option Addr} {n cap:Nat} {l:List (Int × Int × Int)} {fid:FuncId} {ca:Array Value} {p:Int × Int × Int->Bool} (h:Fixs w a n cap l) (hg:IsGo Tryz.prog fid) (hf:AsksX Tryz.prog w fid ca p) :
 Calls Tryz.prog 203 #[.slice a n cap,.func (.func fid) #[] ca] w fun e w'=>e=.returned (.bool (l.any p))/\Ext w w':=by
 have HC:=ae (kw h hg hf);go_enter Tryz.func203,Tryz.ntmps203
 go_wp2_with fail;refine HC.out.mono ?_;rintro e w2 ⟨rfl,hx2⟩
 go_wp2
 all_goals go_ret;refine ⟨ag ?_,hx2⟩;rw [<-fs]
theorem ps:IsGo Tryz.prog 204:=isGo Tryz.func204 (by kernel_rfl) (by kernel_rfl)
theorem go_free1:IsGo Tryz.prog 202:=isGo Tryz.func202 (by kernel_rfl) (by kernel_rfl)
set_option maxHeartbeats 400000 in
theorem i_free11 {w:World} (x y z s:Int) {b:Nat} (hc:w.cell? ⟨b,0,none⟩=some (.int .i64 s)) :
 Calls Tryz.prog 204 #[.agg #[.int .i64 x,.int .i64 y,.int .i64 z],.pointer (some ⟨b,0,none⟩)] w fun e w'=>e=.returned (.bool (x == s))/\Ext w w':=by
 have HX:=ae (Ext.alloc w (.cells #[.int .i64 x,.int .i64 y,.int .i64 z] 79));have hb:b<w.heap.size:=World.block_lt_of_cell? _ _ hc;cases hq:(x == s)
 all_goals
  go_enter Tryz.func204,Tryz.ntmps204
  go_wp2_with fail;go_ret;exact ⟨ag rfl,HX.out⟩
set_option maxHeartbeats 400000 in
theorem i_free1 {w:World} (s:Int) {b:Nat} {a:Option Addr} {n cap:Nat} {L:List (Int × Int × Int)} (hc:w.cell? ⟨b,0,none⟩=some (.slice a n cap)) (h:Fixs w a n cap L) :
 Calls Tryz.prog 202 #[.int .i64 s,.pointer (some ⟨b,0,none⟩)] w fun e w'=>e=.returned (.bool (hasX L s))/\Ext w w':=by
 have HX:=ae (Ext.alloc w (.cells #[.int .i64 s] 3));have hb:b<w.heap.size:=World.block_lt_of_cell? _ _ hc;have HC:=ae (iL (ca:=#[.pointer (some ⟨w.heap.size,0,none⟩)]) (p:=fun f=>f.1 == s) (h.ext HX.out) ps (fun x y z w1 hx=>i_free11 x y z s (hx.cellSome (by simp))));clear h;go_enter Tryz.func202,Tryz.ntmps202
 go_wp2_with fail;refine HC.out.mono ?_;rintro e w2 ⟨rfl,hx2⟩;have HX2:=ae (HX.out.trans hx2);clear hx2;go_wp2_with fail;go_ret;exact ⟨rfl,HX2.out⟩
set_option maxHeartbeats 2000000 in
theorem fN {w:World} (x:Int) (a:Option Addr) (n cap:Nat) (h4:3<=n) (hn:n<=1000) {fa:Option Addr} {fn fcap:Nat} {L:List (Int × Int × Int)} (h:Fixs w fa fn fcap L) :
 Calls Tryz.prog 136 #[pair x a n cap,.slice fa fn fcap] w fun e w'=>(∃ v,e=.returned v/\OwnI w' w.heap.size v (aN L (n-2)))/\Ext w w':=by
 obtain ⟨W,hW⟩:∃ W,W=(w.alloc (.cells #[.int .i64 x,.slice a n cap] 29)).alloc (.cells #[.slice fa fn fcap] 71):=⟨_,rfl⟩;have HWS:=ae (show W.heap.size=w.heap.size+2 by rw [hW];simp);have HX0:=ae (show Ext w W by rw [hW];exact (Ext.alloc _ _).trans (Ext.alloc _ _));have HWL:=ae (show W.cell? ⟨w.heap.size+1,0,none⟩=some (.slice fa fn fcap) by rw [hW];simp);have HF:=ae (h.ext HX0.out);have HA:=ae (show Asks Tryz.prog W 202 #[.pointer (some ⟨w.heap.size+1,0,none⟩)] (hasX L) from fun s w1 hx=>i_free1 s (hx.cellSome HWL.out) (HF.out.ext hx));have HC:=ae (lW (w:=W) 1 ((n:Int)-2) (n-2) (by omega) (by omega) (by omega) (by omega));rw [hW] at HC;clear h;go_enter Tryz.func136,Tryz.ntmps136
 go_wp2_with fail;refine HC.out.mono ?_;rw [<-hW];clear hW;rintro e w1 ⟨⟨v,rfl,ho⟩,hx1⟩;obtain ⟨a1,m,c1,rfl,hm⟩:=ho.var;have hm0:0<m:=by have:=hm.out;rw [mM] at this;omega
 obtain ⟨g,rfl,_,_,_⟩:=ho.block hm0;have HD:=ae (lY hx1 (Nat.le_refl _) ho hm0 go_free1 HA.out);clear ho hm hx1;go_wp2_with fail;refine HD.out.mono ?_;rintro e w2 ⟨⟨m2,rfl,ho2⟩,hx2⟩;have HO2:=ae ho2;have HX2:=ae hx2;clear ho2 hx2;go_wp2_with fail;go_ret;exact ⟨⟨_,rfl,HO2.out.mono (by rw [HWS.out];omega)⟩,HX0.out.trans HX2.out⟩
theorem jV {n d:Int} (h:(aD n d).2=false):(aD n d).1=(0,0):=by
 have hc:∀ p,(cutR p).2=false->(cutR p).1=(0,0):=fun p h=>by unfold cutR at h ⊢;split at h <;> simp_all
 unfold aD at h ⊢
 split at h
 ·next h1=>rw [if_pos h1]
 ·next h1 =>
  rw [if_neg h1]
  split at h
  ·next h2=>rw [if_pos h2];exact hc _ h
  ·next h2=>rw [if_neg h2];exact hc _ h
theorem pX (n d:Int):-1000000000<=(aD n d).1.1/\(aD n d).1.1<=1000000000:=by
 cases h:(aD n d).2
 ·rw [jV h];simp
 ·have:=bh (fg h);omega
theorem mQ (a b:Int × Int):-1000000000<=(subR a b).1.1/\(subR a b).1.1<=1000000000:=by
 unfold subR;split
 ·exact pX _ _
 ·simp
abbrev Col:=Int × Int × Bool × Int × Int
def colE:Enc Col:=⟨fun x=>[.int .i64 x.1,.int .i64 x.2.1,.bool x.2.2.1,.int .i64 x.2.2.2.1,.int .i64 x.2.2.2.2],5,fun _=>rfl,by omega,fun x u h=>by simp only [List.mem_cons,List.not_mem_nil,or_false] at h;rcases h with rfl|rfl|rfl|rfl|rfl <;> rfl⟩
theorem Tryz.infoCol:(Tryz.prog.info? 175).map (fun i=>(i.zero,i.size,i.bytes))=some (some (.agg #[.int .i64 0,.int .i64 0,.bool false,.int .i64 0,.int .i64 0]),5,40):=by kernel_rfl
def eA (V:List Int) (f:Int × Int × Int):Int × Int:=(subR f.2 (V[f.1.toNat]?.getD 0,1)).1
def twoC (s:Int) (c:Int × Int):List Col:=[(s,1,false,c.1,c.2),(s,-1,false,-c.1,c.2)]
def be (V:List Int) (l:List Int):List Col:=l.map fun s=>(s,1,true,-(V[s.toNat]?.getD 0),1)
def aI (V:List Int) (L:List (Int × Int × Int)):List Col:=L.flatMap fun f=>twoC f.1 (eA V f)
def cJ (V:List Int) (L:List (Int × Int × Int)):List Col:=be V (aN L (V.length-2))++aI V L++twoC ((V.length:Int)-1) (-(V[V.length-1]?.getD 0),1)
def ei (V:List Int) (L:List (Int × Int × Int)) (k:Nat):List Col:=be V (aN L (V.length-2))++aI V (L.take k)
theorem iP (V:List Int) {l:List Int} {k:Nat} (h:k<l.length):be V (l.take k)++[(l[k]?.getD 0,1,true,-(V[(l[k]?.getD 0).toNat]?.getD 0),1)]=be V (l.take (k+1)):=by
 rw [cw h];simp [be]
theorem cQ (V:List Int) (l:List Int):(be V l).length=l.length:=by simp [be]
theorem dP (V:List Int):∀ L:List (Int × Int × Int),(aI V L).length=2*L.length
 | []=>rfl
 | f :: L=>by
   have:=dP V L;simp only [aI,List.flatMap_cons,List.length_append,twoC,List.length_cons,List.length_nil] at this ⊢;omega
theorem oq (V:List Int) {L:List (Int × Int × Int)} {k:Nat} (h:k<L.length) {f:Int × Int × Int} (e:L[k]?.getD (0,0,0)=f):ei V L k++twoC f.1 (eA V f)=ei V L (k+1):=by
 subst e;unfold ei aI;rw [ep h];simp
theorem OwnI.grownG {w w':World} {base base':Nat} {v v':Value} {l:List Int} {α:Type} {E:Enc α} {t:TypeId} {l':List α} (h:OwnI w base v l) (h':OwnG E t w base' v' l') (hne:3 ≠ t) (hg:w.grownBy w' v'.ownBlock):OwnI w' base v l :=
 h.keep fun k hk=>hg.block k (h.lt k hk).2 fun e=>au hne h h' k hk e.symm
set_option maxHeartbeats 8000000 in
theorem mI {w:World} (x:Int) {a:Option Addr} {n cap:Nat} {V:List Int} (hV:Ints w a n cap V) (hVb:∀ y ∈ V,-500<=y/\y<=500) (h2:2<=n) (hn:n<=1000) {fa:Option Addr} {fn fcap:Nat} {L:List (Int × Int × Int)} (h:Fixs w fa fn fcap L) (hL:∀ f ∈ L,1<=f.1/\f.1+2<=n) (hfn:fn<=1048576) :
 Calls Tryz.prog 186 #[pair x a n cap,.slice fa fn fcap] w fun e w'=>(∃ v,e=.returned v/\OwnG colE 175 w' w.heap.size v (cJ V L))/\Ext w w':=by
 obtain ⟨W,hW⟩:∃ W,W=w.alloc (.cells #[.int .i64 x,.slice a n cap] 29):=⟨_,rfl⟩;have HW:=ae hW;have HWS:=ae (show W.heap.size=w.heap.size+1 by rw [hW];simp);have HX0:=ae (show Ext w W by rw [hW];exact Ext.alloc _ _);have HWC:=ae (show W.cell? ⟨w.heap.size,1,none⟩=some (.slice a n cap) by rw [hW];simp);have HWD:=ae (show W.cell? ⟨w.heap.size,0,none⟩=some (.int .i64 x) by rw [hW];simp);have HVL:=ae hV.hlen;have hvcap:=hV.hcap;have hvmax:=hV.hmax;have hfcap:=h.hcap;have hfmax:=h.hmax;have HV:=ae (hV.ext HX0.out);have HVB:=ae hVb;have HFL:=ae h.hlen;have HF:=ae (h.ext HX0.out);have HLB:=ae hL;have HO:=ae (OwnG.madeS colE 175 W (w.heap.size+1) (w.heap.size+1) HWS.out.symm (by rw [HWS.out];exact Nat.le_refl _));have HFRE:=ae (ix (w:=W.alloc (.cells #[] 175)) x a n cap hn (HF.out.ext (Ext.alloc _ _)));have HML:=ae (dh L (n-2));have HMM:=ae (fun s=>gh (L:=L) (m:=n-2) (s:=s));rw [hW] at HFRE;clear h hL hV hVb;go_enter Tryz.func186,Tryz.ntmps186
 go_wp2_with fail;refine HFRE.out.mono ?_;rw [<-hW];clear hW;rintro e w1 ⟨⟨vf,rfl,hfo⟩,hx1⟩;obtain ⟨af,m,cf,rfl,hfm⟩:=hfo.var;have HFO:=ae (hfo.mono (base':=w.heap.size+1) (by rw [World.size_alloc,HWS.out];omega));have HFM:=ae hfm.out;have X1:=ae ((Ext.alloc W _).trans hx1);have HO1:=ae (HO.out.ext hx1);have hmcap:=hfo.ints.hcap;have hmmax:=hfo.ints.hmax;have hmb:m<=1000:=by have:=HML.out;have:=HFM.out;omega
 clear hfo hx1 hfm HFRE;go_wp2_with fail
 go_loopg [5,7] m (fun gk oo ii wr=>∃ (k:Nat) (a1:Option Addr) (n1 p1:Nat),Hid (gk+k=m)/\ii=.int .i64 (k:Int)/\oo=.slice a1 n1 p1/\Hid (OwnG colE 175 wr (w.heap.size+1) (.slice a1 n1 p1) (be V ((aN L (n-2)).take k)))/\Hid (OwnI wr (w.heap.size+1) (.slice af m cf) (aN L (n-2)))/\Hid (Ext W wr))
 case atStart=>exact ⟨0,_,_,_,ae (by omega),rfl,rfl,HO1,HFO,X1⟩
 case round =>
  obtain ⟨g1,h_g1⟩:∃ x,x=gk:=⟨_,rfl⟩;subst h_g1;obtain ⟨wr1,h_wr1⟩:∃ x,x=wr:=⟨_,rfl⟩;subst h_wr1;obtain ⟨k,a1,n1,p1,HK,rfl,rfl,HOK,HFK,HX⟩:=hrel;have hsz:=HX.out.size;rw [HWS.out] at hsz;have hcv:wr1.cell? ⟨w.heap.size,1,none⟩=some (.slice a n cap):=HX.out.cellSome HWC.out;by_cases hlt:k<m
  ·obtain ⟨b,off,he,hsc⟩:=HFK.out.ints.at hlt;subst he;obtain ⟨s,hs⟩:∃ s,s=(aN L (n-2))[k]?.getD 0:=⟨_,rfl⟩;rw [<-hs] at hsc;have hkl:k<(aN L (n-2)).length:=by rw [HFM.out];exact hlt
   have hsm:=HMM.out s (by rw [hs,List.getElem?_eq_getElem hkl];exact List.getElem_mem hkl);obtain ⟨t,rfl⟩:∃ t:Nat,s=t:=⟨s.toNat,by omega⟩;have htn:t<n:=by omega
   obtain ⟨vb,voff,hve,hvc⟩:=HV.out.at htn;subst hve;have hyb:=gJ HVB.out t;obtain ⟨y,hy⟩:∃ y,y=V[t]?.getD 0:=⟨_,rfl⟩;rw [<-hy] at hvc hyb;have HVC:=ae hvc;replace hvc:=HX.out.cellSome hvc
   have HSN:=ae (show be V ((aN L (n-2)).take k)++[((t:Int),1,true,-y,1)]=be V ((aN L (n-2)).take (k+1)) by
    rw [<-iP V hkl,<-hs,hy];rfl)
   have hwn:IntKind.i64.wrap (-y)=-y:=by rw [IntKind.wrap_i64];omega
   have HLK:=ae (show (be V ((aN L (n-2)).take k)).length<=1000 by rw [cQ,List.length_take];have:=HML.out;omega);have hk2:Ext wr1 wr1.drew:=Ext.drew wr1;clear hs hsm hy hkl;have HNE:=ae (show some b ≠ (Value.slice a1 n1 p1).ownBlock from fun e=>au (by decide) HFK.out HOK.out b rfl e.symm);have hk1:Ext W wr1:=HX.out;have HKEEP:=ae (fun (w':World) (h:Ext W w') (hc:w'.cell? ⟨b,off+k,none⟩=some (.int .i64 (t:Int)))=>(⟨h.cellSome HWC.out,hc,h.cellSome HVC.out,h⟩:w'.cell? ⟨w.heap.size,1,none⟩=some (.slice (some ⟨vb,voff,none⟩) n cap)/\w'.cell? ⟨b,off+k,none⟩=some (.int .i64 (t:Int))/\w'.cell? ⟨vb,voff+t,none⟩=some (.int .i64 y)/\Ext W w'));go_wp2_with fail
   go_region_held3 (fun w'=>w'.cell? ⟨w.heap.size,1,none⟩=some (.slice (some ⟨vb,voff,none⟩) n cap)/\w'.cell? ⟨b,off+k,none⟩=some (.int .i64 (t:Int))/\w'.cell? ⟨vb,voff+t,none⟩=some (.int .i64 y)/\Ext W w')
    (first
      | with_reducible exact HKEEP.out _ (hk1.trans hk2) (hk2.cellSome hsc)
      | with_reducible exact HKEEP.out _ (hk1.trans (hk2.trans (Ext.alloc _ _))) ((hk2.trans (Ext.alloc _ _)).cellSome hsc)
      | with_reducible exact HKEEP.out _ X5.out HC5.out)
    (first
      | (go_at_call 86
         (with_reducible refine (ce _ _).mono ?_)
         rintro e w3 ⟨rfl,hx3⟩;have hk2:Ext wr1 w3:=hk2.trans hx3
         have hs3:=hk2.size)
      | (refine bH _ (by rfl) ?_
         refine ew colE Tryz.infoCol rfl Tryz.underlying172 (by decide) _ _ (by rfl) (w.heap.size+1) (.slice a1 n1 p1) _ (by rfl) (HOK.out.ext (hk2.trans (Ext.alloc _ _))) _ 1 1 [((t:Int),1,true,-y,1)] (by rfl) (Slc.lit colE _ _ _ 1 (by rfl) _ (by rfl) _ (by rfl) (by omega)) (by have:=HLK.out;omega) (by simp;omega) ?_;intro v5 w5 ho hg hnear;have HFN:=ae ((HFK.out.ext (hk2.trans (Ext.alloc _ _))).grownG (HOK.out.ext (hk2.trans (Ext.alloc _ _))) (by decide) hg);have HC5:=ae (hg.cell ((hk2.trans (Ext.alloc _ _)).cellSome hsc) HNE.out);obtain ⟨a5,n5,p5,rfl,HN5⟩:=ho.var;have HO5:=ae ho;have X5:=ae (aq (w0:=W) (HX.out.trans (hk2.trans (Ext.alloc _ _))) hg (fun j hj=>by have:=HOK.out.lt j hj;rw [HWS.out];omega))
         clear ho hg hnear)
      | fail)
   clear hk1;go_wp2_with fail
   go_roundg (g1-1)
   case measure=>have:=HK.out;omega
   case rel=>exact ⟨k+1,a5,n5,p5,ae (by have:=HK.out;omega),by go_num,rfl,ae (by rw [<-HSN.out];exact HO5.out),HFN,X5⟩
  ·have hkm:k=m:=by have:=HK.out;omega
   subst hkm
   have HST:=ae (show be V ((aN L (n-2)).take k)=ei V L 0 by
    have:(aN L (n-2)).take k=aN L (n-2):=List.take_of_length_le (by rw [HFM.out];exact Nat.le_refl _)
    rw [this];unfold ei;rw [HVL.out];simp [aI])
   rw [HST.out] at HOK
   have HCL:=ae (fun j=>show (ei V L j).length<=1000+2*fn by
    unfold ei;rw [List.length_append,cQ,dP,List.length_take,HVL.out];have:=HML.out;have:=HFL.out;omega)
   clear HFM HFK HK;go_wp2_with fail
   go_loopg [5,8] (fn+1) (fun gk oo ii wr=>∃ (k:Nat) (a1:Option Addr) (n1 p1:Nat),Hid (gk+k=fn+1)/\ii=.int .i64 (k:Int)/\oo=.slice a1 n1 p1/\Hid (OwnG colE 175 wr (w.heap.size+1) (.slice a1 n1 p1) (if k<=fn then ei V L k else cJ V L))/\Hid (Ext W wr))
   case atStart=>exact ⟨0,_,_,_,ae (by omega),rfl,rfl,ae (by rw [if_pos (by omega)];exact HOK.out),HX⟩
   case round =>
    obtain ⟨g2,h_g2⟩:∃ x,x=gk:=⟨_,rfl⟩;subst h_g2;obtain ⟨wr2,h_wr2⟩:∃ x,x=wr:=⟨_,rfl⟩;subst h_wr2;obtain ⟨k,a2,n2,p2,HK,rfl,rfl,HOK2,HX2⟩:=hrel;have hsz2:=HX2.out.size;rw [HWS.out] at hsz2;have hcv2:wr2.cell? ⟨w.heap.size,1,none⟩=some (.slice a n cap):=HX2.out.cellSome HWC.out;by_cases hle:k<=fn
    ·rw [if_pos hle] at HOK2;obtain ⟨u,hu⟩:∃ u,u=n-1:=⟨_,rfl⟩;have hnu:(n:Int)-1=(u:Int):=by omega
     have hun:u<n:=by omega
     obtain ⟨vb,voff,hve,hvc⟩:=HV.out.at hun;subst hve;have hyb:=gJ HVB.out u;obtain ⟨y,hy⟩:∃ y,y=V[u]?.getD 0:=⟨_,rfl⟩;rw [<-hy] at hvc hyb;have HVC:=ae hvc;replace hvc:=HX2.out.cellSome hvc;have HU:=ae hu;have HY:=ae hy;have hwn:IntKind.i64.wrap (-y)=-y:=by rw [IntKind.wrap_i64];omega
     clear hu hy
     go_upto_if 59 with (first|(go_at_call 86;refine (ce _ _).mono ?_;rintro e w3 ⟨rfl,hx3⟩;have hs3:=hx3.size))
     have HB0:=ae (ah.new hx3 (-y) 1);have hcv3:=hx3.cellSome hcv2
     go_cut [9,10] (fun ss cc wx=>∃ (S:Int) (g:Nat) (p q:Int),ss=.int .i64 S/\cc=.pointer (some ⟨g,0,none⟩)/\Hid (ah wr2 wx g p q)/\Hid (ei V L k++twoC S (p,q)=if k+1<=fn then ei V L (k+1) else cJ V L)/\Hid (-1000000000<=p/\p<=1000000000))
     case first =>
      by_cases hlt2:k<fn
      ·obtain ⟨fb,foff,c,fx,fy,hfa,hfe,hf0,hf1,hf2⟩:=HF.out.at hlt2;subst hfa;have hkl:k<L.length:=by rw [HFL.out];exact hlt2
       have hcm:=HLB.out (c,fx,fy) (by rw [<-hfe,List.getElem?_eq_getElem hkl];exact List.getElem_mem hkl);simp only at hcm;obtain ⟨t,rfl⟩:∃ t:Nat,c=t:=⟨c.toNat,by omega⟩;have htn:t<n:=by omega
       obtain ⟨vb',voff',hve,hvt⟩:=HV.out.at htn;simp only [Option.some.injEq,Addr.mk.injEq,and_true] at hve;obtain ⟨rfl,rfl⟩:=hve;obtain ⟨z,hz⟩:∃ z,z=V[t]?.getD 0:=⟨_,rfl⟩;rw [<-hz] at hvt;obtain ⟨p,q,ok,hpq⟩:∃ p q ok,subR (fx,fy) (z,1)=((p,q),ok):=⟨_,_,_,rfl⟩;have HPQ:=ae hpq;have HPB:=ae (show -1000000000<=p/\p<=1000000000 by have:=mQ (fx,fy) (z,1);rw [hpq] at this;exact this)
       have HSS:=ae (show ei V L k++twoC (t:Int) (p,q)=ei V L (k+1) by
        rw [<-oq V hkl hfe];unfold eA;simp only;rw [show ((t:Int)).toNat=t by simp,<-hz,hpq])
       have XW:=ae (HX2.out.trans hx3);replace hf0:=XW.out.cellSome hf0;have kf1:=HX2.out.cellSome hf1;have kf2:=HX2.out.cellSome hf2;have kvt:=HX2.out.cellSome hvt;replace hf1:=XW.out.cellSome hf1;replace hf2:=XW.out.cellSome hf2;replace hvt:=XW.out.cellSome hvt;have hfl:fb<w3.heap.size:=World.block_lt_of_cell? _ _ hf0;have hvl:vb<w3.heap.size:=World.block_lt_of_cell? _ _ hvt;have hBB:ah wr2 (w3.alloc (.cells #[.int .i64 (-y),.int .i64 1] 43)).drew w3.heap.size (-y) 1:=HB0.out.grow (Ext.drew _);have hk2:=hBB.ext;clear hfe hkl hcm hz hpq hnu hvc;have HKEEP:=ae (fun (w':World) (h:Ext wr2 w')=>(⟨h.cellSome hcv2,h.cellSome kf1,h.cellSome kf2,h.cellSome kvt,h⟩:w'.cell? ⟨w.heap.size,1,none⟩=some (.slice (some ⟨vb,voff,none⟩) n cap)/\w'.cell? ⟨fb,foff+k*3+1,none⟩=some (.int .i64 fx)/\w'.cell? ⟨fb,foff+k*3+2,none⟩=some (.int .i64 fy)/\w'.cell? ⟨vb,voff+t,none⟩=some (.int .i64 z)/\Ext wr2 w'));clear kf1 kf2 kvt;go_wp2_with fail
       go_region_held3 (fun w'=>w'.cell? ⟨w.heap.size,1,none⟩=some (.slice (some ⟨vb,voff,none⟩) n cap)/\w'.cell? ⟨fb,foff+k*3+1,none⟩=some (.int .i64 fx)/\w'.cell? ⟨fb,foff+k*3+2,none⟩=some (.int .i64 fy)/\w'.cell? ⟨vb,voff+t,none⟩=some (.int .i64 z)/\Ext wr2 w')
        (first
          | with_reducible exact HKEEP.out _ hk2
          | with_reducible exact HKEEP.out _ (hBB.put _ _).ext)
        (first
          | (go_at_call 86
             (with_reducible refine (ce _ _).mono ?_)
             rintro e w4 ⟨rfl,hx4⟩;have hBB:=hBB.grow hx4;have hk2:=hBB.ext;have hb0:=hBB.c0;have hb1:=hBB.c1
             have hbf:=hBB.free)
          | (go_at_call 184
             (with_reducible refine (mH _ _ _ _ _).mono ?_)
             rw [HPQ.out];rintro e w5 ⟨rfl,hx5⟩;have hBB:=hBB.grow hx5;have hk2:=hBB.ext;have hb0:=hBB.c0;have hb1:=hBB.c1
             have hbf:=hBB.free)
          | fail)
       go_wp2_with fail;go_meet;exact ⟨_,_,_,_,rfl,rfl,ae (hBB.put _ _),ae (by rw [if_pos (by omega)];exact HSS.out),HPB⟩
      ·have hkf:k=fn:=by omega
       subst hkf;go_wp2_with fail;go_meet
       exact ⟨_,_,_,_,rfl,rfl,HB0,ae (by
        rw [if_neg (by omega)];unfold ei cJ;rw [List.take_of_length_le (by rw [HFL.out];exact Nat.le_refl _),HVL.out,<-HU.out,<-HY.out];rw [hnu]),ae (by omega)⟩
     obtain ⟨S,g,p,q,rfl,rfl,HB,HS,HPB⟩:=hcut;have hpb:=HPB.out;have hb0:=HB.out.c0;have hb1:=HB.out.c1;have XC:=ae (HX2.out.trans HB.out.ext);have HOC:=ae (HOK2.out.ext HB.out.ext);have HNE:=ae (an HOC.out HB.out.cell (by decide));have HCK:=ae (HCL.out k);have hk1:Ext W wc:=XC.out;have hk2:Ext wc wc.drew:=Ext.drew wc;have hszc:=XC.out.size;rw [HWS.out] at hszc;have HKEEP:=ae (fun (w':World) (h:Ext W w') (h0:w'.cell? ⟨g,0,none⟩=some (.int .i64 p)) (h1:w'.cell? ⟨g,1,none⟩=some (.int .i64 q))=>(⟨h0,h1,h⟩:w'.cell? ⟨g,0,none⟩=some (.int .i64 p)/\w'.cell? ⟨g,1,none⟩=some (.int .i64 q)/\Ext W w'));clear hcv3 hcv2 hvc hnu;go_wp2_with fail
     go_region_held3 (fun w'=>w'.cell? ⟨g,0,none⟩=some (.int .i64 p)/\w'.cell? ⟨g,1,none⟩=some (.int .i64 q)/\Ext W w')
      (first
        | with_reducible exact HKEEP.out _ (hk1.trans hk2) (hk2.cellSome hb0) (hk2.cellSome hb1)
        | with_reducible exact HKEEP.out _ (hk1.trans (hk2.trans (Ext.alloc _ _))) ((hk2.trans (Ext.alloc _ _)).cellSome hb0) ((hk2.trans (Ext.alloc _ _)).cellSome hb1)
        | with_reducible exact HKEEP.out _ X5.out HC5.out HC6.out)
      (first
        | (go_at_call 88
           (with_reducible refine (eu _ _ _ (by omega) (by omega)).mono ?_)
           rintro e w4 ⟨rfl,hx4⟩;have hk2:Ext wc w4:=hk2.trans hx4
           have hs4:=hk2.size)
        | (refine bH _ (by rfl) ?_
           refine ew colE Tryz.infoCol rfl Tryz.underlying172 (by decide) _ _ (by rfl) (w.heap.size+1) (.slice a2 n2 p2) _ (by rfl) (HOC.out.ext (hk2.trans (Ext.alloc _ _))) _ 2 2 (twoC S (p,q)) (by rfl) (Slc.lit colE _ _ _ 2 (by rfl) _ (by rfl) _ (by rfl) (by omega)) (by have:=HCK.out;omega) (by simp;omega) ?_;intro v5 w5 ho hg hnear;have HC5:=ae (hg.cell ((hk2.trans (Ext.alloc _ _)).cellSome hb0) HNE.out);have HC6:=ae (hg.cell ((hk2.trans (Ext.alloc _ _)).cellSome hb1) HNE.out);obtain ⟨a5,n5,p5,rfl,HN5⟩:=ho.var;have HO5:=ae ho;have X5:=ae (aq (w0:=W) (XC.out.trans (hk2.trans (Ext.alloc _ _))) hg (fun j hj=>by have:=HOC.out.lt j hj;rw [HWS.out];omega))
           clear ho hg hnear)
        | fail)
     clear hk1;go_wp2_with fail
     go_roundg (g2-1)
     case measure=>have:=HK.out;omega
     case rel=>exact ⟨k+1,a5,n5,p5,ae (by have:=HK.out;omega),by go_num,rfl,ae (by rw [<-HS.out];exact HO5.out),X5⟩
    ·have hkf:k=fn+1:=by have:=HK.out;omega
     have hnle:¬ ((k:Int)<=(fn:Int)):=by omega
     rw [if_neg hle] at HOK2;go_wp2_with fail;go_ret;exact ⟨⟨_,rfl,HOK2.out.mono (Nat.le_succ _)⟩,HX0.out.trans HX2.out⟩
def pos (ord:List Int) (k:Nat):Nat:=(ord[k]?.getD 0).toNat
theorem oz {p:Int} {V:List Int} (h:bL p V=true):∀ i:Nat,-500<=V[i]?.getD 0/\V[i]?.getD 0<=500:=fun i=>by
 obtain ⟨_,_,_,_,_,_,hVb⟩:=dG h;by_cases hi:i<V.length
 ·have:=hVb _ (List.getElem_mem hi);simpa [hi] using this
 ·simp [List.getElem?_eq_none (by omega:V.length<=i)]
theorem Fixs.take {w:World} {a:Option Addr} {n cap:Nat} {l:List (Int × Int × Int)} (h:Fixs w a n cap l) {k:Nat} (hk:k<=n):Fixs w a k cap (l.take k) :=
 ⟨by have:=h.hlen;simp;omega,by have:=h.hcap;omega,h.hmax,fun j hj=>by
  obtain ⟨b,off,e,hc⟩:=h.cell j (by omega);refine ⟨b,off,e,fun i hi=>?_⟩;have:=hc i (by omega)
  rwa [List.getElem?_take,if_pos hi]⟩
theorem Fixs.drewN {w:World} {a:Option Addr} {n cap:Nat} {l:List (Int × Int × Int)} (h:Fixs w a n cap l) (m:Nat):Fixs (w.drewN m) a n cap l:=h.ext (below_drewN (Ext.refl w) m)
def ordX (L:List (Int × Int × Int)) (hi:Int) (k:Nat):Bool:=(List.range k).all fun i=>inB (L[i]?.getD (0,0,0)).1 1 hi&&!hasX (L.take i) (L[i]?.getD (0,0,0)).1
theorem lg (L:List (Int × Int × Int)) (hi:Int) (k:Nat):ordX L hi (k+1)=(ordX L hi k&&(inB (L[k]?.getD (0,0,0)).1 1 hi&&!hasX (L.take k) (L[k]?.getD (0,0,0)).1)):=by simp [ordX,List.range_succ]
theorem ft {L:List (Int × Int × Int)} {hi:Int} {k m:Nat} (h:(inB (L[k]?.getD (0,0,0)).1 1 hi&&!hasX (L.take k) (L[k]?.getD (0,0,0)).1)=false) (hk:k<m):ordX L hi m=false:=by
 rw [ordX,List.all_eq_false];exact ⟨k,List.mem_range.2 hk,by rw [h];simp⟩
theorem ordX_mem {L:List (Int × Int × Int)} {hi:Int} (h:ordX L hi L.length=true):∀ f ∈ L,1<=f.1/\f.1<=hi:=by
 intro f hf;obtain ⟨k,hk,rfl⟩:=List.getElem_of_mem hf;have:=(List.all_eq_true.1 h) k (List.mem_range.2 hk);rw [List.getElem?_eq_getElem hk] at this;simp only [Option.getD_some,Bool.and_eq_true,inB,decide_eq_true_eq] at this;exact this.1
def dl (p:Int) (V:List Int) (L:List (Int × Int × Int)):Bool:=bL p V&&(decide (2<=p)&&(ordX L ((V.length:Int)-2) L.length&&decide (0<(aN L (V.length-2)).length)))
theorem cN_ge {n:Nat} (h2:2<=n) (h5:n<=5):4<=cN n:=by
 have:n=2 ∨ n=3 ∨ n=4 ∨ n=5:=by omega
 rcases this with rfl|rfl|rfl|rfl <;> decide
set_option maxHeartbeats 4000000 in
theorem qi {w:World} {p:Int} {a:Option Addr} {n cap:Nat} {V:List Int} (hV:Ints w a n cap V) {fa:Option Addr} {fn fcap:Nat} {L:List (Int × Int × Int)} (h:Fixs w fa fn fcap L) (hfn:fn<=1048576) :
 Calls Tryz.prog 185 #[pair p a n cap,.slice fa fn fcap] w fun e w'=>e=.returned (.bool (dl p V L))/\Ext w w':=by
 obtain ⟨W,hW⟩:∃ W,W=w.alloc (.cells #[.int .i64 p,.slice a n cap] 29):=⟨_,rfl⟩;have HWS:=ae (show W.heap.size=w.heap.size+1 by rw [hW];simp);have HX0:=ae (show Ext w W by rw [hW];exact Ext.alloc _ _);have HWC:=ae (show W.cell? ⟨w.heap.size,1,none⟩=some (.slice a n cap) by rw [hW];simp);have HWD:=ae (show W.cell? ⟨w.heap.size,0,none⟩=some (.int .i64 p) by rw [hW];simp);have HVL:=ae hV.hlen;have hvcap:=hV.hcap;have hvmax:=hV.hmax;have hfcap:=h.hcap;have hfmax:=h.hmax;have HFL:=ae h.hlen;have HF:=ae (h.ext HX0.out);have HC:=ae (fj (p:=p) (hV.ext HX0.out));have HVE:=ae (hV.ext HX0.out);clear h hV;cases hg:bL p V
 ·have HG:=ae (show dl p V L=false by unfold dl;rw [hg];rfl);rw [hg,hW] at HC;clear hg;go_enter Tryz.func185,Tryz.ntmps185
  go_wp2_with fail;refine HC.out.mono ?_;rw [<-hW];rintro e w1 ⟨rfl,hx1⟩;go_wp2_with fail;go_ret;exact ⟨ag HG.out.symm,HX0.out.trans hx1⟩
 ·obtain ⟨q,hq,h1,h5,hlen,_,hvb⟩:=dG hg;have HGO:=ae hg;rw [hg,hW] at HC;clear hg;by_cases hp2:p<2
  ·have HG:=ae (show dl p V L=false by unfold dl;rw [HGO.out,decide_eq_false (by omega:¬ 2<=p)];rfl);clear hq hlen hvb;go_enter Tryz.func185,Tryz.ntmps185
   go_wp2_with fail;refine HC.out.mono ?_;rw [<-hW];rintro e w1 ⟨rfl,hx1⟩;have hc0:=hx1.cellSome HWD.out;go_wp2_with fail;go_ret;exact ⟨ag HG.out.symm,HX0.out.trans hx1⟩
  ·have hn4:4<=n:=by have:=cN_ge (n:=q) (by omega) h5;rw [<-HVL.out,hlen];exact this
   have hn32:n<=32:=by have:=eX q h5;rw [<-HVL.out,hlen];exact this.2
   clear hq hlen hvb;go_enter Tryz.func185,Tryz.ntmps185
   go_wp2_with fail;refine HC.out.mono ?_;rw [<-hW];rintro e w1 ⟨rfl,hx1⟩;have HX1:=ae hx1;have hc0:=hx1.cellSome HWD.out;clear hx1;have HW:=ae hW;clear hW;go_wp2_with fail;clear hc0
   go_loopg [5] fn (fun gk ii wr=>∃ k:Nat,Hid (gk+k=fn)/\ii=.int .i64 (k:Int)/\Hid (ordX L ((n:Int)-2) k=true)/\Hid (Ext W wr))
   case atStart=>exact ⟨0,ae (by omega),rfl,ae rfl,HX1⟩
   case round =>
    obtain ⟨g1,h_g1⟩:∃ x,x=gk:=⟨_,rfl⟩;subst h_g1;obtain ⟨wr1,h_wr1⟩:∃ x,x=wr:=⟨_,rfl⟩;subst h_wr1;obtain ⟨k,HK,rfl,HO,HX⟩:=hrel;have hcv:wr1.cell? ⟨w.heap.size,1,none⟩=some (.slice a n cap):=HX.out.cellSome HWC.out;by_cases hlt:k<fn
    ·have HFW:=ae (HF.out.ext HX.out);obtain ⟨b,off,c,x,y,rfl,hxy,hf0,hf1,hf2⟩:=HFW.out.at hlt;have hwn:IntKind.i64.wrap ((n:Int)-2)=(n:Int)-2:=by rw [IntKind.wrap_i64];omega
     cases hb:inB c 1 ((n:Int)-2)
     ·have HG:=ae (show dl p V L=false by
       unfold dl;rw [HFL.out,HVL.out,ft (k:=k) (m:=fn) (by rw [hxy];simp only;rw [hb];rfl) hlt];simp)
      clear hxy
      go_wp2
      go_quiet ((first|(go_at_call 95;exact bY (bv _ _ _ _))))
      go_wp2
      go_ret;exact ⟨ag HG.out.symm,HX0.out.trans (HX.out.trans (Drew.ext ⟨_,rfl⟩))⟩
     ·cases hh:hasX (L.take k) c
      ·have HN:=ae (show ordX L ((n:Int)-2) (k+1)=true by rw [lg,HO.out,hxy];simp only;rw [hb,hh];rfl);clear hxy
       go_wp2
       go_quiet ((first|(go_at_call 95;exact bY (bv _ _ _ _))|(go_at_call 187;exact bY (jr ((HFW.out.drewN _).take (by omega)) _))))
       go_wp2
       go_roundg (g1-1)
       case measure=>have:=HK.out;omega
       case rel=>exact ⟨k+1,ae (by have:=HK.out;omega),by go_num,HN,ae (HX.out.trans (Drew.ext ⟨_,rfl⟩))⟩
      ·have HG:=ae (show dl p V L=false by
        unfold dl;rw [HFL.out,HVL.out,ft (k:=k) (m:=fn) (by rw [hxy];simp only;rw [hh];simp) hlt];simp)
       clear hxy
       go_wp2
       go_quiet ((first|(go_at_call 95;exact bY (bv _ _ _ _))|(go_at_call 187;exact bY (jr ((HFW.out.drewN _).take (by omega)) _))))
       go_wp2
       go_ret;exact ⟨ag HG.out.symm,HX0.out.trans (HX.out.trans (Drew.ext ⟨_,rfl⟩))⟩
    ·have hkf:k=fn:=by have:=HK.out;omega
     subst hkf;have hcw:wr1.cell? ⟨w.heap.size,0,none⟩=some (.int .i64 p):=HX.out.cellSome HWD.out;have HFR:=ae (ix (w:=wr1) p a n cap (by omega) (HF.out.ext HX.out))
     have HG:=ae (show dl p V L=decide (0<(aN L (n-2)).length) by
      unfold dl;rw [HGO.out,HFL.out,HVL.out,HO.out,decide_eq_true (show 2<=p by omega)];simp)
     go_wp2_with fail;refine HFR.out.mono ?_;rintro e w2 ⟨⟨v,rfl,ho⟩,hx2⟩;obtain ⟨af,m,cf,rfl,hm⟩:=ho.var;have HM:=ae hm.out;clear ho hm;have hm0:decide ((m:Int) > 0)=decide (0<(aN L (n-2)).length):=by rw [HM.out];rw [Bool.eq_iff_iff];simp
     clear hm0;go_wp2_with fail;go_ret;exact ⟨ag (by rw [HG.out,HM.out]),HX0.out.trans (HX.out.trans hx2)⟩
def onC (q k:Nat) (c:Col):Bool:=if k<q then hasP c.1 (k:Int) else c.2.2.1
def rowC (cols:List Col) (q k:Nat):List Int:=cols.map fun c=>c.2.1*bitI (onC q k c)
def stA (q:Nat) (V:List Int) (L:List (Int × Int × Int)):List (List Int):=(List.range (q+1)).map (rowC (cJ V L) q)
def stB (q:Nat):List Int:=(List.range (q+1)).map fun k=>bitI (decide (k=q))
def stC (V:List Int) (L:List (Int × Int × Int)):List (Int × Int):=(cJ V L).map fun c=>c.2.2.2
def stOk (p:Int) (V:List Int) (L:List (Int × Int × Int)):Bool:=dl p V L&&allV (stC V L)
def stAx (p:Int) (V:List Int) (L:List (Int × Int × Int)):List (List Int):=if stOk p V L=true then stA p.toNat V L else []
def stBx (p:Int) (V:List Int) (L:List (Int × Int × Int)):List Int:=if stOk p V L=true then stB p.toNat else []
def stCx (p:Int) (V:List Int) (L:List (Int × Int × Int)):List (Int × Int):=if stOk p V L=true then stC V L else []
def jv (w:World) (base:Nat) (e:Ending) (A:List (List Int)) (B:List Int) (C:List (Int × Int)) (ok:Bool):Prop :=
 ∃ va vb vc vs,e=.returned (.tuple #[.agg #[va,vb,vc],.bool ok])/\OwnV w base va vs/\bj w base vs A/\OwnI w base vb B/\OwnR w base vc C/\OffV vs vb
theorem lH {V:List Int} {L:List (Int × Int × Int)} {n:Nat} (hn:V.length=n) (h1:1<=n) (hL:∀ f ∈ L,1<=f.1/\f.1+2<=n):∀ c ∈ cJ V L,(c.2.1=1 ∨ c.2.1=-1)/\0<=c.1/\c.1<=n:=by
 intro c hc;unfold cJ at hc;simp only [List.mem_append] at hc
 rcases hc with (hc|hc)|hc
 ·obtain ⟨s,hs,rfl⟩:=List.mem_map.1 hc;have:=gh hs;exact ⟨.inl rfl,by simp only;omega,by simp only;omega⟩
 ·obtain ⟨f,hf,h2⟩:=List.mem_flatMap.1 hc;have:=hL f hf;simp only [twoC,List.mem_cons,List.not_mem_nil,or_false] at h2
  rcases h2 with rfl|rfl
  ·exact ⟨.inl rfl,by simp only;omega,by simp only;omega⟩
  ·exact ⟨.inr rfl,by simp only;omega,by simp only;omega⟩
 ·simp only [twoC,List.mem_cons,List.not_mem_nil,or_false] at hc
  rcases hc with rfl|rfl
  ·exact ⟨.inl rfl,by simp only;omega,by simp only;omega⟩
  ·exact ⟨.inr rfl,by simp only;omega,by simp only;omega⟩
theorem pe (V:List Int) (L:List (Int × Int × Int)):(cJ V L).length<=V.length+2*L.length+2:=by
 unfold cJ;have:=dh L (V.length-2);rw [List.length_append,List.length_append,cQ,dP];simp only [twoC,List.length_cons,List.length_nil];omega
theorem nat_beq {k q:Nat} {b:Bool} (h:b=decide (k=q)):((k:Int) == (q:Int))=b:=by
 subst h;by_cases e:k=q
 ·subst e;simp
 ·rw [decide_eq_false e];simp;omega
theorem ic {α β:Type} (f:α->β) {l:List α} {k:Nat} {x:α} (h:l[k]?=some x):(l.take k).map f++[f x]=(l.take (k+1)).map f:=by rw [fD h];simp
set_option maxHeartbeats 8000000 in
theorem qg {w:World} {p:Int} {a:Option Addr} {n cap:Nat} {V:List Int} (hV:Ints w a n cap V) {fa:Option Addr} {fn fcap:Nat} {L:List (Int × Int × Int)} (h:Fixs w fa fn fcap L) (hfn:fn<=1048576) :
 Calls Tryz.prog 124 #[pair p a n cap,.slice fa fn fcap] w fun e w' =>
  jv w' w.heap.size e (stAx p V L) (stBx p V L) (stCx p V L) (stOk p V L)/\Ext w w':=by
 obtain ⟨W,hW⟩:∃ W,W=(w.alloc (.cells #[.int .i64 p,.slice a n cap] 29)).alloc (.cells #[.slice none 0 0,.slice none 0 0,.slice none 0 0] 109):=⟨_,rfl⟩;have HWS:=ae (show W.heap.size=w.heap.size+2 by rw [hW];simp);have HX0:=ae (show Ext w W by rw [hW];exact (Ext.alloc _ _).trans (Ext.alloc _ _));have HWC:=ae (show W.cell? ⟨w.heap.size,1,none⟩=some (.slice a n cap) by rw [hW];simp);have HWD:=ae (show W.cell? ⟨w.heap.size,0,none⟩=some (.int .i64 p) by rw [hW];simp);have HWR:=ae (show W.heap[w.heap.size+1]?=some (.cells #[.slice none 0 0,.slice none 0 0,.slice none 0 0] 109 (0,0)) by rw [hW];exact aj _ _ _ (by simp));have HVL:=ae hV.hlen;have hvcap:=hV.hcap;have hvmax:=hV.hmax;have hfcap:=h.hcap;have hfmax:=h.hmax;have HFL:=ae h.hlen;have HF:=ae (h.ext HX0.out);have HVE:=ae (hV.ext HX0.out);have HC:=ae (qi (p:=p) (hV.ext HX0.out) (h.ext HX0.out) hfn);clear h hV;cases hg:dl p V L
 ·have HG:=ae (show stOk p V L=false by unfold stOk;rw [hg];rfl);rw [hg,hW] at HC;clear hg;go_enter Tryz.func124,Tryz.ntmps124
  go_wp2_with fail;refine HC.out.mono ?_;rw [<-hW];rintro e w1 ⟨rfl,hx1⟩;have hr0:w1.cell? ⟨w.heap.size+1,0,none⟩=some (.slice none 0 0):=by rw [cell_of_row w1 _ 0 _ _ _ ((hx1.block _ (by rw [HWS.out];omega)).trans HWR.out)];rfl
  have hr1:w1.cell? ⟨w.heap.size+1,1,none⟩=some (.slice none 0 0):=by rw [cell_of_row w1 _ 1 _ _ _ ((hx1.block _ (by rw [HWS.out];omega)).trans HWR.out)];rfl
  have hr2:w1.cell? ⟨w.heap.size+1,2,none⟩=some (.slice none 0 0):=by rw [cell_of_row w1 _ 2 _ _ _ ((hx1.block _ (by rw [HWS.out];omega)).trans HWR.out)];rfl
  have hrf:∀ j,w1.frozen? ⟨w.heap.size+1,j,none⟩=false:=fun j=>frozen_of_row w1 _ j _ _ ((hx1.block _ (by rw [HWS.out];omega)).trans HWR.out)
  have HX1:=ae (HX0.out.trans hx1);have hsz1:=hx1.size;rw [HWS.out] at hsz1;clear hx1;go_wp2_with fail;refine bodyPost_ret (v:=.tuple #[.agg #[.slice none 0 0,.slice none 0 0,.slice none 0 0],.bool false]) (by simp [results,Tryz.results124,go_sem,hr0,hr1,hr2]) rfl ⟨⟨_,_,_,[],by rw [HG.out],OwnV.nil _ _,?_,?_,?_,OffV.nil _⟩,?_⟩
  ·unfold stAx;rw [HG.out,if_neg (by simp)];exact bj.nil _ _
  ·unfold stBx;rw [HG.out,if_neg (by simp)];exact OwnI.nil _ _
  ·unfold stCx;rw [HG.out,if_neg (by simp)];exact OwnR.nil _ _
  ·exact ((HX1.out.setCell (by simp) _).setCell (by simp) _).setCell (by simp) _
 ·have hgo:bL p V=true/\2<=p/\ordX L ((V.length:Int)-2) L.length=true:=by
   unfold dl at hg;simp only [Bool.and_eq_true,decide_eq_true_eq] at hg;exact ⟨hg.1,hg.2.1,hg.2.2.1⟩
  obtain ⟨q,rfl,h1,h5,hlen,_,hvb⟩:=dG hgo.1;have h2q:2<=q:=by omega
  have hn4:4<=n:=by have:=cN_ge h2q h5;rw [<-HVL.out,hlen];exact this
  have hn32:n<=32:=by have:=eX q h5;rw [<-HVL.out,hlen];exact this.2
  have hLb:∀ f ∈ L,1<=f.1/\f.1+2<=n:=fun f hf=>by have:=ordX_mem hgo.2.2 f hf;have:=HVL.out;omega
  have HCO:=ae (fun (w1:World) (hx:Ext W w1)=>mI (w:=w1) (q:Int) (HVE.out.ext hx) hvb (by omega) (by omega) (HF.out.ext hx) hLb hfn);have HOKS:=ae (show stOk (q:Int) V L=allV (stC V L) by unfold stOk;rw [hg];rfl);obtain ⟨cols,hcols⟩:∃ c,c=cJ V L:=⟨_,rfl⟩;have HCM:=ae (lH HVL.out (by omega) hLb);have HCLN:=ae (pe V L);rw [<-hcols] at HCO HCM HCLN;have HCOLS:=ae hcols;rw [hg,hW] at HC;clear hg hgo hlen hvb hLb hcols;go_enter Tryz.func124,Tryz.ntmps124
  go_wp2_with fail;refine HC.out.mono ?_;rw [<-hW];clear hW;rintro e w1 ⟨rfl,hx1⟩;have HX1:=ae hx1;have hc0:=hx1.cellSome HWD.out;have hc1:=hx1.cellSome HWC.out;clear hx1 HC;go_wp2_with fail;clear hc0 hc1;refine (HCO.out w1 HX1.out).mono ?_;rintro e w2 ⟨⟨vcs,rfl,hoc⟩,hx2⟩;obtain ⟨ac,m,cc,rfl,hm⟩:=hoc.var;have HM:=ae hm.out;have HX2:=ae (HX1.out.trans hx2);have hsz2:=HX2.out.size;rw [HWS.out] at hsz2;have HOC:=ae ((hoc.mono (base':=w.heap.size+2) (by have:=HX1.out.size;rw [HWS.out] at this;omega)).ext (Ext.alloc w2 (.cells #[.slice none 0 0,.slice none 0 0,.slice none 0 0] 109)));have hccap:=hoc.slc.hcap;have hcmax:=hoc.slc.hmax;have hmb:m<=3000000:=by have h1:=HCLN.out;have h2:=HM.out;have h3:=HVL.out;have h4:=HFL.out;omega
  have HL0:=ae (LpO.new (w:=w2) (base:=w.heap.size+2) hsz2);clear hoc hm hx2 HCO;go_wp2_with fail
  go_loopg [8] (q+1) (fun gk ii wr=>∃ (k:Nat) (va vb:Value) (vs:List Value),Hid (gk+k=q+1)/\ii=.int .i64 (k:Int)/\Hid (LpO wr (w.heap.size+2) w2.heap.size va vb (.slice none 0 0) vs ((List.range k).map (rowC cols q)) ((List.range k).map fun k=>bitI (decide (k=q))) [])/\Hid (OwnG colE 175 wr (w.heap.size+2) (.slice ac m cc) cols)/\Hid (Ext W wr))
  case atStart=>exact ⟨0,_,_,_,ae (by omega),rfl,HL0,HOC,ae (HX2.out.trans (Ext.alloc _ _))⟩
  case round =>
   obtain ⟨g1,h_g1⟩:∃ x,x=gk:=⟨_,rfl⟩;subst h_g1;obtain ⟨wr1,h_wr1⟩:∃ x,x=wr:=⟨_,rfl⟩;subst h_wr1;obtain ⟨k,va,vb,vs,HK,rfl,HLP,HOK,HX⟩:=hrel;have hszr:=HX.out.size;rw [HWS.out] at hszr;have hcp:wr1.cell? ⟨w.heap.size,0,none⟩=some (.int .i64 (q:Int)):=HX.out.cellSome HWD.out;obtain ⟨aA,nA,cA,rfl,HNA⟩:=HLP.out.a.var;obtain ⟨aB,nB,cB,rfl,HNB⟩:=HLP.out.b.var;by_cases hkq:k<=q
   ·have HR0:=ae (OwnI.madeS wr1 wr1.heap.size _ rfl (Nat.le_refl _));go_wp2_with fail
    go_loopg [9,10] m (fun gk row jj wr=>∃ (j:Nat) (a1:Option Addr) (n1 p1:Nat),Hid (gk+j=m)/\jj=.int .i64 (j:Int)/\row=.slice a1 n1 p1/\Hid (OwnI wr wr1.heap.size (.slice a1 n1 p1) (rowC (cols.take j) q k))/\Hid (Ext wr1 wr))
    case atStart=>exact ⟨0,_,_,_,ae (by omega),rfl,rfl,HR0,ae (Ext.alloc _ _)⟩
    case round =>
     obtain ⟨g2,h_g2⟩:∃ x,x=gk:=⟨_,rfl⟩;subst h_g2;obtain ⟨wr2,h_wr2⟩:∃ x,x=wr:=⟨_,rfl⟩;subst h_wr2;obtain ⟨j,a1,n1,p1,HJ,rfl,rfl,HRO,HX3⟩:=hrel;have hsz3:=HX3.out.size;have hcp2:=HX3.out.cellSome hcp;by_cases hjm:j<m
     ·obtain ⟨cb,coff,⟨c0,sg,fr,cx,cy⟩,hca,hcx,hcc⟩:=(HOK.out.ext HX3.out).slc.at hjm;subst hca;have k0:wr2.cell? ⟨cb,coff+j*5,none⟩=some (.int .i64 c0):=hcc 0 _ rfl;have k1:wr2.cell? ⟨cb,coff+j*5+1,none⟩=some (.int .i64 sg):=hcc 1 _ rfl;have k2:wr2.cell? ⟨cb,coff+j*5+2,none⟩=some (.bool fr):=hcc 2 _ rfl;have hcm:=HCM.out (c0,sg,fr,cx,cy) (List.mem_of_getElem? hcx);simp only at hcm;obtain ⟨hsg,hc00,hc0n⟩:=hcm;have HSG:=ae hsg;obtain ⟨on,hon⟩:∃ b,b=onC q k (c0,sg,fr,cx,cy):=⟨_,rfl⟩;have HON:=ae hon;have HSN:=ae (show rowC (cols.take j) q k++[sg*bitI on]=rowC (cols.take (j+1)) q k by rw [hon];exact ic _ hcx);have HRL:=ae (show (rowC (cols.take j) q k).length<=3000000 by unfold rowC;rw [List.length_map,List.length_take];have:=HM.out;omega);have HNE:=ae (show some cb ≠ (Value.slice a1 n1 p1).ownBlock from fun e=>au (e:=3) (e':=175) (by decide) HRO.out (HOK.out.ext HX3.out) cb e.symm rfl);clear hcc hcx hon hsg
      go_upto_if 43 with fail
      go_cut [11] (fun bb wx=>bb=.bool on/\Hid (Ext wr2 wx))
      case first =>
       by_cases hlt:k<q
       ·have hrw:hasP c0 (k:Int)=on:=by rw [HON.out];unfold onC;rw [if_pos hlt]
        go_wp2_with (first|(go_at_call 79;refine (gF _ _ _ (by omega)).mono ?_;rw [hrw];rintro e w' ⟨rfl,rfl⟩));go_meet;exact ⟨rfl,ae (Ext.refl _)⟩
       ·have hfr:fr=on:=by rw [HON.out];unfold onC;rw [if_neg hlt]
        subst hfr;go_wp2_with fail;go_meet;exact ⟨rfl,ae (Ext.refl _)⟩
      obtain ⟨rfl,HXC⟩:=hcut;replace k1:=HXC.out.cellSome k1;have hk2:Ext wr1 wc.drew:=(HX3.out.trans HXC.out).trans (Ext.drew _);have hmul:IntKind.i64.wrap (sg*bitI on)=sg*bitI on:=by
       rw [IntKind.wrap_i64];have h1:=HSG.out;cases on <;> rcases h1 with rfl|rfl <;> decide
      have HKEEP:=ae (fun (w':World) (h:Ext wr1 w') (h1:w'.cell? ⟨cb,coff+j*5+1,none⟩=some (.int .i64 sg))=>(⟨h1,h⟩:w'.cell? ⟨cb,coff+j*5+1,none⟩=some (.int .i64 sg)/\Ext wr1 w'));have HROC:=ae (HRO.out.ext HXC.out);have hk1:Ext wc wc.drew:=Ext.drew wc;have hkA:Ext wc (wc.alloc (.cells #[.int .i64 (sg*bitI on)] 3)).drew:=(Ext.alloc _ _).trans (Ext.drew _);have XWC:=ae (HX3.out.trans HXC.out);have hszc:=XWC.out.size;have HK1C:=ae k1;clear k0 k2 hk2;go_wp2_with fail
      go_region_held3 (fun w'=>w'.cell? ⟨cb,coff+j*5+1,none⟩=some (.int .i64 sg)/\Ext wr1 w')
       (first
         | with_reducible exact HKEEP.out _ (XWC.out.trans hk1) (hk1.cellSome HK1C.out)
         | with_reducible exact HKEEP.out _ (XWC.out.trans hkA) (hkA.cellSome HK1C.out)
         | with_reducible exact HKEEP.out _ hk5 hc5)
       (first
         | (go_at_call 74
            (with_reducible refine (eE _ _).mono ?_)
            rintro e w4 ⟨rfl,rfl⟩)
         | (refine bH _ (by rfl) ?_
            refine bG _ _ (by rfl) wr1.heap.size (.slice a1 n1 p1) _ (by rfl) (HROC.out.ext hkA) _ 1 _ [sg*bitI on] (by rfl) ((Ints.oneS wc _ _ _ rfl).ext (Ext.drew _)) (by have:=HRL.out;omega) (by simp;omega) ?_;intro v5 w5 ho hg hnear;have hc5:=hg.cell (hkA.cellSome HK1C.out) HNE.out;obtain ⟨a5,n5,p5,rfl,HN5⟩:=ho.var;have HO5:=ae ho;have hk5:=aq (w0:=wr1) (XWC.out.trans hkA) hg (fun j hj=>(HROC.out.lt j hj).1)
            clear ho hg hnear)
         | fail)
      have X5:=ae hk5;clear hk5 hc5 hkA;clear hk1;go_wp2_with fail
      go_roundg (g2-1)
      case measure=>have:=HJ.out;omega
      case rel=>exact ⟨j+1,a5,n5,p5,ae (by have:=HJ.out;omega),by go_num,rfl,ae (by rw [<-HSN.out];exact HO5.out),X5⟩
     ·have hjm':j=m:=by have:=HJ.out;omega
      subst hjm';have HT:=ae (show cols.take j=cols from List.take_of_length_le (by rw [HM.out];exact Nat.le_refl _));rw [HT.out] at HRO;have HLP2:=ae (HLP.out.ext HX3.out);have hb0:=HLP2.out.c0;have HLN:=ae (show vs.length<=6 by rw [HLP.out.rows.len,List.length_map,List.length_range];omega);have HOK2:=ae (HOK.out.ext HX3.out);have XR:=ae (HX.out.trans HX3.out)
      go_wp2_with (first
       | (at_builtin;refine ea rfl _ _ rfl (w.heap.size+2) (.slice aA nA cA) vs rfl (HLP2.out.a.ext (Ext.alloc _ _)) _ _ 1 rfl (by simp;rfl) rfl (by have:=HLN.out;omega) (by simp;omega) ?_;intro v6 w6 ho hg hnear;have HL6:=ae (HLP.out.pushA (HX3.out.trans (Ext.alloc _ _)) (HRO.out.ext (Ext.alloc _ _)) (by omega) hg ho hnear);have hbox6:=HLP2.out.boxA (Ext.alloc _ _) hg;have hc6:=LpO.boxc0 hbox6;have hf6:=LpO.boxf hbox6 0;have HOK6:=ae ((HOK2.out.grownV (Ext.alloc _ _) HLP2.out.a (by decide) hg).setLp hbox6 (by decide) 0 v6);have X6:=ae (((XR.out.trans (Ext.alloc _ _)).grown hg (fun j hj=>by rw [HWS.out];exact (HLP.out.a.lt j hj).1)).store (b:=w2.heap.size) 0 (by rw [HWS.out];exact hsz2) v6);obtain ⟨a6,n6,p6,rfl,HN6⟩:=ho.var;clear ho hg hnear hbox6))
      have hcp7:=Ext.cellSome X6.out HWD.out;have hb7:=HL6.out.c1;clear hc6 hf6 hb0 hcp2;obtain ⟨w7,hw7⟩:∃ x,x=w6.setCell ⟨w2.heap.size,0,none⟩ (.slice a6 n6 p6):=⟨_,rfl⟩;have HOK7:=ae (show OwnG colE 175 w7 (w.heap.size+2) (.slice ac j cc) cols by rw [hw7];exact HOK6.out);rw [<-hw7] at HL6 X6 hcp7 hb7;rw [<-hw7];clear HOK6 hw7;have hglt:=HL6.out.lt;have hsz7:=X6.out.size;rw [HWS.out] at hsz7;obtain ⟨bq,hbq⟩:∃ b,b=decide (k=q):=⟨_,rfl⟩;have hbe:((k:Int) == (q:Int))=bq:=nat_beq hbq;have HBQ:=ae hbq;have HBL:=ae (show ((List.range k).map fun k=>bitI (decide (k=q))).length<=6 by simp;omega);clear hbq
      go_region_law (first
       | (refine bH _ rfl (bG _ _ rfl (w.heap.size+2) (.slice aB nB cB) _ rfl ((HL6.out.b.ext (Ext.alloc _ _)).ext (Ext.drew _)) _ 1 _ [bitI bq] rfl ((Ints.oneS _ _ _ _ rfl).ext (Ext.drew _)) (by have:=HBL.out;omega) (by simp;omega) ?_);intro v8 w8 ho hg hnear;have XA:=(Ext.alloc w7 (.cells #[.int .i64 (bitI bq)] 3)).trans (Ext.drew _);have HL8:=ae (HL6.out.pushB XA hg ho hnear);have hbox8:=HL6.out.boxB XA hg;have hc8:=LpO.boxc1 hbox8;have hf8:=LpO.boxf hbox8 1;have HOK8:=ae ((HOK7.out.grownI XA HL6.out.b (by decide) hg).setLp hbox8 (by decide) 1 v8);have X8:=ae (((X6.out.trans XA).grown hg (fun j hj=>by rw [HWS.out];exact (HL6.out.b.lt j hj).1)).store (b:=w2.heap.size) 1 (by rw [HWS.out];exact hsz2) v8);obtain ⟨a8,n8,p8,rfl,HN8⟩:=ho.var;clear ho hg hnear hbox8)
       | (go_simp;go_at_call 74;refine (eE _ _).mono ?_;rintro e w' ⟨rfl,rfl⟩))
      all_goals
       go_wp2
       go_roundg (g1-1)
       case measure=>have:=HK.out;omega
       case rel=>exact ⟨k+1,_,_,_,ae (by have:=HK.out;omega),by go_num,ae (by rw [List.range_succ,List.map_append,List.map_append];have:=HL8.out;rw [HBQ.out] at this;exact this),HOK8,X8⟩
   ·have hkq':k=q+1:=by have:=HK.out;omega
    have hnkq:¬ ((k:Int)<=(q:Int)):=by omega
    subst hkq';obtain ⟨AA,hAA⟩:∃ x,x=(List.range (q+1)).map (rowC cols q):=⟨_,rfl⟩;obtain ⟨BB,hBB⟩:∃ x,x=(List.range (q+1)).map fun k=>bitI (decide (k=q)):=⟨_,rfl⟩
    rw [<-hAA,<-hBB] at HLP;have HAA:=ae (show AA=stA q V L by rw [hAA,HCOLS.out];rfl);have HBB:=ae (show BB=stB q from hBB);clear hAA hBB;go_wp2_with fail
    go_loopg [12] m (fun gk jj wr=>∃ (j:Nat) (vc:Value),Hid (gk+j=m)/\jj=.int .i64 (j:Int)/\Hid (LpO wr (w.heap.size+2) w2.heap.size (.slice aA nA cA) (.slice aB nB cB) vc vs AA BB ((cols.take j).map fun c=>c.2.2.2))/\Hid (OwnG colE 175 wr (w.heap.size+2) (.slice ac m cc) cols)/\Hid (Ext W wr))
    case atStart=>exact ⟨0,_,ae (by omega),rfl,HLP,HOK,HX⟩
    case round =>
     obtain ⟨g3,h_g3⟩:∃ x,x=gk:=⟨_,rfl⟩;subst h_g3;obtain ⟨wr3,h_wr3⟩:∃ x,x=wr:=⟨_,rfl⟩;subst h_wr3;obtain ⟨j,vc,HJ,rfl,HL3,HO3,HX3⟩:=hrel;have hsz3:=HX3.out.size;rw [HWS.out] at hsz3;have hglt:=HL3.out.lt;have hb2:=HL3.out.c2;obtain ⟨aC,nC,cC,rfl,HNC⟩:=HL3.out.c.var;by_cases hjm:j<m
     ·obtain ⟨cb,coff,⟨c0,sg,fr,cx,cy⟩,hca,hcx,hcc⟩:=HO3.out.slc.at hjm;subst hca;have k3:wr3.cell? ⟨cb,coff+j*5+3,none⟩=some (.int .i64 cx):=hcc 3 _ rfl;have k4:wr3.cell? ⟨cb,coff+j*5+4,none⟩=some (.int .i64 cy):=hcc 4 _ rfl;have hcl:cb<wr3.heap.size:=World.block_lt_of_cell? _ _ k3;have HSN:=ae (show ((cols.take j).map fun c=>c.2.2.2)++[(cx,cy)]=(cols.take (j+1)).map fun c=>c.2.2.2 from ic (fun c:Col=>c.2.2.2) hcx);have HRL:=ae (show ((cols.take j).map fun c=>c.2.2.2).length<=3000000 by rw [List.length_map,List.length_take];have:=HM.out;omega);clear hcc hcx;go_wp2_with fail
      go_region_law (first
       | (refine bH _ rfl (dd _ _ rfl (w.heap.size+2) (.slice aC nC cC) _ rfl ((HL3.out.c.ext (Ext.alloc _ _)).ext (Ext.drew _)) _ 1 _ [(cx,cy)] rfl ((Rats.one' _ _ _ _ _ rfl).ext (Ext.drew _)) (by have:=HRL.out;omega) (by simp;omega) ?_);intro v8 w8 ho hg hnear;have XA:=(Ext.alloc wr3 (.cells #[.int .i64 cx,.int .i64 cy] 43)).trans (Ext.drew _);have HL8:=ae (HL3.out.pushC XA hg ho);have hbox8:=HL3.out.boxC XA hg;have hc8:=LpO.boxc2 hbox8;have hf8:=LpO.boxf hbox8 2;have HOK8:=ae ((HO3.out.grownR XA HL3.out.c (by decide) hg).setLp hbox8 (by decide) 2 v8);have X8:=ae (((HX3.out.trans XA).grown hg (fun j hj=>by rw [HWS.out];exact (HL3.out.c.lt j hj).1)).store (b:=w2.heap.size) 2 (by rw [HWS.out];exact hsz2) v8);obtain ⟨a8,n8,p8,rfl,HN8⟩:=ho.var;clear ho hg hnear hbox8))
      all_goals
       go_wp2
       go_roundg (g3-1)
       case measure=>have:=HJ.out;omega
       case rel=>exact ⟨j+1,_,ae (by have:=HJ.out;omega),by go_num,ae (by rw [<-HSN.out];exact HL8.out),HOK8,X8⟩
     ·have hjm':j=m:=by have:=HJ.out;omega
      subst hjm'
      have HT:=ae (show (cols.take j).map (fun c=>c.2.2.2)=stC V L by
       rw [List.take_of_length_le (by rw [HM.out];exact Nat.le_refl _),HCOLS.out];rfl)
      rw [HT.out] at HL3;have HAV:=ae (hJ HL3.out.c.rats);have HFO:=ae (HL3.out);have hrbl:(w.heap.size+1)<W.heap.size:=by rw [HWS.out];omega
      have HRB:=ae (fun (w':World) (hx:Ext W w')=>(hx.block _ hrbl).trans HWR.out);clear hb2;cases hav:allV (stC V L)
      ·have HNO:=ae (show stOk (q:Int) V L=false by rw [HOKS.out,hav]);rw [hav] at HAV;clear hav;have hb2:=HL3.out.c2;go_wp2_with fail;refine HAV.out.mono ?_;rintro e w4 ⟨rfl,hx4⟩;have hr0:=LpO.boxc0 (HRB.out w4 (HX3.out.trans hx4));have hr1:=LpO.boxc1 (HRB.out w4 (HX3.out.trans hx4));have hr2:=LpO.boxc2 (HRB.out w4 (HX3.out.trans hx4));have hrf:=LpO.boxf (HRB.out w4 (HX3.out.trans hx4));have XF:=ae (HX0.out.trans (HX3.out.trans hx4));clear hx4;go_wp2_with fail;refine bodyPost_ret (v:=.tuple #[.agg #[.slice none 0 0,.slice none 0 0,.slice none 0 0],.bool false]) (by simp [results,Tryz.results124,go_sem,hr0,hr1,hr2]) rfl ⟨⟨_,_,_,[],by rw [HNO.out],OwnV.nil _ _,?_,?_,?_,OffV.nil _⟩,?_⟩
       ·unfold stAx;rw [HNO.out,if_neg (by simp)];exact bj.nil _ _
       ·unfold stBx;rw [HNO.out,if_neg (by simp)];exact OwnI.nil _ _
       ·unfold stCx;rw [HNO.out,if_neg (by simp)];exact OwnR.nil _ _
       ·exact ((XF.out.store 0 (by omega) _).store 1 (by omega) _).store 2 (by omega) _
      ·have HYES:=ae (show stOk (q:Int) V L=true by rw [HOKS.out,hav]);rw [hav] at HAV;clear hav;have hb2:=HL3.out.c2;go_wp2_with fail;refine HAV.out.mono ?_;rintro e w4 ⟨rfl,hx4⟩;have hr0:=LpO.boxc0 (HRB.out w4 (HX3.out.trans hx4));have hr1:=LpO.boxc1 (HRB.out w4 (HX3.out.trans hx4));have hr2:=LpO.boxc2 (HRB.out w4 (HX3.out.trans hx4));have hrf:=LpO.boxf (HRB.out w4 (HX3.out.trans hx4));have HL4:=ae (HL3.out.ext hx4);have hd0:=HL4.out.c0;have hd1:=HL4.out.c1;have hd2:=HL4.out.c2;have hgl4:=HL4.out.lt;have XF:=ae (HX0.out.trans (HX3.out.trans hx4));clear hx4 hb2;go_wp2_with fail;refine bodyPost_ret (v:=.tuple #[.agg #[.slice aA nA cA,.slice aB nB cB,.slice aC nC cC],.bool true]) (by simp [results,Tryz.results124,go_sem,hr0,hr1,hr2]) rfl ⟨⟨_,_,_,vs,by rw [HYES.out],?_,?_,?_,?_,HL4.out.off⟩,?_⟩
       ·exact (((((OwnV.on HL4.out.a).set (by simp) _).set (by simp) _).set (by simp) _).here).mono' (by omega)
       ·unfold stAx;rw [HYES.out,if_pos rfl,Int.toNat_natCast,<-HAA.out];exact (((((bj.on HL4.out.rows).set (by simp) _).set (by simp) _).set (by simp) _).here).mono' (by omega)
       ·unfold stBx;rw [HYES.out,if_pos rfl,Int.toNat_natCast,<-HBB.out];exact (((((OwnI.on HL4.out.b).set (by simp) _).set (by simp) _).set (by simp) _).here).mono (by omega)
       ·unfold stCx;rw [HYES.out,if_pos rfl];exact (((((OwnR.on HL4.out.c).set (by simp) _).set (by simp) _).set (by simp) _).here).mono (by omega)
       ·exact ((XF.out.store 0 (by omega) _).store 1 (by omega) _).store 2 (by omega) _
end Go.Proofs.YthjjfkeacobikaaGreat
