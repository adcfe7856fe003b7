import Derived.Test.YtalmoolkhcgmmaaGreatNqAltG14
import Derived.Test.YtalmoolkhcgmmaaGreatNqAltG43
import Derived.Test.YtalmoolkhcgmmaaGreatNqAltG6
import Derived.Lib.SliceRun
import Derived.Test.YtalmoolkhcgmmaaGreatNqAltG5
import Derived.Test.YtalmoolkhcgmmaaGreatNqAltG10
set_option linter.unusedVariables false
set_option linter.unusedSimpArgs false
namespace Go.Proofs.YtalmoolkhcgmmaaGreat
variable{l M:j9}{i base g n:Nat}{w:World}{fid:FuncId}{ca:Array Value}{a:j8}
set_option maxHeartbeats 16000000
set_option maxRecDepth 100000
open Go.RowKit
structure Kept(p:Int->Bool)(l M:j9)(i j:Nat):Prop where
 len:M.length=l.length
 le:i<=j
 jl:j<=l.length
 lo:M.take i=(l.take j).filter fun x=>!p x
 hi:∀k,j<=k->M[k]?.getD 0=l[k]?.getD 0
theorem Kept.drop{p:Int->Bool}{j:Nat}(h:Kept p l M i j)(hj:j<l.length)(hp:p (l[j]?.getD 0)=true):Kept p l M i (j+1) :=
 ⟨h.len,by have:=h.le;omega,by omega,by rw[cW hj,List.filter_append,<-h.lo];simp[hp],fun k hk=>h.hi k b9⟩
theorem Kept.keep{p:Int->Bool}{j:Nat}(h:Kept p l M i j)(hj:j<l.length)(hp:p (l[j]?.getD 0)=false):Kept p l (M.set i (l[j]?.getD 0)) (i+1) (j+1):=by
 have hi:i<M.length:=by have:=h.le;have:=h.len;omega
 refine⟨by rw[List.length_set];exact h.len,by have:=h.le;omega,by omega,?_,fun k hk=>?_⟩
 ·rw[cW hj,List.filter_append,<-h.lo,List.take_succ_eq_append_getElem (by rw[List.length_set];exact hi),List.take_set_of_le (Nat.le_refl _),List.getElem_set_self];simp[hp]
 ·have:=h.le;rw[List.getElem?_set_ne b9];exact h.hi k b9
theorem Kept.start{p:Int->Bool}(hi:i<l.length)(ha:(l.take i).all (fun x=>!p x)=true)(hp:p (l[i]?.getD 0)=true):Kept p l l i (i+1):=by
 refine⟨rfl,by omega,by omega,?_,fun _ _=>rfl⟩;rw[cW hi,List.filter_append];have:(l.take i).filter (fun x=>!p x)=l.take i:=List.filter_eq_self.2 fun x hx=>List.all_eq_true.1 ha x hx
 rw[this];simp[hp]
theorem o8.zeros{cap:Nat}:∀(m:Nat) {o:Nat} {w:World} {M:j9},o8 w base (.slice (some ⟨g,0,none⟩) n cap) M->∃G,o8 (w.setCells g o (List.replicate m (.int .i64 0))) base (.slice (some ⟨g,0,none⟩) n cap) G/\G.take o=M.take o
 | 0,_,_,M,h=>⟨M,h,rfl⟩
 | m+1,o,w,M,h=>by
   obtain⟨G,h1,h2⟩:=o8.zeros m (o:=o+1) (h.set o 0);refine⟨G,h1,?_⟩;have h3:=congrArg (List.take o) h2;rw[List.take_take,List.take_take,Nat.min_eq_left b9]at h3;rw[h3,List.take_set_of_le (Nat.le_refl _)]
theorem o8.KJ{cap:Nat}(h:o8 w base (.slice (some ⟨g,0,none⟩) n cap) M){k:Nat}(hk:k<=n):o8 w base (.slice (some ⟨g,0,none⟩) k cap) (M.take k):=by
 rcases h.2 with⟨he,h0⟩|⟨g',cap',cur,he,hb,hg,h1,h2,hs,ht⟩
 ·cases he
 ·simp only[Value.slice.injEq,Option.some.injEq,Addr.mk.injEq,and_true]at he;obtain⟨rfl,rfl,rfl⟩:=he;have hl:(M.take k).length=k:=by simp;omega
  refine⟨by simp,.inr ⟨g,cap,cur,by rw[hl],hb,hg,by omega,h2,hs,?_⟩⟩;rw[hl,List.map_take,<-ht,List.take_take,Nat.mul_one,Nat.mul_one,Nat.min_eq_left hk]
theorem o8.AW{cap:Nat}(h:o8 w base (.slice (some ⟨g,0,none⟩) n cap) l):base<=g/\g<w.heap.size/\(∀j,w.frozen? ⟨g,j,none⟩=false)/\∀k,k<n->w.cell? ⟨g,k,none⟩=some (.int .i64 (l[k]?.getD 0)):=by
 rcases h.2 with⟨he,h0⟩|⟨g',cap',cur,he,hb,hg,h1,h2,hs,ht⟩
 ·cases he
 ·have G:g'=g:=by simp only[Value.slice.injEq,Option.some.injEq,Addr.mk.injEq,and_true]at he;exact he.1.symm
  subst G;refine⟨hb,lt_of_block hg,fun j=>frozen_of_row w g' j cur _ hg,fun k hk=>?_⟩;obtain⟨b,off,e,hc⟩:=h.ints.at hk;simp only[Option.some.injEq,Addr.mk.injEq,and_true]at e;rw[<-e.1,<-e.2,Nat.zero_add]at hc;exact hc
theorem gj{B:Nat}{a:World}(b:Nat)(hb:B<=b):∀(G:List Value) (o:Nat) {w:World},Below B a w->Below B a (w.setCells b o G)
 | [],_,_,h=>h
 | v::r,o,w,h=>gj b hb r (o+1) (h.setCell hb v)
theorem KC(w:World):(zeroValue 3).run Tryz.prog w=.ok (.int .i64 0) w:=rfl
theorem qE{W0:World}{cap:Nat}{p:Int->Bool}(hX:Ext W0 w)(hb:W0.heap.size<=base)(h:o8 w base (.slice (some ⟨g,0,none⟩) n cap) l)(hn:0<n)(hg:IsGo Tryz.prog fid)(hf:FZ Tryz.prog W0 fid ca p):
 Calls Tryz.prog 64 #[.slice (some ⟨g,0,none⟩) n cap,.func (.func fid) #[] ca] w fun e w' =>
  (∃m,e=.returned (.slice (some ⟨g,0,none⟩) m cap)/\o8 w' base (.slice (some ⟨g,0,none⟩) m cap) (l.filter fun x=>!p x))/\Ext W0 w':=by
 have o3:=h.ints.o3;have l9:=h.ints.l9;have XI:∀(args:Array Value) (w:World),(callFunc fid args).run Tryz.prog w=.ok (.enter fid args) w:=hg;have HL:=ae h.ints.hlen;have HO:=ae h;have Oo:=h.AW.1;have VD:=ae Oo;have HF:=ae hf;have HX:=ae hX;have J:=ae (jp (w:=w) h.ints hg (hf.ext hX));clear h hf hX hg Oo;by_cases G:∃i,l.findIdx? p=some i
 ·obtain⟨i0,JD⟩:=G;have R:bU p l=(i0:Int):=by unfold bU;rw[JD]
  obtain⟨Bb,F5,O⟩:=List.findIdx?_eq_some_iff_getElem.1 JD;have xR:i0<n:=by rw[<-HL.o];exact Bb
  have An:(l.take i0).all (fun x=>!p x)=true:=by
   rw[List.all_eq_true];intro x hx;obtain⟨j,hj,rfl⟩:=List.mem_take_iff_getElem.1 hx;have:=O j b9
   simpa using this
  have OP:=ae (Kept.start (p:=p) Bb An (by rw[List.getElem?_eq_getElem Bb];exact F5));rw[R]at J;clear R JD F5 O An Bb;go_enter Tryz.func64,Tryz.ntmps64
  go_wp2_with fail;refine J.o.mono ?_;rintro e w1 ⟨rfl,wO⟩;have xz:=ae (HX.o.trans wO);have xC:=ae (HO.o.ext wO);have hne:((i0:Int) == -1)=false:=by simp
  clear wO;go_wp2_with fail
  go_loopg [5,6] n (fun gk ii jj wr=>∃(i j:Nat) (M:j9),b7 (gk+j=n+i0+1)/\ii=.int .i64 (i:Int)/\jj=.int .i64 (j:Int)/\b7 (Kept p l M i j)/\b7 (i<j)/\b7 (o8 wr base (.slice (some ⟨g,0,none⟩) n cap) M)/\b7 (Ext W0 wr))
  case atStart=>exact⟨i0,i0+1,l,ae b9,rfl,by simp,OP,ae b9,xC,xz⟩
  case round =>
   obtain⟨g1,r7⟩:=b8 gk;subst r7;obtain⟨K,o6⟩:=b8 wr;subst o6;obtain⟨i,j,M,Z,rfl,rfl,W,HIJ,HM,xZ⟩:=hrel;have IW:=HIJ.o;by_cases hlt:j<n
   ·have hc:=HM.o.AW.2.2.2 j hlt;rw[W.o.hi j (Nat.le_refl _)]at hc;obtain⟨x,hx⟩:=b8 (l[j]?.getD 0);rw[<-hx]at hc;have B9:=ae hx;have HC:=ae (HF.o x K xZ.o);have zt:j<l.length:=by rw[HL.o];exact hlt
    clear hx;cases hpx:p x
    ·have I:=ae (W.o.keep zt (by rw[<-B9.o];exact hpx));rw[<-B9.o]at I;rw[hpx]at HC;clear hpx;go_wp2_with fail;refine HC.o.mono ?_;rintro e w2 ⟨rfl,xg⟩;have U:=ae (HM.o.ext xg);have hci:=U.o.AW.2.2.2 i b9;have Cw:=U.o.AW.2.2.1;have hfi:=Cw i;have Ca:=ae (U.o.set i x);have u:=ae ((xZ.o.trans xg).store i (Nat.le_trans hb VD.o) (.int .i64 x));clear xg Cw;go_wp2_with fail
     go_roundg (g1-1)
     case measure=>have:=Z.o;omega
     case rel=>exact⟨i+1,j+1,_,ae (j4 Z.o),by go_num,by go_num,I,ae b9,Ca,u⟩
    ·have I:=ae (W.o.drop zt (by rw[<-B9.o];exact hpx));rw[hpx]at HC;clear hpx;go_wp2_with fail;refine HC.o.mono ?_;rintro e w2 ⟨rfl,xg⟩;have U:=ae (HM.o.ext xg);have u:=ae (xZ.o.trans xg);clear xg;go_wp2_with fail
     go_roundg (g1-1)
     case measure=>have:=Z.o;omega
     case rel=>exact⟨i,j+1,_,ae (j4 Z.o),rfl,by go_num,I,ae b9,U,u⟩
   ·have Ah:j=n:=by have:=W.o.jl;have:=HL.o;omega
    subst Ah;have EP:∀ty,(Builtin.clear_ #[24] ty #[.slice (some ⟨g,i,none⟩) (j-i) (cap-i)]).run Tryz.prog K=.ok (.tuple #[]) (K.setCells g i (List.replicate (j-i) (.int .i64 0))):=fun ty=>by
     refine Lib.run_clear_slice K _ 3 ty _ Tryz.underlying24 KC rfl rfl g i _ _ b9 (fun k hk=>?_) (fun k hk=>?_)
     ·rw[HM.o.AW.2.2.2 (i+k) b9];rfl
     ·exact HM.o.AW.2.2.1 _
    obtain⟨M',TJ,MW⟩:=o8.zeros (w:=K) (j-i) (o:=i) HM.o
    have HT:=ae (show M'.take i=l.filter fun x=>!p x by
     rw[MW,W.o.lo,List.take_of_length_le (by rw[HL.o];exact Nat.le_refl _)])
    have YZ:=ae TJ;have Ue:=ae (gj g (Nat.le_trans hb VD.o) (List.replicate (j-i) (.int .i64 0)) i xZ.o);clear MW TJ;go_wp2_with fail;go_ret;exact⟨⟨i,rfl,by rw[<-HT.o];exact YZ.o.KJ b9⟩,Ue.o⟩
 ·have R:bU p l=-1:=by
   unfold bU;cases hq:l.findIdx? p with
   | none=>rfl
   | some i=>exact absurd ⟨i,hq⟩ G
  have HFI:=ae (show l.filter (fun x=>!p x)=l by
   rw[List.filter_eq_self];intro x hx;cases hq:l.findIdx? p with
   | none=>have:=List.findIdx?_eq_none_iff.1 hq x hx;simpa using this
   | some i=>exact absurd ⟨i,hq⟩ G)
  rw[R]at J;clear R G;go_enter Tryz.func64,Tryz.ntmps64
  go_wp2_with fail;refine J.o.mono ?_;rintro e w1 ⟨rfl,wO⟩;have xz:=ae (HX.o.trans wO);have xC:=ae (HO.o.ext wO);clear wO;go_wp2_with fail;go_ret;exact⟨⟨n,rfl,by rw[HFI.o];exact xC.o⟩,xz.o⟩
def Sj(P:Program)(w:World)(fid:FuncId)(ca:Array Value)(p:Int×Int×Int->Bool):Prop :=
 ∀x y z (w1:World),Ext w w1->Calls P fid (#[.agg #[.int .i64 x,.int .i64 y,.int .i64 z]]++ca) w1 fun e w2=>e=.returned (.bool (p (x,y,z)))/\Ext w1 w2
theorem oa{cap:Nat}{l:j5}{p:Int×Int×Int->Bool}(h:zk w a n cap l)(hg:IsGo Tryz.prog fid)(hf:Sj Tryz.prog w fid ca p):
 Calls Tryz.prog 116 #[.slice a n cap,.func (.func fid) #[] ca] w fun e w'=>e=.returned (.int .i64 (bU p l))/\Ext w w':=by
 have hn:=h.o3;have hm:=h.l9;have XI:∀(args:Array Value) (w:World),(callFunc fid args).run Tryz.prog w=.ok (.enter fid args) w:=hg;have HL:=ae h.hlen;have HI:=ae h;have HF:=ae hf;clear h hf hg;go_enter Tryz.func116,Tryz.ntmps116
 go_wp2_with fail
 go_loopg [8] n (fun gk ii wr=>∃k:Nat,b7 (gk+k=n)/\ii=.int .i64 (k:Int)/\b7 ((l.take k).all (fun x=>!p x)=true)/\b7 (Ext w wr))
 case atStart=>exact⟨0,ae b9,rfl,ae rfl,ae (Ext.refl _)⟩
 case round =>
  obtain⟨g1,J⟩:=b8 gk;subst J;obtain⟨K,O⟩:=b8 wr;subst O;obtain⟨k,I,rfl,HA,HX⟩:=hrel;by_cases hlt:k<n
  ·obtain⟨b,off,x,y,z,rfl,G,y5,yq,AZ⟩:=(HI.o.ext HX.o).at hlt;have HC:=ae (HF.o x y z K HX.o);have yQ:k<l.length:=by rw[HL.o];exact hlt
   cases hb:p (x,y,z)
   all_goals rw[hb]at HC
   ·have HT:=ae (show(l.take (k+1)).all (fun x=>!p x)=true by rw[fA yQ,List.all_append,HA.o,G];simp[hb]);clear hb G;go_wp2_with fail;refine HC.o.mono ?_;rintro e w2 ⟨rfl,xg⟩;have xZ:=ae (HX.o.trans xg);clear xg;go_wp2_with fail
    go_roundg (g1-1)
    case measure=>have:=I.o;omega
    case rel=>exact⟨k+1,ae (j4 I.o),by go_num,HT,xZ⟩
   ·have HT:=ae (show bU p l=(k:Int)from fh (d:=(0,0,0)) yQ HA.o (by rw[G];exact hb));clear hb G;go_wp2_with fail;refine HC.o.mono ?_;rintro e w2 ⟨rfl,xg⟩;have xZ:=ae (HX.o.trans xg);clear xg;go_wp2_with fail;go_ret;exact⟨aU HT.o.symm,xZ.o⟩
  ·have HT:=ae (show l.take k=l from List.take_of_length_le (by rw[HL.o];have:=I.o;omega));go_wp2_with fail;go_ret;exact⟨aU (by rw[dZ];have:=HA.o;rwa [HT.o]at this),HX.o⟩
theorem kU{cap:Nat}{l:j5}{p:Int×Int×Int->Bool}(h:zk w a n cap l)(hg:IsGo Tryz.prog fid)(hf:Sj Tryz.prog w fid ca p):
 Calls Tryz.prog 67 #[.slice a n cap,.func (.func fid) #[] ca] w fun e w'=>e=.returned (.bool (l.any p))/\Ext w w':=by
 have HC:=ae (oa h hg hf);go_enter Tryz.func67,Tryz.ntmps67
 go_wp2_with fail;refine HC.o.mono ?_;rintro e w2 ⟨rfl,xg⟩
 go_wp2
 all_goals go_ret;refine⟨ag ?_,xg⟩;rw[<-ig]
theorem vg:IsGo Tryz.prog 68:=isGo Tryz.func68 e8 e8
theorem M3:IsGo Tryz.prog 66:=isGo Tryz.func66 e8 e8
theorem LW(x y z s:Int){b:Nat}(hc:w.cell? ⟨b,0,none⟩=some (.int .i64 s)):
 Calls Tryz.prog 68 #[.agg #[.int .i64 x,.int .i64 y,.int .i64 z],.pointer (some ⟨b,0,none⟩)] w fun e w'=>e=.returned (.bool (x == s))/\Ext w w':=by
 have HX:=ae (Ext.alloc w (.cells #[.int .i64 x,.int .i64 y,.int .i64 z] 62));have hb:b<w.heap.size:=World.block_lt_of_cell? _ _ hc;cases hq:(x == s)
 all_goals
  go_enter Tryz.func68,Tryz.ntmps68
  go_wp2_with fail;go_ret;exact⟨ag rfl,HX.o⟩
theorem PC(s:Int){b:Nat}{cap:Nat}{L:j5}(hc:w.cell? ⟨b,0,none⟩=some (.slice a n cap))(h:zk w a n cap L):
 Calls Tryz.prog 66 #[.int .i64 s,.pointer (some ⟨b,0,none⟩)] w fun e w'=>e=.returned (.bool (yw L s))/\Ext w w':=by
 have HX:=ae (Ext.alloc w (.cells #[.int .i64 s] 3));have hb:b<w.heap.size:=World.block_lt_of_cell? _ _ hc;have HC:=ae (kU (ca:=#[.pointer (some ⟨w.heap.size,0,none⟩)]) (p:=fun f=>f.1 == s) (h.ext HX.o) vg (fun x y z w1 hx=>LW x y z s (hx.k6 e7)));clear h;go_enter Tryz.func66,Tryz.ntmps66
 go_wp2_with fail;refine HC.o.mono ?_;rintro e w2 ⟨rfl,xg⟩;have xZ:=ae (HX.o.trans xg);clear xg;go_wp2_with fail;go_ret;exact⟨rfl,xZ.o⟩
theorem iA(x:Int)(a:j8)(n cap:Nat)(h4:3<=n)(hn:n<=1000){G:j8}{fn I:Nat}{L:j5}(h:zk w G fn I L):
 Calls Tryz.prog 24 #[pair x a n cap,.slice G fn I] w fun e w'=>(∃v,e=.returned v/\o8 w' w.heap.size v (bd L (n-2)))/\Ext w w':=by
 obtain⟨W,hW⟩:=b8 ((w.alloc (.cells #[.int .i64 x,.slice a n cap] 26)).alloc (.cells #[.slice G fn I] 31));have yI:=ae (show W.heap.size=w.heap.size+2 by rw[hW];simp);have wM:=ae (show Ext w W by rw[hW];exact(Ext.alloc _ _).trans (Ext.alloc _ _));have J:=ae (show W.cell? ⟨w.heap.size+1,0,none⟩=some (.slice G fn I)by rw[hW];simp);have HF:=ae (h.ext wM.o);have HA:=ae (show FZ Tryz.prog W 66 #[.pointer (some ⟨w.heap.size+1,0,none⟩)] (yw L)from fun s w1 hx=>PC s (hx.k6 J.o) (HF.o.ext hx));have HC:=ae (qC (w:=W) 1 ((n:Int)-2) (n-2) b9 b9 b9 b9);rw[hW]at HC;clear h;go_enter Tryz.func24,Tryz.ntmps24
 go_wp2_with fail;refine HC.o.mono ?_;rw[<-hW];clear hW;rintro e w1 ⟨⟨v,rfl,ho⟩,wO⟩;obtain⟨a1,m,c1,rfl,hm⟩:=ho.var;have O:0<m:=by have:=hm.out;rw[rC]at this;omega
 obtain⟨g,rfl,_,_,_⟩:=ho.block O;have HD:=ae (qE wO (Nat.le_refl _) ho O M3 HA.o);clear ho hm wO;go_wp2_with fail;refine HD.o.mono ?_;rintro e w2 ⟨⟨m2,rfl,K⟩,xg⟩;have yE:=ae K;have xZ:=ae xg;clear K xg;go_wp2_with fail;go_ret;exact⟨⟨_,rfl,yE.o.mono (by rw[yI.o];omega)⟩,wM.o.trans xZ.o⟩
theorem eM(x y:Int)(w:World)(h0:-9223372036854775807<=x)(h1:x<=9223372036854775807):
 Calls Tryz.prog 25 #[xO x y] w fun e w'=>e=.returned (xO (-x) y)/\Ext w w':=by
 go_enter Tryz.func25,Tryz.ntmps25
 go_wp2_with fail;refine bodyPost_ret (v:=xO (-x) y) (by simp[results,Tryz.results25,go_sem]) rfl ⟨rfl,?_⟩;exact(Ext.alloc _ _).trans (Ext.alloc _ _)
theorem fE(x y:Int)(w:World)(h0:-9223372036854775807<=x)(h1:x<=9223372036854775807):
 Calls Tryz.prog 36 #[xO x y] w fun e w'=>e=.returned (xO (-x) y)/\Ext w w':=by
 go_enter Tryz.func36,Tryz.ntmps36
 go_wp2_with fail;refine bodyPost_ret (v:=xO (-x) y) (by simp[results,Tryz.results36,go_sem]) rfl ⟨rfl,?_⟩;exact(Ext.alloc _ _).trans (Ext.alloc _ _)
end Go.Proofs.YtalmoolkhcgmmaaGreat
