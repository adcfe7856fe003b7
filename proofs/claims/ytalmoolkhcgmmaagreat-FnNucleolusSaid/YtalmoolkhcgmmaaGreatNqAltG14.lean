import Derived.Test.YtalmoolkhcgmmaaGreatNqAltG13
import Derived.Test.YtalmoolkhcgmmaaGreatNqAltG6
import Derived.Test.YtalmoolkhcgmmaaGreatNqAltG3
import Derived.Deep.DeepCutAuto
set_option linter.unusedVariables false
set_option linter.unusedSimpArgs false
namespace Go.Proofs.YtalmoolkhcgmmaaGreat
variable{B:j9}{base:k5}{cs C:j6}{n i k:Nat}{a:j8}{A:j7}{w:World}{l:j5}{s:Int}
set_option maxHeartbeats 16000000
def dt(B:j9)(base:k5)(cs:j6)(n i:Nat):k5:=Ac (B[i]?.getD 0) (xy base (cs[n+i]?.getD (0,0))).1
def AV(A:j7)(B:j9)(C:j6):Option AT :=
 (aJ (bM C.length B.length) 1000 (bF A B C.length)).bind fun p1 =>
   if(p1.costs[C.length+B.length]?.getD (0,0)).1<0 then
    some ⟨2,[],(List.range B.length).map (dt B (1,1) p1.costs C.length),[],(0,0),1000-p1.left⟩
   else(br C.length (p1.t,p1.left) B.length).bind fun s=>(aJ (bK C B.length) s.2 s.1).map fun p2 =>
    if 0<=p2.wX then⟨3,(xV p2.t).take C.length,[],ze p2.t C.length p2.wX.toNat B.length,(0,0),1000-p2.left⟩
    else⟨1,(xV p2.t).take C.length,(List.range B.length).map (dt B (0,1) p2.costs C.length),[],wR (p2.costs[C.length+B.length]?.getD (0,0)),1000-p2.left⟩
def eB(A:j7)(B:j9)(C:j6):AT :=
 if xF A B C=true then
  match AV A B C with
  | none=>be 4
  | some r=>if aD bj A B C r=true then r else be 4
 else be 0
theorem tQ{x:k5}(h:fq B base cs n i=some x):dt B base cs n i=x:=by
 unfold fq at h
 split at h
 ·exact Option.some.inj h
 ·cases h
theorem kC{a b:k5}(h:(xy a b).2=false):(xy a b).1=(0,0):=by
 unfold xy at h⊢
 split
 ·next hv=>rw[if_pos hv]at h;exact Lk h
 ·rfl
theorem tP(h:fq B base cs n i=none):o5 (dt B base cs n i)=false:=by
 unfold fq at h
 split at h
 ·cases h
 ·next hf =>
  unfold dt;rw[kC (by simpa using hf)];unfold Ac wR
  split<;>rfl
theorem uU(hv:o5 (cs[n+i]?.getD (0,0))=true):dt B (0,1) cs n i=dm B cs n i:=by
 unfold dt dm;rw[sR (x:=0) (c:=wR (cs[n+i]?.getD (0,0))) b9 b9 hv (by rw[cX];exact hv) (by rw[cH];grind)]
theorem ng{f:Nat->Option (Int×Int)}:∀{k:Nat},runT f k=none->∃i,i<k/\f i=none
 | 0,h=>by cases h
 | k+1,h=>by
   cases hk:runT f k with
   | none=>obtain⟨i,hi,hf⟩:=ng hk;exact⟨i,by omega,hf⟩
   | some l =>
     cases hf:f k with
     | none=>exact⟨k,by omega,hf⟩
     | some x=>rw[dB hk hf]at h;cases h
theorem O9(ok:xF A B C=true):
 AV A B C=zf A B C∨(zf A B C=none/\∃r,AV A B C=some r/\aD bj A B C r=false):=by
 obtain⟨h1,h2,h3,h4,h5,h6⟩:=ft ok;unfold AV zf;cases e1:aJ (bM C.length B.length) 1000 (bF A B C.length)with
 | none=>exact Or.inl rfl
 | some p1 =>
   simp only[Option.bind_some];by_cases yP:(p1.costs[C.length+B.length]?.getD (0,0)).1<0
   ·rw[if_pos yP,if_pos yP];cases hr:runT (fq B (1,1) p1.costs C.length) B.length with
    | some Y =>
      left
      have hY:(List.range B.length).map (dt B (1,1) p1.costs C.length)=Y:=by
       have:=jO (f:=fq B (1,1) p1.costs C.length) (F:=dt B (1,1) p1.costs C.length) (k:=B.length) fun i hi=>by
        have:=gN hr i hi;rw[this,tQ this]
       rw[hr]at this;exact(Option.some.inj this).symm
      rw[hY];rfl
    | none =>
      right
      refine⟨rfl,_,rfl,?_⟩;obtain⟨i,hi,hf⟩:=ng hr;have hv:=tP hf;unfold aD;rw[if_neg e7,if_pos rfl];simp only;rw[Bool.and_eq_false_iff]
      right
      unfold kO;rw[Bool.and_eq_false_iff]
      right
      cases hd:wY ((List.range B.length).map (dt B (1,1) p1.costs C.length)) (aw B)with
      | none=>rfl
      | some v =>
        exfalso
        have:=((dK hd).2.2.1 i (by simpa using hi)).1;rw[List.getElem?_map,List.getElem?_range hi,Option.map_some,Option.getD_some,hv]at this;cases this
   ·rw[if_neg yP,if_neg yP]
    left
    cases e2:br C.length (p1.t,p1.left) B.length with
    | none=>rfl
    | some s =>
      simp only[Option.bind_some];cases e3:aJ (bK C B.length) s.2 s.1 with
      | none=>rfl
      | some p2 =>
        simp only[Option.map_some]
        split
        ·rfl
        ·have i1:=(dJ (fT ok) e1).1;have i2:=(fp (s:=(p1.t,p1.left)) i1 e2).1;obtain⟨i3,e4,_⟩:=dJ i2 e3;obtain⟨c1,c2⟩:=dT i3 e4
         congr 2
         apply List.map_congr_left
         intro i hi;exact uU (c1.2 _ (j4 (List.mem_range.1 hi)))
theorem pF(A:j7)(B:j9)(C:j6):eB A B C=bV bj A B C:=by
 unfold eB bV
 split
 ·next ok =>
  rcases O9 ok with h|⟨h1,r,h2,h3⟩
  ·rw[h];cases zf A B C<;>rfl
  ·rw[h1,h2];simp only;rw[h3];rfl
 ·rfl
theorem nt(hn:xF A B C=true->∀j,j<C.length->IJ A C j):bV aV A B C=eB A B C:=by rw[pF];exact KQ hn
theorem O7(ok:xF A B C=true){r:AT}(h:zf A B C=some r)(hs:r.status=1):
 r.Y.length=B.length/\o5 r.value=true/\(∀k,k<r.Y.length->o5 (r.Y[k]?.getD (0,0))=true):=by
 obtain⟨h1,h2,h3,h4,h5,h6⟩:=ft ok;unfold zf at h;rw[h3]at h;cases e1:aJ (bM C.length A.length) 1000 (bF A B C.length)with
 | none=>rw[e1]at h;cases h
 | some p1 =>
   rw[e1]at h;simp only[Option.bind_some]at h
   split at h
   ·rw[Option.map_eq_some_iff]at h;obtain⟨Y,_,rfl⟩:=h;cases hs
   ·cases e2:br C.length (p1.t,p1.left) A.length with
    | none=>rw[e2]at h;cases h
    | some s =>
      rw[e2]at h;simp only[Option.bind_some]at h;rw[Option.map_eq_some_iff]at h;obtain⟨p2,e3,h⟩:=h
      split at h
      ·subst h;cases hs
      ·have i1:=(dJ (fT ok) e1).1;have i2:=(fp (s:=(p1.t,p1.left)) i1 e2).1;obtain⟨i3,e4,_⟩:=dJ i2 e3;obtain⟨c1,c2⟩:=dT i3 e4;subst h;refine⟨by simp[h3],?_,fun k hk=>?_⟩
       ·simp only;rw[cX];exact c1.2 _ b9
       ·simp only[List.length_map,List.length_range]at hk;simp only;rw[List.getElem?_map,List.getElem?_range hk,Option.map_some,Option.getD_some];have hv:=c1.2 (C.length+k) b9;unfold dm Ac
        split
        ·rw[cX,cX];exact hv
        ·rw[cX];exact hv
theorem eA{bound:j7->j6->j6->Nat->Bool}(h:(bV bound A B C).status=1):
 xF A B C=true/\zf A B C=some (bV bound A B C)/\aD bound A B C (bV bound A B C)=true/\(bV bound A B C).Y.length=B.length/\o5 (bV bound A B C).value=true/\∀k,k<(bV bound A B C).Y.length->o5 ((bV bound A B C).Y[k]?.getD (0,0))=true:=by
 cases ok:xF A B C with
 | false=>unfold bV at h;rw[if_neg (by rw[ok];simp)]at h;cases h
 | true =>
   cases hr:zf A B C with
   | none =>
     have e:bV bound A B C=be 4:=by unfold bV;rw[if_pos ok,hr]
     rw[e]at h;cases h
   | some r =>
     have e:bV bound A B C=if aD bound A B C r=true then r else be 4:=by unfold bV;rw[if_pos ok,hr]
     by_cases hc:aD bound A B C r=true
     ·rw[if_pos hc]at e;rw[e]at h⊢;have:=O7 ok hr h;exact⟨rfl,rfl,hc,this⟩
     ·rw[if_neg hc]at e;rw[e]at h;cases h
open Go.RowKit
structure zk(w:World)(a:j8)(n cap:Nat)(l:j5):Prop where
 hlen:l.length=n
 o3:n<=cap
 l9:cap<=9223372036854775807
 cell:∀k,k<n->∃b off,a=some ⟨b,off,none⟩/\∀k,k<n->w.cell? ⟨b,off+k*3,none⟩=some (.int .i64 (l[k]?.getD (0,0,0)).1)/\w.cell? ⟨b,off+k*3+1,none⟩=some (.int .i64 (l[k]?.getD (0,0,0)).2.1)/\w.cell? ⟨b,off+k*3+2,none⟩=some (.int .i64 (l[k]?.getD (0,0,0)).2.2)
theorem zk.ext{w':World}{cap:Nat}(h:zk w a n cap l)(hx:Ext w w'):zk w' a n cap l :=
 ⟨h.hlen,h.o3,h.l9,fun k hk=>let⟨b,off,e,hc⟩:=h.cell k hk;⟨b,off,e,fun k hk=>⟨hx.k6 (hc k hk).1,hx.k6 (hc k hk).2.1,hx.k6 (hc k hk).2.2⟩⟩⟩
theorem zk.at{cap:Nat}(h:zk w a n cap l)(hk:k<n):
 ∃b off x y z,a=some ⟨b,off,none⟩/\l[k]?.getD (0,0,0)=(x,y,z)/\w.cell? ⟨b,off+k*3,none⟩=some (.int .i64 x)/\w.cell? ⟨b,off+k*3+1,none⟩=some (.int .i64 y)/\w.cell? ⟨b,off+k*3+2,none⟩=some (.int .i64 z) :=
 let⟨b,off,e,hc⟩:=h.cell k hk;⟨b,off,_,_,_,e,rfl,(hc k hk).1,(hc k hk).2.1,(hc k hk).2.2⟩
theorem fA(h:k<l.length):l.take (k+1)=l.take k++[l[k]?.getD (0,0,0)]:=by
 rw[List.take_succ_eq_append_getElem h];simp[h]
theorem tR{U:j8}{I cap G:Nat}{J:j5}(h:zk w a n cap l)(h':zk w U I G J):
 Calls Tryz.prog 30 #[.slice a n cap,.slice U I G] w fun e w'=>e=.returned (.bool (decide (l=J)))/\yd w w':=by
 have hn:=h.o3;have hm:=h.l9;have hn':=h'.o3;have Xe:=h'.l9;have HL:=ae h.hlen;have K:=ae h'.hlen;by_cases hne:n=I
 ·subst hne;go_enter Tryz.func30,Tryz.ntmps30
  go_wp2
  go_loopw [13] (fun i wr=>∃k:Nat,k<=n/\i=.int .i64 k/\l.take k=J.take k/\yd w wr) (fun i _=>n-(intOf i).toNat)
  case atStart=>exact⟨0,Nat.zero_le _,rfl,rfl,yd.refl _⟩
  case round =>
   obtain⟨k,hk,rfl,W,hx⟩:=hrel;have HT:=ae W;clear W;by_cases hlt:k<n
   ·have h1:=h.ext hx.ext;have RL:=h'.ext hx.ext;obtain⟨b,off,x,y,z,rfl,R,yq,AZ,hc3⟩:=h1.at hlt;obtain⟨b',off',x',y',O,rfl,BY,Qb,XM,hc3'⟩:=RL.at hlt;have u:=ae R;have Z:=ae BY;clear R BY;by_cases hq:x=x'/\y=y'/\z=O
    ·obtain⟨rfl,rfl,rfl⟩:=hq
     go_wp2
     go_quiet (fail)
     go_wp2
     go_roundw
     case rel=>exact⟨k+1,by omega,by go_num,by rw[fA (j4 HL.o),fA (j4 K.o),HT.o,u.o,Z.o],hx.trans ⟨_,rfl⟩⟩
     case measure=>simp[intOf];omega
    ·have HQ:=ae hq;cases wO:(x == x')
     all_goals
      cases xM:(y == y')
      all_goals
       cases CE:(z == O)
     case neg.true.true.true=>exact absurd ⟨by simpa using wO,by simpa using xM,by simpa using CE⟩ hq
     all_goals
      clear hq
      go_wp2
      go_quiet (fail)
      go_wp2
      go_ret;refine⟨ag ?_,hx.trans ⟨_,rfl⟩⟩
      symm
      rw[decide_eq_false_iff_not];intro e;have:=u.o.symm.trans ((congrArg (fun l=>l[k]?.getD (0,0,0)) e).trans Z.o);simp only[Prod.mk.injEq]at this;exact HQ.o this
   ·go_wp2
    go_ret;refine⟨ag ?_,hx⟩
    symm
    rw[decide_eq_true_eq];have:=HT.o
    rwa [List.take_of_length_le (j4 HL.o),List.take_of_length_le (j4 K.o)]at this
 ·have PR:((n:Int) != (I:Int))=true:=by simp;omega
  have HN:=ae hne;clear hne;go_enter Tryz.func30,Tryz.ntmps30
  go_wp2
  go_ret;refine⟨ag ?_,yd.refl _⟩
  symm
  rw[decide_eq_false_iff_not];intro e;exact HN.o (by rw[<-HL.o,<-K.o,e])
def fixC(p:Int×Int×Int):List Value:=[.int .i64 p.1,.int .i64 p.2.1,.int .i64 p.2.2]
def M9(l:j5):Array Value:=(l.flatMap fixC).toArray
theorem Ql:∀(l:j5) (k:Nat),k<l.length->(l.flatMap fixC)[k*3]?=some (.int .i64 (l[k]?.getD (0,0,0)).1)/\(l.flatMap fixC)[k*3+1]?=some (.int .i64 (l[k]?.getD (0,0,0)).2.1)/\(l.flatMap fixC)[k*3+2]?=some (.int .i64 (l[k]?.getD (0,0,0)).2.2)
 | [],k,h=>absurd h e7
 | p::l,0,_=>by simp[fixC]
 | p::l,k+1,h=>by
   have:=Ql l k (by simpa using h);rw[show(k+1)*3=k*3+1+1+1 by omega]
   simpa[fixC]using this
theorem Na:∀(l:j5) (k:Nat) (x y z:Int),k<l.length->(((l.flatMap fixC).set (k*3) (.int .i64 x)).set (k*3+1) (.int .i64 y)).set (k*3+2) (.int .i64 z)=(l.set k (x,y,z)).flatMap fixC
 | [],k,_,_,_,h=>absurd h e7
 | p::l,0,_,_,_,_=>by simp[fixC]
 | p::l,k+1,x,y,z,h=>by
   have:=Na l k x y z (by simpa using h);rw[show(k+1)*3=k*3+1+1+1 by omega]
   simpa[fixC]using this
def FRow(w:World)(b:Nat)(t:TypeId)(l:j5):Prop:=w.heap[b]?=some (.cells (M9 l) t (0,0))
def yw(l:j5)(s:Int):Bool:=l.any fun f=>f.1 == s
theorem vh(h:k<l.length):yw (l.take (k+1)) s=(yw (l.take k) s||(l[k]?.getD (0,0,0)).1 == s):=by
 rw[fA h];simp[yw]
theorem Qf(h:k<l.length)(e:(l[k]?.getD (0,0,0)).1=s):yw l s=true:=by
 unfold yw;rw[List.any_eq_true];exact⟨l[k],List.getElem_mem h,by rw[List.getElem?_eq_getElem h]at e;simpa using e⟩
theorem lZ{cap:Nat}(h:zk w a n cap l)(s:Int):
 Calls Tryz.prog 85 #[.slice a n cap,.int .i64 s] w fun e w'=>e=.returned (.bool (yw l s))/\w=w':=by
 have o3:=h.o3;have l9:=h.l9;have HL:=ae h.hlen;have HF:=ae h;clear h;go_enter Tryz.func85,Tryz.ntmps85
 go_wp2_with fail
 go_loop [5] (fun ii=>∃k:Nat,k<=n/\ii=.int .i64 (k:Int)/\b7 (yw (l.take k) s=false)) (fun ii=>n-(intOf ii).toNat)
 case atStart=>exact⟨0,Nat.zero_le _,rfl,ae rfl⟩
 case round =>
  obtain⟨k,hk,rfl,HH⟩:=hrel;by_cases hlt:k<n
  ·obtain⟨b,off,x,y,z,rfl,hx,hc,yq,AZ⟩:=HF.o.at hlt;by_cases G:x=s
   ·have HT:=ae (Qf (l:=l) (k:=k) (s:=s) (by rw[HL.o];exact hlt) (by rw[hx];exact G));subst G;clear hx;go_wp2_with fail;go_ret;exact⟨ag HT.o.symm,rfl⟩
   ·have PD:(x == s)=false:=by simpa using G
    have HT:=ae (show yw (l.take (k+1)) s=false by rw[vh (by rw[HL.o];exact hlt),HH.o,hx];simpa using G);clear hx;go_wp2_with fail
    go_round
    case rel=>exact⟨k+1,by omega,by go_num,HT⟩
    case measure=>simp[intOf];omega
  ·have HT:=ae (show l.take k=l from List.take_of_length_le (by rw[HL.o];omega));go_wp2_with fail;go_ret;exact⟨ag (by have:=HH.o;rw[HT.o]at this;exact this.symm),rfl⟩
def bd(L:j5)(m:Nat):j9:=(yk 1 m).filter fun s=>!yw L s
theorem tW(L:j5)(m:Nat):bd L (m+1)=bd L m++(if yw L ((m:Int)+1)=true then [] else [(m:Int)+1]):=by
 unfold bd yk;rw[List.range_succ,List.map_append,List.filter_append]
 congr 1
 rw[List.map_singleton,show(1:Int)+(m:Int)=(m:Int)+1 by omega];simp only[List.filter_cons,List.filter_nil];cases yw L ((m:Int)+1)<;>rfl
theorem ew(L:j5)(m:Nat):(bd L m).length<=m:=by
 unfold bd;exact Nat.le_trans (List.length_filter_le _ _) (by simp[yk])
theorem iU{L:j5}{m:Nat}(h:s∈bd L m):1<=s/\s<=m/\yw L s=false:=by
 unfold bd yk at h;simp only[List.mem_filter,List.mem_map,List.mem_range,Bool.not_eq_true']at h;obtain⟨⟨i,hi,rfl⟩,h2⟩:=h;exact⟨by omega,by omega,h2⟩
theorem kw(x:Int)(a:j8)(n cap:Nat)(hn:n<=1000){J:j8}{fn K:Nat}{L:j5}(h:zk w J fn K L):
 Calls Tryz.prog 37 #[pair x a n cap,.slice J fn K] w fun e w'=>(∃v,e=.returned v/\o8 w' w.heap.size v (bd L (n-2)))/\Ext w w':=by
 obtain⟨m,hm⟩:=b8 (n-2);have HM:=ae hm;have HF:=ae h;have wM:=ae (Ext.alloc w (.cells #[.int .i64 x,.slice a n cap] 26));have HO:=ae (o8.yG (w.alloc (.cells #[.int .i64 x,.slice a n cap] 26)) (w.heap.size+1) (w.heap.size+1) e7 e7);rw[<-hm];clear h hm;go_enter Tryz.func37,Tryz.ntmps37
 go_wp2_with fail
 go_loopg [5,6] m (fun gk oo ii wr=>∃(k:Nat) (a1:j8) (n1 p1:Nat),b7 (gk+k=m)/\ii=.int .i64 ((k:Int)+1)/\oo=.slice a1 n1 p1/\b7 (o8 wr (w.heap.size+1) (.slice a1 n1 p1) (bd L k))/\b7 (Ext (w.alloc (.cells #[.int .i64 x,.slice a n cap] 26)) wr))
 case atStart=>exact⟨0,_,_,_,ae b9,by simp,rfl,HO,ae (Ext.alloc _ _)⟩
 case round =>
  obtain⟨g1,R⟩:=b8 gk;subst R;obtain⟨W,Z⟩:=b8 wr;subst Z;obtain⟨k,a1,n1,p1,G,rfl,rfl,xC,HX⟩:=hrel;have I:=HX.o.size;rw[World.size_alloc]at I;have hc:W.cell? ⟨w.heap.size,1,none⟩=some (.slice a n cap):=HX.o.k6 e7;have Bf:k<=m:=by have:=G.o;omega
  have hm1000:m<=1000:=by have:=HM.o;omega
  by_cases hlt:k<m
  ·have Bj:(k:Int)+1<(n:Int)-1:=by have:=HM.o;omega
   have HL:=ae (ew L k);have HC:=ae (lZ ((HF.o.ext wM.o).ext HX.o) ((k:Int)+1));have HS:=ae (tW L k);cases hb:yw L ((k:Int)+1)
   ·rw[hb]at HC HS;clear hb
    go_wp2_with (first
     | (go_at_call 85;refine HC.o.mono ?_;rintro e w' ⟨rfl,rfl⟩)
     | (at_builtin;refine bm rfl _ _ rfl (w.heap.size+1) (.slice a1 n1 p1) _ rfl (xC.o.ext (Ext.alloc _ _)) _ 1 _ [(k:Int)+1] rfl (Ints.Ad _ _ _ _ e7) (j4 HL.o) (by simp;omega) ?_;intro v5 w5 ho hg l7;obtain⟨a5,u,U,rfl,A9⟩:=ho.var;have xL:=ae ho;have X5:=ae (al (HX.o.trans (Ext.alloc _ _)) hg (fun j hj=>by have:=(xC.o.lt j hj);simp;omega));clear ho hg l7))
    go_roundg (g1-1)
    case measure=>have:=G.o;omega
    case rel=>exact⟨k+1,a5,u,U,ae (j4 G.o),by go_num,rfl,ae (by have:=xL.o;rw[HS.o];exact this),X5⟩
   ·rw[hb]at HC HS;clear hb
    go_wp2_with (first
     | (go_at_call 85;refine HC.o.mono ?_;rintro e w' ⟨rfl,rfl⟩))
    go_roundg (g1-1)
    case measure=>have:=G.o;omega
    case rel=>exact⟨k+1,a1,n1,p1,ae (j4 G.o),by go_num,rfl,ae (by have:=xC.o;rw[HS.o];simpa using this),HX⟩
  ·have O:k=m:=by have:=G.o;omega
   have hnlt:¬(k:Int)+1<(n:Int)-1:=by have:=HM.o;omega
   subst O;go_wp2_with fail;go_ret;exact⟨⟨_,rfl,xC.o.mono (Nat.le_succ _)⟩,wM.o.trans HX.o⟩
end Go.Proofs.YtalmoolkhcgmmaaGreat
