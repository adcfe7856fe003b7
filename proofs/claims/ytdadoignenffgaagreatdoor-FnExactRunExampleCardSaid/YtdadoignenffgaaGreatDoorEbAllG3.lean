import Derived.Test.YtdadoignenffgaaGreatDoorEbAllG1
import Derived.Deep.RegionHeld3
import Derived.Deep.RegionLaw
import Derived.StillTailTactics
import Derived.Test.YtdadoignenffgaaGreatDoorEbAllG2
import Derived.Deep.DeepCutAuto
import Derived.Test.YtdadoignenffgaaGreatDoorEbAllG0
set_option linter.unusedVariables false
set_option linter.unusedSimpArgs false
namespace Go.Proofs.YtdadoignenffgaaGreatDoor
variable{w W:World}{n g k:Nat}{f:Nat->Option (Int×Int)}
set_option maxHeartbeats 16000000
open Go.RowKit
theorem o4.made(w:World)(base:Nat)(hb:base<=w.heap.size):o4 (w.alloc (.cells #[] 3)) base (.slice (some ⟨w.heap.size,0,none⟩) 0 0) [] :=
 aaY w #[] 0 hb e7 rfl
theorem iy{a:j6}{cap:Nat}{l:j7}(h:Ints w a n cap l)(hb:n<=1099511627776):
 Calls Tryz.prog 62 #[.slice a n cap] w fun e w'=>∃v,e=.returned v/\o4 w' w.heap.size v l/\Ext w w':=by
 have heq:∀w':World,(binOp .eql 30 (.slice a n cap) (.slice none 0 0)).run Tryz.prog w'=.ok (.bool a.isNone) w':=fun w'=>abJ w' _ _ a n cap 0 0 abC
 have HL:=ae h.hlen;cases a with
 | none =>
   have hl:l=[]:=by
    have:¬0<n:=fun hn=>by obtain⟨b,off,e,_⟩:=h.cell 0 hn;cases e
    exact Lj (j1 HL.o)
   simp only[ab0]at heq;go_enter Tryz.func62,Tryz.ntmps62
   go_wp2
   go_ret;exact⟨_,rfl,by rw[hl];exact o4.nil w _,Ext.refl _⟩
 | some ad =>
   simp only[ab1]at heq;have HI:=ae (h.alloc (.cells #[] 3));have HO:=ae (o4.made w w.heap.size (ao _));clear h;go_enter Tryz.func62,Tryz.ntmps62
   go_wp2_with (first|(at_builtin;refine bu rfl _ _ rfl w.heap.size _ _ rfl HO.o _ n _ l rfl HI.o (by simpa using hb) e8 ?_;intro v' w1 ho hg k9));go_ret;exact⟨_,rfl,ho,ak (Ext.alloc _ _) hg (fun k hk=>aas (Og (show some w.heap.size=some k from hk)))⟩
def Iw(l:j7)(x:Int):Bool:=l.contains x
theorem wU{a:j6}{cap:Nat}{l:j7}(x:Int)(h:Ints w a n cap l):
 Calls Tryz.prog 213 #[.slice a n cap,.int .i64 x] w fun e w'=>e=.returned (.bool (Iw l x))/\w=w':=by
 have hn:=h.l8;have hm:=h.l9;go_enter Tryz.func213,Tryz.ntmps213
 go_wp2
 go_loop [5] (fun i=>∃k:Nat,k<=n/\i=.int .i64 k/\b7 (Iw (l.take k) x=false)) (fun i=>n-(intOf i).toNat)
 case atStart=>exact⟨0,KJ _,rfl,ae rfl⟩
 case round =>
  obtain⟨k,hk,rfl,HA⟩:=hrel;by_cases hlt:k<n
  ·obtain⟨b,off,rfl,hc⟩:=h.at hlt;have HL:=ae h.hlen;by_cases hb:l[k]?.getD 0=x
   ·have AS:(l[k]?.getD 0 == x)=true:=by simpa using hb
    have HB:=ae hb;clear hb
    go_wp2
    go_ret;refine⟨ag ?_,rfl⟩
    symm
    have Ci:k<l.length:=by have:=HL.o;omega
    have:=HB.o;simp only[Ci,bk,l']at this;unfold Iw;rw[List.contains_iff_mem];exact this▸vl Ci
   ·have AS:(l[k]?.getD 0 == x)=false:=by simpa using hb
    have HB:=ae hb;clear hb
    go_wp2
    go_round
    case rel=>exact⟨k+1,by omega,by go_num,ae (by rw[cu (j1 HL.o)];have h1:=HA.o;unfold Iw at h1⊢;rw[List.contains_append,h1];simpa using fun e=>HB.o e.symm)⟩
    case measure=>simp[intOf];omega
  ·have HL:=ae h.hlen
   go_wp2
   go_ret;refine⟨ag ?_,rfl⟩;have:=HA.o;rw[p4 (j1 HL.o)]at this;exact this.symm
set_option maxRecDepth 100000
section
variable{w0 w:World}{cb:Nat}{a':j6}{n' c':Nat}{C:j7}{base:Nat}{a:j6}{n cap:Nat}
end
theorem Ints.CL(w:World)(x:Int)(t:TypeId)(n:Nat)(hn:n=w.heap.size):Ints (w.alloc (.cells #[.int .i64 x] t)) (some ⟨n,0,none⟩) 1 1 [x]:=by
 subst hn;exact Ints.one w x t
theorem o4.Az(w:World)(base n:Nat)(hn:n=w.heap.size)(hb:base<=w.heap.size):o4 (w.alloc (.cells #[] 3)) base (.slice (some ⟨n,0,none⟩) 0 0) []:=by
 subst hn;exact o4.made w base hb
structure ah(w W:World)(g:Nat)(p q:Int):Prop where
 ext:Ext w W
 ge:w.heap.size<=g
 cell:W.heap[g]?=some (.cells #[.int .i64 p,.int .i64 q] 62 (0,0))
theorem ah.lt{p q:Int}(h:ah w W g p q):g<W.heap.size:=mr h.cell
theorem ah.grow{G:World}{p q:Int}(h:ah w W g p q)(hx:Ext W G):ah w G g p q :=
 ⟨h.ext.trans hx,h.ge,(hx.block _ h.lt).trans h.cell⟩
theorem ah.c0{p q:Int}(h:ah w W g p q):W.cell? ⟨g,0,none⟩=some (.int .i64 p):=(aj h.cell).1
theorem ah.c1{p q:Int}(h:ah w W g p q):W.cell? ⟨g,1,none⟩=some (.int .i64 q):=(aj h.cell).2.1
theorem ah.free{p q:Int}(h:ah w W g p q)(o:Nat):W.frozen? ⟨g,o,none⟩=false:=(aj h.cell).2.2 o
theorem ah.new(h:Ext w W)(p q:Int):ah w (W.alloc (.cells #[.int .i64 p,.int .i64 q] 62)) W.heap.size p q :=
 ⟨h.trans (Ext.alloc _ _),h.size,L' _ _⟩
theorem ah.new'(h:Ext w W)(p q:Int)(hn:n=W.heap.size):ah w (W.alloc (.cells #[.int .i64 p,.int .i64 q] 62)) n p q:=by
 subst hn;exact ah.new h p q
theorem ah.put{p q:Int}(h:ah w W g p q)(I G:Int):ah w ((W.setCell ⟨g,0,none⟩ (.int .i64 I)).setCell ⟨g,1,none⟩ (.int .i64 G)) g I G :=
 ⟨(h.ext.setCell (p:=⟨g,0,none⟩) h.ge (.int .i64 I)).setCell (p:=⟨g,1,none⟩) h.ge (.int .i64 G),h.ge,by rw[ta _ _ _ _ _ _ (ta _ _ _ _ _ _ h.cell)];rfl⟩
theorem ah.zu{w':World}(h:Ext (w.alloc (.cells #[.int .i64 0,.int .i64 0] 62)).drew w'):ah w w' w.heap.size 0 0 :=
 ah.grow ⟨(Ext.alloc _ _).trans (Ext.drew _),ao _,L' w _⟩ h
theorem ah.zy{w':World}(h:Ext w W)(hx:Ext (W.alloc (.cells #[.int .i64 0,.int .i64 0] 62)) w'):ah w w' W.heap.size 0 0 :=
 ah.grow (ah.new h 0 0) hx
def runT(f:Nat->Option (Int×Int)):Nat->Option (j4)
 | 0=>some []
 | m+1=>(runT f m).bind fun l=>(f m).map fun x=>l++[x]
theorem eE{r:j4}{x:j8}(h:runT f k=some r)(hx:f k=some x):runT f (k+1)=some (r++[x]):=by simp[runT,h,hx]
theorem oW(h:runT f k=none):∀{n:Nat},k<=n->runT f n=none
 | n,hn=>by
   obtain⟨d,rfl⟩:∃d,n=k+d:=⟨n-k,by omega⟩;clear hn
   induction d with
   | zero=>exact h
   | succ d ih=>show(runT f (k+d)).bind _=none;rw[ih];rfl
theorem im{r:j4}(h:runT f k=some r)(hx:f k=none)(hn:k<n):runT f n=none :=
 oW (k:=k+1) (by simp[runT,h,hx]) e7
theorem dO{f:Nat->Option (Int×Int)}:∀{k:Nat} {r:j4},runT f k=some r->r.length=k
 | 0,r,h=>by simp only[runT,bA]at h;rw[<-h];rfl
 | k+1,r,h=>by
   cases hk:runT f k with
   | none=>simp[runT,hk]at h
   | some l =>
     cases hf:f k with
     | none=>simp[runT,hk,hf]at h
     | some x =>
       rw[eE hk hf]at h;simp only[bA]at h;rw[<-h,pk,dO hk]
       rfl
theorem lS{f:Nat->Option (Int×Int)}:∀{k:Nat} {r:j4},runT f k=some r->∀i,i<k->f i=some (r[i]?.getD (0,0))
 | 0,r,h=>fun i hi=>absurd hi e7
 | k+1,r,h=>fun i hi=>by
   cases hk:runT f k with
   | none=>simp[runT,hk]at h
   | some l =>
     cases hf:f k with
     | none=>simp[runT,hk,hf]at h
     | some x =>
       rw[eE hk hf]at h;simp only[bA]at h;subst h;have hl:=dO hk;by_cases Ow:i<k
       ·rw[Ep e7];exact lS hk i Ow
       ·obtain rfl:i=k:=by omega
        rw[<-hl,Y',l',hl,hf]
theorem tA{f:Nat->Option (Int×Int)}{F:Nat->j8}:∀{k:Nat},(∀i,i<k->f i=some (F i))->runT f k=some ((List.range k).map F)
 | 0,_=>rfl
 | k+1,h=>by
   rw[eE (tA fun i hi=>h i e7) (h k e7),TP,We]
   rfl
def Fo(A:j4)(k:j8)(B:j4)(i:Nat):Option (Int×Int) :=
 if(mulR k (B[i]?.getD (0,0))).2=true/\(Ab (A[i]?.getD (0,0)) (mulR k (B[i]?.getD (0,0))).1).2=true then some (Ab (A[i]?.getD (0,0)) (mulR k (B[i]?.getD (0,0))).1).1 else none
def Bl(A:j4)(k:j8)(B:j4):Option (j4):=if A.length=B.length then runT (Fo A k B) A.length else none
def az(C:j7):j4:=C.map fun c=>(c,1)
theorem eY(C:j7):(az C).length=C.length:=by simp[az]
theorem lJ{C:j7}(h:k<C.length):(az C)[k]?.getD (0,0)=(C[k]?.getD 0,1):=by simp[az,h]
def Eu(C:j7):Bool:=C.all fun c=>r9 c (-1000000000) 1000000000
end Go.Proofs.YtdadoignenffgaaGreatDoor
namespace Go.Proofs.YtdadoignenffgaaGreatDoor
variable{w:World}{a:j6}{n k:Nat}{C:j7}{l:j4}
set_option maxHeartbeats 16000000
set_option maxRecDepth 100000
open Go.RowKit
theorem mA{k1 k2:Int}{b:j6}{cap n' I:Nat}{A B:j4}(h:Rats w a n cap A)(h':Rats w b n' I B)(hbig:n<=1048576):
 Calls Tryz.prog 251 #[.slice a n cap,Aj k1 k2,.slice b n' I] w fun e w'=>(∃v,e=.returned (.tuple #[v,.bool (Bl A (k1,k2) B).isSome])/\o0 w' w.heap.size v ((Bl A (k1,k2) B).getD []))/\Ext w w':=by
 have HL:=ae h.hlen;have PX:=ae h'.hlen;have l9:=h.l9;have l8:=h.l8;have Ov:=h'.l9;have ON:=h'.l8;have HA:=ae h;have HB':=ae h';have HX:=ae (Ext.alloc w (.cells #[.int .i64 k1,.int .i64 k2] 62));clear h h';by_cases hne:n=n'
 ·subst hne;have HS:=ae (show Bl A (k1,k2) B=runT (Fo A (k1,k2) B) n by unfold Bl;rw[HL.o,PX.o,hI rfl]);have HO:=ae (o0.made (w.alloc (.cells #[.int .i64 k1,.int .i64 k2] 62)) (w.heap.size+1) e8);go_enter Tryz.func251,Tryz.ntmps251
  go_wp2_with fail
  go_loopg [8,22] n (fun gk o i wr=>∃(k:Nat) (a1:j6) (O p1:Nat) (r:j4),b7 (gk+k=n)/\i=.int .i64 (k:Int)/\o=.slice a1 O p1/\b7 (runT (Fo A (k1,k2) B) k=some r)/\b7 (o0 wr (w.heap.size+1) (.slice a1 O p1) r)/\b7 (Ext (w.alloc (.cells #[.int .i64 k1,.int .i64 k2] 62)) wr))
  case atStart=>exact⟨0,_,_,_,[],ae e7,rfl,rfl,ae rfl,ae (by simpa using HO.o),ae (Ext.alloc _ _)⟩
  case round =>
   obtain⟨k,a1,O,p1,r,HK,rfl,rfl,HR,zv,yZ⟩:=hrel;have F4:=yZ.o.size;rw[V4]at F4;by_cases hlt:k<n
   ·have Jy:wr.cell? ⟨w.heap.size,0,none⟩=some (.int .i64 k1):=yZ.o.j9 e8;have Jx:wr.cell? ⟨w.heap.size,1,none⟩=some (.int .i64 k2):=yZ.o.j9 e8;obtain⟨ab,BP,ax,ay,ha,K3,C9,C8⟩:=((HA.o.ext HX.o).ext yZ.o).at hlt;obtain⟨bb,Cp,Z,G,hb,BH,Ge,Gd⟩:=((HB'.o.ext HX.o).ext yZ.o).at hlt;subst ha hb;have HAX:=ae K3;have Au:=ae BH;obtain⟨p,q,one,hm⟩:∃p q ok,mulR (k1,k2) (Z,G)=((p,q),ok):=⟨_,_,_,rfl⟩;have HM:=ae hm;obtain⟨p2,q2,two,Hw⟩:∃u v ok,Ab (ax,ay) (p,q)=((u,v),ok):=⟨_,_,_,rfl⟩;have B6:=ae Hw;clear K3 BH hm Hw;go_upto_region 7 with fail
    go_cut [10,11] (fun sx so wx=>∃g:Nat,sx=.pointer (some ⟨g,0,none⟩)/\so=.bool one/\b7 (ah wr wx g p q))
    case first =>
     have k7:Ext wr wr.drew:=Ext.drew wr;have U:Ext wr (wr.alloc (.cells #[.int .i64 0,.int .i64 0] 62)).drew:=(Ext.alloc _ _).trans (Ext.drew _);have k8:=ae (fun(w':World) (h:Ext wr w')=>(⟨h.j9 Jy,h.j9 Jx,h.j9 Ge,h.j9 Gd,h⟩:w'.cell? ⟨w.heap.size,0,none⟩=some (.int .i64 k1)/\w'.cell? ⟨w.heap.size,1,none⟩=some (.int .i64 k2)/\w'.cell? ⟨bb,Cp+k*2,none⟩=some (.int .i64 Z)/\w'.cell? ⟨bb,Cp+k*2+1,none⟩=some (.int .i64 G)/\Ext wr w'))
     go_region_held3 (fun w'=>w'.cell? ⟨w.heap.size,0,none⟩=some (.int .i64 k1)/\w'.cell? ⟨w.heap.size,1,none⟩=some (.int .i64 k2)/\w'.cell? ⟨bb,Cp+k*2,none⟩=some (.int .i64 Z)/\w'.cell? ⟨bb,Cp+k*2+1,none⟩=some (.int .i64 G)/\Ext wr w')
      (first
        | with_reducible exact k8.o _ k7
        | with_reducible exact k8.o _ U
        | with_reducible exact k8.o _ ((k7.setCell (by first|(simp;done)|(simp;omega)) _).setCell (by first|(simp;done)|(simp;omega)) _)
        | with_reducible exact k8.o _ (k7.trans (Ext.alloc _ _))
        | with_reducible exact k8.o _ (q8.put _ _).ext)
      (first
        | (go_at_call 237
           (with_reducible refine(sz k1 k2 Z G _).mono ?_)
           rw[HM.o];rintro e w3 ⟨rfl,K⟩
           first|(with_reducible have q8:=ah.grow q8 K)|(with_reducible have q8:=ah.zu K)|(with_reducible have q8:=ah.zy k7 K)|skip
           first|(have Dy:=q8.c0;have Dx:=q8.c1;have Ev:=q8.free)|skip
           have k7:Ext wr w3:=by first|with_reducible exact k7.trans K|with_reducible exact U.trans K|with_reducible exact(k7.trans (Ext.alloc _ _)).trans K
           have A0:=k7.size)
        | fail)
     all_goals(go_wp2_with fail;go_meet;first|exact⟨_,rfl,rfl,ae (q8.put _ _)⟩|exact⟨_,rfl,rfl,ae (ah.new k7 _ _)⟩|exact⟨_,rfl,rfl,ae (ah.new' k7 _ _ e8)⟩)
    obtain⟨g,rfl,rfl,Q⟩:=hcut;have g0:=Q.o.c0;have g1:=Q.o.c1;replace C9:=Q.o.ext.j9 C9;replace C8:=Q.o.ext.j9 C8;clear Jy Jx Ge Gd;go_upto_region 8 with fail
    go_cut [12,13] (fun sx so wx=>∃g2:Nat,sx=.pointer (some ⟨g2,0,none⟩)/\so=.bool two/\b7 (ah wc wx g2 p2 q2))
    case first =>
     have k7:Ext wc wc.drew:=Ext.drew wc;have U:Ext wc (wc.alloc (.cells #[.int .i64 0,.int .i64 0] 62)).drew:=(Ext.alloc _ _).trans (Ext.drew _);have k8:=ae (fun(w':World) (h:Ext wc w')=>(⟨h.j9 C9,h.j9 C8,h.j9 g0,h.j9 g1,h⟩:w'.cell? ⟨ab,BP+k*2,none⟩=some (.int .i64 ax)/\w'.cell? ⟨ab,BP+k*2+1,none⟩=some (.int .i64 ay)/\w'.cell? ⟨g,0,none⟩=some (.int .i64 p)/\w'.cell? ⟨g,1,none⟩=some (.int .i64 q)/\Ext wc w'))
     go_region_held3 (fun w'=>w'.cell? ⟨ab,BP+k*2,none⟩=some (.int .i64 ax)/\w'.cell? ⟨ab,BP+k*2+1,none⟩=some (.int .i64 ay)/\w'.cell? ⟨g,0,none⟩=some (.int .i64 p)/\w'.cell? ⟨g,1,none⟩=some (.int .i64 q)/\Ext wc w')
      (first
        | with_reducible exact k8.o _ k7
        | with_reducible exact k8.o _ U
        | with_reducible exact k8.o _ ((k7.setCell (by first|(simp;done)|(simp;omega)) _).setCell (by first|(simp;done)|(simp;omega)) _)
        | with_reducible exact k8.o _ (k7.trans (Ext.alloc _ _))
        | with_reducible exact k8.o _ (q8.put _ _).ext)
      (first
        | (go_at_call 76
           (with_reducible refine(kh ax ay p q _).mono ?_)
           rw[B6.o];rintro e w4 ⟨rfl,J⟩
           first|(with_reducible have q8:=ah.grow q8 J)|(with_reducible have q8:=ah.zu J)|(with_reducible have q8:=ah.zy k7 J)|skip
           first|(have Dy:=q8.c0;have Dx:=q8.c1;have Ev:=q8.free)|skip
           have k7:Ext wc w4:=by first|with_reducible exact k7.trans J|with_reducible exact U.trans J|with_reducible exact(k7.trans (Ext.alloc _ _)).trans J
           have A0:=k7.size)
        | fail)
     all_goals(go_wp2_with fail;go_meet;first|exact⟨_,rfl,rfl,ae (q8.put _ _)⟩|exact⟨_,rfl,rfl,ae (ah.new k7 _ _)⟩|exact⟨_,rfl,rfl,ae (ah.new' k7 _ _ e8)⟩)
    obtain⟨g2,rfl,rfl,Ck⟩:=hcut;have X2:=ae ((yZ.o.trans Q.o.ext).trans Ck.o.ext);have As:=ae ((zv.o.ext Q.o.ext).ext Ck.o.ext);have h0:=Ck.o.c0;have h1:=Ck.o.c1;have HF:=ae (show Fo A (k1,k2) B k=if(one&&two)=true then some (p2,q2) else none by unfold Fo;rw[HAX.o,Au.o,HM.o];simp only;rw[B6.o];simp only[xf]);clear C9 C8 g0 g1;cases Gg:(one&&two)
    ·have HN:=ae (show runT (Fo A (k1,k2) B) n=none from im HR.o (by rw[HF.o,Gg];rfl) hlt);cases one
     case' true=>(have h2:two=false:=by simpa using Gg);subst h2
     all_goals
      clear Gg;go_wp2_with fail;refine bR (v:=.tuple #[.slice none 0 0,.bool false]) (by simp[results,adN,go_sem]) rfl ⟨⟨.slice none 0 0,by rw[HS.o,HN.o];rfl,by rw[HS.o,HN.o];exact o0.nil _ _⟩,HX.o.trans X2.o⟩
    ·obtain⟨rfl,rfl⟩:one=true/\two=true:=by simpa using Gg
     have DA:=ae (eE (x:=(p2,q2)) HR.o (by rw[HF.o];rfl));have A1:=ae (dO HR.o);have G7:=X2.o.size;rw[V4]at G7;clear Gg
     go_wp2_with (first
      | (at_builtin;refine aM rfl _ _ rfl (w.heap.size+1) (.slice a1 O p1) _ rfl (As.o.ext (Ext.alloc _ _)) _ 1 _ [(p2,q2)] rfl (Rats.one' _ _ _ _ _ e8) (by rw[A1.o];omega) (by simp;omega) ?_;intro v2 w4 ho hg k9;obtain⟨a2,n2,c2,rfl,Gu⟩:=ho.var;have Ar:=ae ho;have X5:=ae (ak (X2.o.trans (Ext.alloc _ _)) hg (fun j hj=>by have:=(As.o.lt j hj).1;simpa using this));clear ho hg k9))
     go_roundg (gk-1)
     case measure=>have:=HK.o;omega
     case rel=>exact⟨k+1,a2,n2,c2,_,ae (j1 HK.o),by go_num,rfl,DA,Ar,X5⟩
   ·have zQ:k=n:=by have:=HK.o;omega
    subst zQ;go_wp2_with fail;refine bR (v:=.tuple #[.slice a1 O p1,.bool true]) (by simp[results,adN,go_sem]) rfl ⟨⟨.slice a1 O p1,by rw[HS.o,HR.o];rfl,by rw[HS.o,HR.o];exact zv.o.mono (Cj _)⟩,HX.o.trans yZ.o⟩
 ·have HN:=ae (show Bl A (k1,k2) B=none by unfold Bl;rw[HL.o,PX.o,hD hne]);go_enter Tryz.func251,Tryz.ntmps251
  go_wp2_with fail;refine bR (v:=.tuple #[.slice none 0 0,.bool false]) (by simp[results,adN,go_sem]) rfl ⟨⟨.slice none 0 0,by rw[HN.o];rfl,by rw[HN.o];exact o0.nil _ _⟩,HX.o⟩
theorem cX(n:Int)(w:World):Calls Tryz.prog 71 #[.int .i64 n] w fun e w'=>e=.returned (Aj n 1)/\Ext w w':=by
 have HX:=ae (Ext.alloc w (.cells #[.int .i64 n,.int .i64 1] 62));go_enter Tryz.func71,Tryz.ntmps71
 go_wp2
 refine bR (v:=Aj n 1) (by simp[results,Tryz.results71,go_sem]) rfl ⟨rfl,HX.o⟩
theorem cO(n:Int)(w:World):Calls Tryz.prog 49 #[.int .i64 n] w fun e w'=>e=.returned (Aj n 1)/\Ext w w':=by
 have HX:=ae (Ext.alloc w (.cells #[.int .i64 n,.int .i64 1] 62));go_enter Tryz.func49,Tryz.ntmps49
 go_wp2
 refine bR (v:=Aj n 1) (by simp[results,Tryz.results49,go_sem]) rfl ⟨rfl,HX.o⟩
theorem mQ(h:k<C.length):az (C.take k)++[(C[k]?.getD 0,1)]=az (C.take (k+1)):=by
 rw[cu h];simp[az]
def en(C:j7):j4:=if Eu C=true then az C else []
theorem sp{cap:Nat}(h:Ints w a n cap C)(hbig:n<=1048576):
 Calls Tryz.prog 234 #[.slice a n cap] w fun e w'=>(∃v,e=.returned (.tuple #[v,.bool (Eu C)])/\o0 w' w.heap.size v (en C))/\Ext w w':=by
 have HL:=ae h.hlen;have l9:=h.l9;have l8:=h.l8;have HC:=ae h;clear h;have HO:=ae (o0.made w w.heap.size (ao _));go_enter Tryz.func234,Tryz.ntmps234
 go_wp2_with fail
 go_loopg [4,10] n (fun gk o i wr=>∃(k:Nat) (a1:j6) (I p1:Nat),b7 (gk+k=n)/\i=.int .i64 (k:Int)/\o=.slice a1 I p1/\b7 (Eu (C.take k)=true)/\b7 (o0 wr w.heap.size (.slice a1 I p1) (az (C.take k)))/\b7 (Ext w wr))
 case atStart=>exact⟨0,_,_,_,ae e7,rfl,rfl,ae rfl,HO,ae (Ext.alloc _ _)⟩
 case round =>
  obtain⟨k,a1,I,p1,O,rfl,rfl,HF,zv,yZ⟩:=hrel;by_cases hlt:k<n
  ·obtain⟨b,off,ha,hc⟩:=(HC.o.ext yZ.o).at hlt;subst ha;obtain⟨c,G⟩:=b9 (C[k]?.getD 0);rw[<-G]at hc;have Ll:=ae G;have F4:=yZ.o.size;clear G;have K:=ae (show k<C.length by have:=HL.o;omega);cases zU:r9 c (-1000000000) 1000000000
   ·have HN:=ae (show Eu C=false by
     rw[<-abo];intro hh;have:=py (k:=k) hh K.o
     rw[<-Ll.o,zU]at this;cases this)
    have HI:=ae (aq c (-1000000000) 1000000000 wr);rw[zU]at HI;clear zU;go_wp2_with fail;refine HI.o.mono ?_;rintro e w2 ⟨rfl,rfl⟩;go_wp2_with fail;refine bR (v:=.tuple #[.slice none 0 0,.bool false]) (by simp[results,Tryz.results234,go_sem]) rfl ⟨⟨.slice none 0 0,by rw[HN.o],by unfold en;rw[HN.o];exact o0.nil _ _⟩,yZ.o⟩
   ·have Xf:=ae (show Eu (C.take (k+1))=true by
     unfold Eu;rw[cu K.o,RN];have:=HF.o;unfold Eu at this;rw[this,<-Ll.o]
     simp only[ac5,aem,zU,Bool.and_self])
    have HI:=ae (aq c (-1000000000) 1000000000 wr);rw[zU]at HI;clear zU;go_wp2_with fail;refine HI.o.mono ?_;rintro e w2 ⟨rfl,rfl⟩;have L4:=ae (show(az (C.take k)).length=k by rw[eY,FX];have:=K.o;omega)
    go_wp2_with (first
     | (go_at_call 71;refine(cX c _).mono ?_;rintro e w3 ⟨rfl,J⟩;have U:=ae J;have Q:=ae (zv.o.ext J);have Fs:=J.size;clear J)
     | (at_builtin;refine aM rfl _ _ rfl w.heap.size (.slice a1 I p1) _ rfl (Q.o.ext (Ext.alloc _ _)) _ 1 _ [(c,1)] rfl (Rats.one' _ _ _ _ _ e8) (by rw[L4.o];omega) (by simp;omega) ?_;intro v2 w4 ho hg k9;obtain⟨a2,n2,c2,rfl,Gu⟩:=ho.var;have Ar:=ae ho;have X4:=ae (ak ((yZ.o.trans U.o).trans (Ext.alloc _ _)) hg (fun j hj=>(Q.o.lt j hj).1));clear ho hg k9))
    go_roundg (gk-1)
    case measure=>have:=O.o;omega
    case rel=>exact⟨k+1,a2,n2,c2,ae (j1 O.o),by go_num,rfl,Xf,ae (by have:=Ar.o;rw[Ll.o,mQ K.o]at this;exact this),X4⟩
  ·have Z:k=n:=by have:=O.o;omega
   subst Z;have HT:=ae (show C.take k=C from p4 (by rw[HL.o];exact ao _));go_wp2_with fail;refine bR (v:=.tuple #[.slice a1 I p1,.bool true]) (by simp[results,Tryz.results234,go_sem]) rfl ⟨⟨.slice a1 I p1,?_,?_⟩,yZ.o⟩
   ·have:=HF.o;rw[HT.o]at this;rw[this]
   ·have h1:=HF.o;have h2:=zv.o;rw[HT.o]at h1 h2;unfold en;rw[hI h1];exact h2
theorem ja{cap:Nat}(h:Ints w a n cap C)(G:n<=1048576):
 Calls Tryz.prog 193 #[.slice a n cap] w fun e w'=>(∃v,e=.returned v/\o0 w' w.heap.size v (en C))/\Ext w w':=by
 have HI:=ae (sp h G);clear h;go_enter Tryz.func193,Tryz.ntmps193
 go_wp2_with fail;refine HI.o.mono ?_;rintro e w1 ⟨⟨v,rfl,ho⟩,hx⟩;have HO:=ae ho;have HX:=ae hx;clear ho hx;go_wp2_with fail;go_ret;exact⟨⟨v,rfl,HO.o⟩,HX.o⟩
def Bb(l:j4):Bool:=l.all o9
theorem xk{p:j8->Bool}(h:k<l.length):(l.take (k+1)).all p=((l.take k).all p&&p (l[k]?.getD (0,0))):=by
 rw[gN h];simp
theorem vK{p:j8->Bool}(h:k<l.length)(hb:p (l[k]?.getD (0,0))=false):l.all p=false:=by
 rw[abg];exact⟨l[k],vl h,by rw[bk h]at hb;simpa using hb⟩
theorem ku{cap:Nat}(h:Rats w a n cap l):
 Calls Tryz.prog 112 #[.slice a n cap] w fun e w'=>e=.returned (.bool (Bb l))/\Ext w w':=by
 have l8:=h.l8;have l9:=h.l9;have HL:=ae h.hlen;have HI:=ae h;clear h;go_enter Tryz.func112,Tryz.ntmps112
 go_wp2_with fail
 go_loopg [3] n (fun gk ii wr=>∃k:Nat,b7 (gk+k=n)/\ii=.int .i64 (k:Int)/\b7 ((l.take k).all o9=true)/\b7 (Ext w wr))
 case atStart=>exact⟨0,ae e7,rfl,ae rfl,ae (Ext.refl _)⟩
 case round =>
  obtain⟨g1,J⟩:=b9 gk;subst J;obtain⟨K,O⟩:=b9 wr;subst O;obtain⟨k,I,rfl,HA,HX⟩:=hrel;by_cases hlt:k<n
  ·obtain⟨b,off,x,y,rfl,G,AB,Ba⟩:=(HI.o.ext HX.o).at hlt;have HC:=ae (aH x y K);cases hb:o9 (x,y)
   all_goals
    rw[hb]at HC
   ·have HF:=ae (show Bb l=false from vK (by rw[HL.o];exact hlt) (by rw[G];exact hb));clear G hb;go_wp2_with fail;refine HC.o.mono ?_;rintro e w2 ⟨rfl,zJ⟩;go_wp2_with fail;go_ret;exact⟨ag HF.o.symm,HX.o.trans zJ⟩
   ·have HT:=ae (show(l.take (k+1)).all o9=true by rw[xk (by rw[HL.o];exact hlt),HA.o,G,hb];rfl);clear G hb;go_wp2_with fail;refine HC.o.mono ?_;rintro e w2 ⟨rfl,zJ⟩;go_wp2_with fail
    go_roundg (g1-1)
    case measure=>have:=I.o;omega
    case rel=>exact⟨k+1,ae (j1 I.o),by go_num,HT,ae (HX.o.trans zJ)⟩
  ·have HT:=ae (show l.take k=l from p4 (by rw[HL.o];have:=I.o;omega));go_wp2_with fail;go_ret;exact⟨ag (by have:=HA.o;rw[HT.o]at this;exact this.symm),HX.o⟩
