import Derived.Test.YthpahcbmpoknmaaGreatDoorPzG48
import Derived.Deep.SlicePairs
set_option linter.all false
set_option maxHeartbeats 6000000
set_option maxRecDepth 100000
namespace Go.Proofs.YthpahcbmpoknmaaGreatDoor
open Ending renaming returned->atn
open List renaming length->Lp
open Obj renaming cells->SH
open Value renaming slice->FB,bool->ato,string->atr
open Go.Proofs.Tryz Go.RowKit Go.ChangeShapes Go.WideShapes Go.ChangeAt Go.Joins Go.Deep
def bd{P:Prop}(h:P:=by have:=IY.o;have:=Ma.o;omega):P:=h
variable{w:J}{a a':o6}{n n' cap' base b dap:Nat}{l:o3}{x:Int}{t:TypeId}
def vE(l:o7)(k:Nat):o7:=l.take k++List.replicate (Lp l-k) 0
theorem Yd(l:o7)(k:Nat)(h:k<=Lp l):Lp (vE l k)=Lp l:=by simp[vE];omega
theorem Et(l:o7):vE l 0=List.replicate (Lp l) 0:=by simp[vE]
theorem Ye(l:o7):vE l (Lp l)=l:=by simp[vE]
theorem Yc(l:o7)(k:Nat)(h:k<Lp l):(vE l k).set k (l[k]?.getD 0)=vE l (k+1):=by
 unfold vE;rw[O' _ _ t8];rw[cD h];obtain⟨m,hm⟩:∃m,Lp l-k=m+1:=⟨Lp l-k-1,by omega⟩;have G:Lp l-(k+1)=m:=O;have:k-(List.take k l).length=0:=t8;rw[hm,G,this];simp[VN]
theorem YD{cap:Nat}{l:o7}(h:d6 w a n cap l)(hb:n<=1099511627776):
 Calls prog 112 #[FB a n cap] w λe w'=>∃b,e=atn (GT b n n)/\kg w' b 3 l/\w.heap.size<=b/\D4 w w':=by
 have⟨hn,hm⟩:=h.ath;have hmk:=jk n hb;have G:=I h.hlen;go_in
 go_wp2
 go_loopw [4] (λi wr=>∃k:Nat,k<=n/\i=U k/\kg wr w 3 (vE l k)/\D4 w wr) (λi _=>n-(intOf i).toNat)
 ·exact⟨0,ef _,rfl,by unfold kg;rw[nE,Et,G.o],ZL⟩
 obtain⟨k,hk,rfl,K,hx⟩:=hrel;by_cases Z:k<n
 ·have h':=h.ext hx;obtain⟨b,off,rfl,hc⟩:=h'.at Z;have hold:=K.cell (k:=k) (by rw[Yd _ _ (l8 G.o)];have:=G.o;omega);have ZB:=K.free k;go_wp2
  go_roundw
  case rel=>exact⟨k+1,by omega,by go_num,by rw[<-Yc _ _ (l8 G.o)];exact K.set k _,hx.setCell (m9 _) _⟩
  exact k9
 go_wp2;go_ret;refine⟨_,rfl,?_,m9 _,hx⟩;have KE:k=Lp l:=l8 G.o;rw[KE,Ye]at K;exact K
def KA(left:Int)(n:Nat):Int:=if left<n then -1 else left-n
theorem zw(left:Int)(n:Nat)(h0:0<=left)(h1:left<=1048576):-1<=KA left n/\KA left n<=1048576/\(0<=KA left n->(n:Int)<=left):=by unfold KA;split<;>omega
theorem YF(w:J)(a:o6)(n cap:Nat)(left:Int)(h0:0<=left)(h1:left<=1048576)(hm:n<=9223372036854775807):
 Calls prog 88 #[FB a n cap,U left] w λe w'=>e=atn (U (KA left n))/\w=w':=by
 by_cases K:left<n
 ·have G:left-n<0:=by omega
  go_in
  go_wp2;go_ret;exact⟨au (by simp only[KA,i7 K]),rfl⟩
 have G:¬left-n<0:=O
 go_in
 go_wp2;go_ret;exact⟨au (by unfold KA;split<;>omega),rfl⟩
def G1{P:Prop}(h:P:=by
 go_wp2;go_ret;refine⟨ag ?_,hx⟩;symm;rw[cq];have:=HT.o
 rwa [aP (l8 HL.o),aP (l8 M4.o)]at this
 ):P:=h
theorem YH{cap:Nat}{l G:o7}(h:d6 w a n cap l)(h':d6 w a' n' cap' G):
 Calls prog 114 #[FB a n cap,FB a' n' cap'] w λe w'=>e=atn (ato (decide (l=G)))/\F8 w w':=by
 have⟨hn,hm⟩:=h.ath;have⟨hn',hm'⟩:=h'.ath;have HL:=I h.hlen;have M4:=I h'.hlen;by_cases hne:n=n'
 ·subst hne;go_in
  go_wp2
  go_loopw [5] (λi wr=>∃k:Nat,k<=n/\i=U k/\l.take k=G.take k/\F8 w wr) (λi _=>n-(intOf i).toNat)
  ·exact FU
  obtain⟨k,hk,rfl,Za,hx⟩:=hrel;have HT:=I Za;by_cases K:k<n
  ·have h1:=h.ext hx.ext;have ZT:=h'.ext hx.ext;obtain⟨b,off,rfl,hc⟩:=h1.at K;obtain⟨b',off',rfl,hc'⟩:=ZT.at K;by_cases Z:l[k]?.getD 0=G[k]?.getD 0
   ·have HQ:=I Z;have I6:(l[k]?.getD 0 != G[k]?.getD 0)=false:=by simp[Z]
    go_wp2
    go_quiet (fail)
    go_wp2
    go_roundw
    case rel=>exact⟨k+1,by omega,by go_num,by rw[cD (l8 HL.o),cD (l8 M4.o),HT.o,HQ.o],hx.trans ⟨_,rfl⟩⟩
    exact k9
   have HQ:=I Z;have I6:(l[k]?.getD 0 != G[k]?.getD 0)=true:=by simp[Z]
   go_wp2
   go_quiet (fail)
   go_wp2;go_ret;refine⟨ag ?_,hx.trans ⟨_,rfl⟩⟩;symm;rw[P3];intro e;exact HQ.o (by rw[e])
  exact G1
 exact V3
theorem PN(k:Int)(n i:Nat)(h:i<n):(Fx k n)[i]?.getD 0=k+i:=by simp[Fx,h]
def lU(k:Int)(l:o7)(i:Nat):o7:=Fx k i++l.drop i
theorem Cm(k:Int)(l:o7):lU k l 0=l:=by simp[lU,Fx]
theorem DT(k:Int)(l:o7):lU k l (Lp l)=Fx k (Lp l):=by simp[lU]
theorem DU(k:Int)(l:o7)(i:Nat)(h:i<Lp l):(lU k l i).set i (k+i)=lU k l (i+1):=by
 unfold lU;rw[O' _ _ (by simp[Fx])];have:i-(Fx k i).length=0:=by simp[Fx]
 rw[this,Xd h,Zq];simp[Fx,mr]
def NK{P:Prop}(h:P:=by
 have HO:=I FW;have HG:=I hg;clear FW hg;go_wp2;go_ret;have E':k=n:=by omega
 subst E';have:=HO.o;have hl:=HL.o;rw[<-hl,qq0,hl]at this;exact⟨rfl,this,HG,HS⟩
 ):P:=h
theorem Cf{cap:Nat}{l:o7}(h:y9 w base (FB a n cap) l)(G:Int)(h0:0<=G)(h1:G+n<=4611686018427387904):
 Calls prog 116 #[FB a n cap,U G] w λe w'=>e=atn (U (G+n))/\y9 w' base (FB a n cap) (Fx G n)/\w.grownBy w' (FB a n cap).ownBlock/\w'.heap.size=w.heap.size:=by
 have HL:=I h.ints.hlen;go_in
 go_wp2
 go_loopw [1,5] (λt i wr=>∃k:Nat,k<=n/\i=U k/\t=U (G+k)/\y9 wr base (FB a n cap) (lU G l k)/\w.grownBy wr (FB a n cap).ownBlock/\e9 (wr.heap.size=w.heap.size)) (λ_ i _=>n-(intOf i).toNat)
 ·exact⟨0,ef _,rfl,by simp,by rw[Cm];exact h,UH _ _,I rfl⟩
 obtain⟨k,hk,rfl,rfl,FW,hg,HS⟩:=hrel;by_cases Z:k<n
 ·obtain⟨g,rfl,hb,KG,LW⟩:=FW.block Z;have⟨b,off,he,hc⟩:=FW.ints.at Z;obtain⟨rfl,rfl⟩:=er he;clear he;rw[fs]at hc;have hfk:=KG k;obtain⟨v0,Fo⟩:∃v0,wr.cell? (IM g k)=some v0:=⟨_,hc⟩;have HO:=I FW;have HG:=I hg;go_wp2
  go_roundw
  case rel =>
   refine⟨k+1,by omega,by go_num,by go_num,?_,?_,I (by simp[HS.o])⟩
   ·rw[<-DU _ _ _ (l8 HL.o)];exact HO.set k _
   have hg:=HG.o;exact⟨hg.os,hg.tape,hg.output,by simpa using hg.size,λj hj K=>(If wr _ j _ (by intro e;exact K (by simp[Value.ownBlock,e]))).trans (hg.block j hj K)⟩
  exact k9
 have qq0:=@DT;exact NK
theorem Cc{cap:Nat}(G:Int)(h:d6 w a n cap (Fx G n))(h0:0<=G)(h1:G+n<=4611686018427387904):
 Calls prog 117 #[FB a n cap,U G] w λe w'=>e=atn (U (G+n))/\w=w':=by
 have⟨y7,y8⟩:=h.ath;go_in
 go_wp2
 go_loop [1,5] (λt i=>∃k:Nat,k<=n/\i=U k/\t=U (G+k)) (λ_ i=>n-(intOf i).toNat)
 ·exact⟨0,ef _,rfl,by simp⟩
 obtain⟨k,hk,rfl,rfl⟩:=hrel;by_cases K:k<n
 ·obtain⟨b,off,rfl,hc⟩:=h.at K;rw[PN _ _ _ K]at hc;have hne:((G+(k:Int)) != (G+(k:Int)))=false:=by simp
  go_wp2
  go_round
  case rel=>exact⟨k+1,by omega,by go_num,by go_num⟩
  exact k9
 exact Zj
theorem ru(x:Int)(a:o6)(n cap:Nat)(left:Int)(w:J)(K:0<=left)(G:left<=1048576)(hm:n<=9223372036854775807):
 f9 31 #[Id x a n cap,U left] w (U (KA left n)):=by
 have hb:=zw left n K G;have Q:=I (show KA left n<0->KA left n=-1 by unfold KA;split<;>omega);unfold f9;go_in
 go_wp2_with (go_at_call 88;refine cR (YF _ _ _ _ _ K G hm) ?_)
 all_goals go_ret;refine⟨au ?_,ZL⟩
 ·exact(Q Ux).symm
 rfl
theorem YE{cap:Nat}{l:o7}(h:d6 w a n cap l)(hb:n<=1099511627776):
 Calls prog 42 #[Id x a n cap] w λe w'=>∃b,e=atn (Id x (some (IM b 0)) n n)/\kg w' b 3 l/\w.heap.size<=b/\D4 w w':=by
 go_in
 go_wp2_with rfl;refine(YD (h.ext ?B0) hb).mono ?_
 case B0=>exact((ZL.trans ZL).trans ZL)
 rintro e w1 ⟨b,rfl,Z,Q,hx⟩;have G:=hx.cells;have hfs:=hx.Fl;have K:=I hx;go_wp2;have hbb':w.heap.size+1+1+1<=b:=by simpa using Q
 refine GE (by simp[results,results42,go_sem,G]<;>rfl) rfl ⟨b,rfl,?_,?_,?_⟩
 ·exact((Z.other t8 _).other t8 _).other t8 _
 ·omega
 exact((((ZL.trans ZL).trans ZL).trans K).setCell t8 _).setCell j9 _ |>.setCell j9 _
theorem YI{x':Int}{cap:Nat}{l K:o7}(h:d6 w a n cap l)(h':d6 w a' n' cap' K):
 f9 44 #[Id x a n cap,Id x' a' n' cap'] w (ato (decide (x=x')&&decide (l=K))):=by
 have G:(x != x')=!decide (x=x'):=by by_cases h:x=x'<;>simp[h]
 cases hd:decide (x=x')
 ·rw[hd]at G;unfold f9;go_in
  go_wp2;go_ret;exact⟨ag j9,ZL.trans ZL⟩
 rw[hd]at G;have Q:D4 w ((w.alloc (SH #[U x,FB a n cap] 31)).alloc (SH #[U x',FB a' n' cap'] 31)):=ZL.trans ZL;have HE:=I (YH (h.ext Q) (h'.ext Q));have B4:=I Q;cases Z:decide (l=K)
 all_goals
  have HL:=I Z;rw[Z]at HE;unfold f9;go_in
  go_wp2_with rfl;refine i6 HE λw1 hx=>?_;go_wp2;go_ret;exact⟨ag j9,B4.trans hx.ext⟩
theorem Ce{cap:Nat}{l:o7}(h:y9 w base (FB a n cap) l)(G:Int)(h0:0<=G)(Z:G+n<=4611686018427387904):
 Calls prog 46 #[Id x a n cap,U G] w λe w'=>e=atn (U (G+n))/\y9 w' base (FB a n cap) (Fx G n)/\w.grownBy w' (FB a n cap).ownBlock:=by
 have HO:=I (h.ext (D4.alloc w (SH #[U x,FB a n cap] 31)));go_in
 go_wp2_with rfl;refine(Cf HO.o G h0 Z).mono ?_;rintro e w1 ⟨rfl,ho,hg,hs⟩;have K:=I ho;have HG:=I (ms (gP (FB a n cap).ownBlock (D4.alloc w (SH #[U x,FB a n cap] 31))) hg (λk Q=>.inl Q));go_wp2;go_ret;exact⟨rfl,K,HG⟩
theorem Cb{cap:Nat}(G:Int)(h:d6 w a n cap (Fx G n))(Q:0<=G)(K:G+n<=4611686018427387904):
 f9 48 #[Id x a n cap,U G] w (U (G+n)):=by
 have Z:=I (h.alloc (SH #[U x,FB a n cap] 31));have Iy:¬(G+(n:Int)<0):=O;unfold f9;go_in
 go_wp2_with rfl;refine(Cc G Z.o Q K).mono ?_;rintro e w1 ⟨rfl,rfl⟩;go_wp2;go_ret;exact⟨rfl,ZL⟩
theorem xV(a:o6)(n cap:Nat)(left:Int)(w:J)(h0:0<=left)(h1:left<=1048576)(hm:n<=9223372036854775807):
 Calls prog 32 #[FB a n cap,U left] w λe w'=>e=atn (U (KA left n))/\w=w':=by
 by_cases G:left<n
 ·go_in
  go_wp2;go_ret;exact⟨au (by unfold KA;rw[i7 G]),rfl⟩
 go_in
 go_wp2;go_ret;exact⟨au (by unfold KA;rw[f8 O]),rfl⟩
theorem Ua(x y x' y':Int)(w:J):
 f9 115 #[.agg #[U x,U y],.agg #[U x',U y']] w (ato (decide (x=x')&&decide (y=y'))):=by
 have G:(x != x')=!decide (x=x'):=by by_cases h:x=x'<;>simp[h]
 have K:(y != y')=!decide (y=y'):=by by_cases h:y=y'<;>simp[h]
 cases Q:decide (x=x')
 all_goals
  rw[Q]at G;cases Z:decide (y=y')
  all_goals
   rw[Z]at K;unfold f9;go_in
   go_wp2;go_ret;exact⟨rfl,ZL.trans ZL⟩
theorem YG{cap:Nat}{l':o3}(h:i8 w a n cap l)(h':i8 w a' n' cap' l'):
 f9 45 #[FB a n cap,FB a' n' cap'] w (ato (decide (l=l'))):=by
 have⟨hn,hm⟩:=h.ath;have⟨hn',hm'⟩:=h'.ath;have HL:=I h.hlen;have M4:=I h'.hlen;by_cases K:n=n'
 ·subst K;unfold f9;go_in
  go_wp2
  go_loopw [5] (λi wr=>∃k:Nat,k<=n/\i=U k/\l.take k=l'.take k/\D4 w wr) (λi _=>n-(intOf i).toNat)
  ·exact⟨0,ef _,rfl,rfl,So⟩
  obtain⟨k,hk,rfl,Za,hx⟩:=hrel;have HT:=I Za;by_cases Z:k<n
  ·have h1:=h.ext hx;have ZT:=h'.ext hx;obtain⟨b,off,x,y,rfl,FI,FQ,IH⟩:=h1.at Z;obtain⟨b',G,x',y',rfl,LO,ags,agr⟩:=ZT.at Z;refine Fn FI LO hx λLD MO HX=>?_;have r7:=D4.drew wr;cases hq:(decide (x=x')&&decide (y=y'))
   all_goals
    have HQ:=I hq;go_wp2
    go_region_held3 (λw'=>w'.cell? (IM b (off+k*2))=some (U x)/\w'.cell? (IM b (off+k*2+1))=some (U y)/\w'.cell? (IM b' (G+k*2))=some (U x')/\w'.cell? (IM b' (G+k*2+1))=some (U y')/\D4 wr w')
     (exact⟨r7.o9 FQ,r7.o9 IH,r7.o9 ags,r7.o9 agr,r7⟩)
     (first
       | (go_at_call 115;refine i6 (Ua _ _ _ _ _) λw3 C0=>?_;rw[hq];have r7:=r7.trans C0))
    go_wp2
   ·go_ret;refine⟨ag ?_,HX.trans r7⟩;symm;rw[P3];intro e;have:=LD.symm.trans ((IR (λl=>l[k]?.getD (0,0)) e).trans MO);simp only[sj]at this;have h2:=HQ.o;rw[this.1,this.2]at h2;simp at h2
   go_roundw
   case rel =>
    have JJ:x=x'/\y=y':=by have:=HQ.o;simpa using this
    obtain⟨rfl,rfl⟩:=JJ;exact⟨k+1,by omega,by go_num,by rw[dO (l8 HL.o),dO (l8 M4.o),HT.o,LD.o,MO.o],HX.trans r7⟩
   exact k9
  exact G1
 have Ru:((n:Int) != (n':Int))=true:=t8;have HN:=I K;unfold f9;go_in
 go_wp2;go_ret;refine⟨ag ?_,So⟩;symm;rw[P3];intro e;exact HN.o K4
def eS(l:o3):Array atY:=(l.flatMap λp=>[Value.int .i64 p.1,Value.int .i64 p.2]).toArray
def Jt(w:J)(b:Nat)(t:TypeId)(l:o3):Prop:=w.heap[b]?=some (SH (eS l) t (0,0))
theorem Jt.cell(h:Jt w b t l){k:Nat}(G:k<Lp l):w.cell? (IM b (k*2))=some (U (l[k]?.getD (0,0)).1)/\w.cell? (IM b (k*2+1))=some (U (l[k]?.getD (0,0)).2):=by
 rw[UV w b _ _ t _ h,UV w b _ _ t _ h]
 simpa[eS]using pJ l k G
theorem Jt.free(h:Jt w b t l)(k:Nat):w.frozen? (IM b k)=false:=fy w b k _ t h
theorem Jt.lt(h:Jt w b t l):b<w.heap.size:=IO h
theorem Jt.set(h:Jt w b t l){k:Nat}(G:k<Lp l)(x y:Int):Jt ((w.setCell (IM b (k*2)) (U x)).setCell (IM b (k*2+1)) (U y)) b t (l.set k (x,y)):=by
 have Q:=aM w b (k*2) _ t (U x) h;have K:=aM _ b (k*2+1) _ t (U y) Q;unfold Jt;rw[K];have:=qN l k x y G;simp only[eS,List.setIfInBounds_toArray,this]
theorem Jt.ext{w':J}(h:Jt w b t l)(hx:D4 w w'):Jt w' b t l:=(hx.block b h.lt).trans h
theorem Jt.rats(h:Jt w b t l){cap:Nat}(G:Lp l=n)(hc:n<=cap)(hm:cap<=9223372036854775807):i8 w (some (IM b 0)) n cap l :=
 ⟨G,hc,hm,λ_ _=>⟨b,0,rfl,λk hk=>by rw[fs];exact h.cell O⟩⟩
def iU(l:o3)(k:Nat):o3:=l.take k++List.replicate (Lp l-k) (0,0)
theorem Er(l:o3)(k:Nat)(h:k<=Lp l):Lp (iU l k)=Lp l:=by simp[iU];omega
theorem Cs(l:o3):iU l 0=List.replicate (Lp l) (0,0):=by simp[iU]
theorem Ep(l:o3):iU l (Lp l)=l:=by simp[iU]
theorem Es(l:o3)(k:Nat)(h:k<Lp l):(iU l k).set k (l[k]?.getD (0,0))=iU l (k+1):=by
 unfold iU;rw[O' _ _ t8];rw[dO h];obtain⟨m,hm⟩:∃m,Lp l-k=m+1:=⟨Lp l-k-1,by omega⟩;rw[hm,show l.length-(k+1)=m by omega];simp[VN,TW (Nat.le_of_lt h)]
theorem RL(n:Nat)(hn:n<=1099511627776)(w:J):
 (Instr.makeSlice 32 (U n) (U n)).run prog w=.ok (GT w n n) (w.alloc (SH (eS (List.replicate n (0,0))) 80)):=by
 have⟨i,hi,Hl,Q,Z⟩:=Q0 Tryz.UF;have hr:=run_make (P:=prog) w 32 80 i (.agg #[U 0,U 0]) K7 hi Hl .i64 .i64 n n O (Int.le_refl _) (by rw[Z];omega) O;simp only[eI]at hr;rw[hr,Q];have:madeCells (Value.agg #[U 0,U 0]).cells (n*2)=eS (List.replicate n (0,0)):=by
  have K:(madeCells (Value.agg #[U 0,U 0]).cells (n*2)).toList=List.replicate (n*2) (Value.int .i64 0):=by
   refine nm.2 ⟨by simp[size_madeCells],λb hb=>?_⟩;unfold madeCells at hb;simp only[Array.toList_map,xl]at hb;obtain⟨i,_,rfl⟩:=hb;show(#[Value.int .i64 0,Value.int .i64 0]:Array atY)[i % 2]! = _;have:i % 2=0∨i % 2=1:=O;rcases this with h|h<;>rw[h]<;>rfl
  have G:(eS (List.replicate n (0,0))).toList=List.replicate (n*2) (Value.int .i64 0):=by
   unfold eS;refine nm.2 ⟨by rw[iz];simp,λb hb=>?_⟩;simp only[Wa,J3]at hb;obtain⟨p,⟨_,rfl⟩,h⟩:=hb
   simpa using h
  exact Array.toList_inj.1 (K.trans G.symm)
 rw[this]
theorem Tt(x y:Int)(w:J):
 f9 113 #[.agg #[U x,U y]] w (.agg #[U x,U y]):=by
 unfold f9;go_in
 go_wp2;refine GE (by simp[results,results113,go_sem]<;>rfl) rfl ⟨rfl,?_⟩;exact(ZL.trans ZL).trans ZL
theorem YC{cap:Nat}(h:i8 w a n cap l)(hb:n<=1099511627776):
 Calls prog 43 #[FB a n cap] w λe w'=>∃b,e=atn (GT b n n)/\Jt w' b 80 l/\w.heap.size<=b/\D4 w w':=by
 have⟨hn,hm⟩:=h.ath;have hmk:=RL n hb;have G:=I h.hlen;go_in
 go_wp2
 go_loopw [4] (λi wr=>∃k:Nat,k<=n/\i=U k/\e9 (Jt wr w 80 (iU l k))/\e9 (D4 w wr)) (λi _=>n-(intOf i).toNat)
 ·exact⟨0,ef _,rfl,I (by unfold Jt;rw[nE,Cs,G.o]),I ZL⟩
 obtain⟨k,hk,rfl,HR,Z⟩:=hrel;by_cases K:k<n
 ·have h':=h.ext Z.o;obtain⟨b,off,x,y,rfl,FI,hc,IH⟩:=h'.at K;have LD:=I FI;have MG:k<Lp (iU l k):=by rw[Er _ _ (l8 G.o)];have:=G.o;omega
  have Ka:=I MG;have Hk:=I (show k<Lp l by have:=G.o;omega);go_wp2_with rfl;refine i6 (Tt _ _ _) λw1 hx=>?_;have Ml:=I (HR.ext hx);have A6:=I (Z.trans hx);have hold:=Ml.cell Ka.o;have hold1:=hold.1;have hold2:=hold.2;have QP:=Ml.free (k*2);have VB:=Ml.free (k*2+1);go_wp2
  go_roundw
  case rel =>
   refine⟨k+1,by omega,by go_num,I ?_,I ((A6.setCell (m9 _) _).setCell (m9 _) _)⟩;rw[<-Es _ _ Hk.o,LD.o];exact Ml.set Ka.o x y
  exact k9
 go_wp2;go_ret;refine⟨_,rfl,?_,m9 _,Z⟩;have KE:k=Lp l:=l8 G.o;have:=HR.o
 rwa [KE,Ep]at this
theorem Jt.own(h:Jt w b 80 l)(hb:base<=b)(G:Lp l=n)(hm:n<=1099511627776):ZM w base (GT b n n) l:=by
 subst G;refine⟨?_,.inr ⟨b,Lp l,eS l,rfl,hb,h,m9 _,by simp[maxLen];omega,?_,?_⟩⟩
 ·exact iz l
 ·show(eS l).size=_;unfold eS
  simpa using iz l
 show List.take _ (eS l).toList=_;exact aP (by unfold eS;simpa using sw (iz l))
def M6(k:Int)(n:Nat):o3:=(List.range n).map λ(i:Nat)=>(k+2*(i:Int),k+2*(i:Int)+1)
theorem Ra(k:Int)(n i:Nat)(h:i<n):(M6 k n)[i]?.getD (0,0)=(k+2*i,k+2*i+1):=by simp[M6,h]
def jD(k:Int)(l:o3)(i:Nat):o3:=M6 k i++l.drop i
theorem DW(k:Int)(l:o3)(i:Nat)(h:i<=Lp l):Lp (jD k l i)=Lp l:=by simp[jD,M6];omega
theorem Cn(k:Int)(l:o3):jD k l 0=l:=by simp[jD,M6]
theorem DV(k:Int)(l:o3):jD k l (Lp l)=M6 k (Lp l):=by simp[jD]
theorem DX(k:Int)(l:o3)(i:Nat)(h:i<Lp l):(jD k l i).set i (k+2*i,k+2*i+1)=jD k l (i+1):=by
 unfold jD;rw[O' _ _ (by simp[M6])];have:i-(M6 k i).length=0:=by simp[M6]
 rw[this,Xd h,Zq];simp[M6,mr]
theorem Cg{cap:Nat}(h:ZM w base (FB a n cap) l)(G:Int)(h0:0<=G)(h1:G+2*n<=4611686018427387904):
 Calls prog 47 #[FB a n cap,U G] w λe w'=>e=atn (U (G+2*n))/\ZM w' base (FB a n cap) (M6 G n)/\w.grownBy w' (FB a n cap).ownBlock/\w'.heap.size=w.heap.size:=by
 have HL:=I h.rats.hlen;go_in
 go_wp2
 go_loopw [1,5] (λt i wr=>∃k:Nat,k<=n/\i=U k/\t=U (G+2*k)/\ZM wr base (FB a n cap) (jD G l k)/\w.grownBy wr (FB a n cap).ownBlock/\e9 (wr.heap.size=w.heap.size)) (λ_ i _=>n-(intOf i).toNat)
 ·exact⟨0,ef _,rfl,by simp,by rw[Cn];exact h,UH _ _,I rfl⟩
 obtain⟨k,hk,rfl,rfl,FW,hg,HS⟩:=hrel;by_cases Z:k<n
 ·obtain⟨g,rfl,hb,KG,LW⟩:=FW.block Z;have⟨b,off,x,y,he,FI,hc,hc'⟩:=FW.rats.at Z;obtain⟨rfl,rfl⟩:=er he;clear he;rw[fs]at hc hc';have hfk:=KG (k*2);have hfk':=KG (k*2+1);have HO:=I FW;have HG:=I hg;go_wp2
  go_roundw
  case rel =>
   refine⟨k+1,by omega,by go_num,by go_num,?_,?_,I (by simp[HS.o])⟩
   ·rw[<-DX _ _ _ (l8 HL.o)];have:=HO.set (k:=k) (by rw[DW _ _ _ (l8 HL.o)];have:=HL.o;omega) (G+2*k) (G+2*k+1);exact this
   have hg:=HG.o;refine⟨hg.os,hg.tape,hg.output,by simpa using hg.size,λj hj K=>?_⟩;have Ru:j≠g:=by intro e;exact K (by simp[Value.ownBlock,e])
   rw[If _ _ j _ Ru,If _ _ j _ Ru];exact hg.block j hj K
  exact k9
 have qq0:=@DV;exact NK
theorem Cd{cap:Nat}(G:Int)(h:i8 w a n cap (M6 G n))(h0:0<=G)(h1:G+2*n<=4611686018427387904):
 Calls prog 49 #[FB a n cap,U G] w λe w'=>e=atn (U (G+2*n))/\w=w':=by
 have⟨y7,y8⟩:=h.ath;go_in
 go_wp2
 go_loop [1,5] (λt i=>∃k:Nat,k<=n/\i=U k/\t=U (G+2*k)) (λ_ i=>n-(intOf i).toNat)
 ·exact⟨0,ef _,rfl,by simp⟩
 obtain⟨k,hk,rfl,rfl⟩:=hrel;by_cases K:k<n
 ·obtain⟨b,off,x,y,rfl,Q,hc,hc'⟩:=h.at K;rw[Ra _ _ _ K]at Q;simp only[sj]at Q;obtain⟨rfl,rfl⟩:=Q;have hne:((G+2*(k:Int)) != (G+2*(k:Int)))=false:=by simp
  have Ru:((G+2*(k:Int)+1) != (G+2*(k:Int)+1))=false:=j9;go_wp2
  go_round
  case rel=>exact⟨k+1,by omega,by go_num,by go_num⟩
  exact k9
 exact Zj
def nW(p:Int)(V:o7)(l:o3)(q:Int)(V':o7)(l':o3):Bool:=(decide (p=q)&&decide (V=V'))&&decide (l=l')
def Uw{P:Prop}(h:P:=by
 refine HE.mono ?_;rintro e w2 ⟨rfl,hx⟩;go_wp2;go_ret;exact⟨ag (by unfold nW;rw[HD.o,Gq.o];rfl),X1.trans hx⟩
 ):P:=h
theorem jB{p q:Int}{b Q:o6}{m K cap Z:Nat}{V V':o7}{l':o3}(h:d6 w a n cap V)(hr:i8 w b m dap l)(h':d6 w a' n' cap' V')(hr':i8 w Q K Z l'):
 f9 15 #[sess p a n cap b m dap,sess q a' n' cap' Q K Z] w (ato (nW p V l q V' l')):=by
 have G:D4 w ((w.alloc (SH #[U p,FB a n cap,FB b m dap] 34)).alloc (SH #[U q,FB a' n' cap',FB Q K Z] 34)):=ZL.trans ZL;refine Op G (YI (x:=p) (x':=q) (h.ext G) (h'.ext G)) (hr.ext G) (hr'.ext G) λB4 HG HR HR'=>?_;cases hd:(decide (p=q)&&decide (V=V'))
 all_goals
  cases hl:decide (l=l')
  all_goals
   have HD:=I hd;have Gq:=I hl;rw[hd]at HG;unfold f9;go_in
   go_wp2_with rfl;refine i6 HG λw1 hx=>?_;have c2:w1.cell? (IM w 2)=some (FB b m dap):=hx.o9 j9;have d2:w1.cell? (IM (w+1) 2)=some (FB Q K Z):=hx.o9 j9;have X1:=I (B4.trans hx);have HE:=I (YG (HR.ext hx) (HR'.ext hx));rw[Gq.o]at HE;go_wp2_with rfl
 ·go_ret;exact⟨ag (by unfold nW;rw[HD.o];rfl),X1⟩
 ·go_ret;exact⟨ag (by unfold nW;rw[HD.o];rfl),X1⟩
 ·exact Uw
 exact Uw
theorem qt(p:Int)(a:o6)(n cap:Nat)(b:o6)(m dap:Nat)(left:Int)(w:J)(Z:0<=left)(Q:left<=1048576)(hm:n<=9223372036854775807)(G:m<=9223372036854775807):
 f9 12 #[sess p a n cap b m dap,U left] w (U (KA (KA left n) m)):=by
 have hz:=zw left n Z Q;have HX:=I (D4.alloc w (SH #[U p,FB a n cap,FB b m dap] 41));by_cases hlt:KA left n<0
 ·have hs:KA left n=-1:=by omega
  have HF:=I (show KA (KA left n) m=-1 by rw[hs];unfold KA;rw[i7 O]);unfold f9;go_in
  go_wp2_with rfl;refine i6 (ru _ _ _ _ _ _ Z Q hm) λK hx=>?_;go_wp2;go_ret;exact⟨au HF.symm,HX.trans hx⟩
 have KZ:=zw (KA left n) m O O;by_cases F4:KA (KA left n) m<0
 ·have HF:=I (show KA (KA left n) m=-1 by omega);unfold f9;go_in
  go_wp2_with rfl;refine i6 (ru _ _ _ _ _ _ Z Q hm) λK hx=>?_;have c2:K.cell? (IM w 2)=some (FB b m dap):=hx.o9 j9;have X1:=I (HX.trans hx);go_wp2_with rfl;refine(xV _ _ _ _ _ O O G).mono ?_;rintro e w2 ⟨rfl,rfl⟩;go_wp2;go_ret;exact⟨au HF.symm,X1⟩
 unfold f9;go_in
 go_wp2_with rfl;refine i6 (ru _ _ _ _ _ _ Z Q hm) λK hx=>?_;have c2:K.cell? (IM w 2)=some (FB b m dap):=hx.o9 j9;have X1:=I (HX.trans hx);go_wp2_with rfl;refine(xV _ _ _ _ _ O O G).mono ?_;rintro e w2 ⟨rfl,rfl⟩;go_wp2;go_ret;exact⟨rfl,X1⟩
theorem jC{p:Int}{b:o6}{cap m:Nat}{V:o7}(h:d6 w a n cap V)(hr:i8 w b m dap l)(hb:n<=1099511627776)(R4:m<=1099511627776):
 Calls prog 14 #[sess p a n cap b m dap] w λe w'=>∃g k,e=atn (sess p (some (IM g 0)) n n (some (IM k 0)) m m)/\kg w' g 3 V/\Jt w' k 80 l/\w.heap.size<=g/\w.heap.size<=k/\D4 w w':=by
 have B9:D4 w (((w.alloc (SH #[U p,FB a n cap,FB b m dap] 41)).alloc (SH #[U 0,d9,d9] 34)).alloc (SH #[U 0,d9,d9] 34)):=(ZL.trans ZL).trans ZL;refine Op B9 (h.ext B9) (hr.ext B9) hr λB4 HA HB Qi=>?_;go_in
 go_wp2_with rfl;refine(YE HA.o hb).mono ?_;rintro e G ⟨g,rfl,A4,K3,hx⟩;have hT:G.heap[w.heap.size]?=some (SH #[U p,FB a n cap,FB b m dap] 41 (0,0)):=(hx.block _ t8).trans sn;have hR:G.heap[w.heap.size+1]?=some (SH #[U 0,d9,d9] 34 (0,0)):=(hx.block _ j9).trans (by rw[wZ j9];exact LE j9);have Z:G.heap[w.heap.size+1+1]?=some (SH #[U 0,d9,d9] 34 (0,0)):=(hx.block _ j9).trans (LE j9);have t2:G.cell? (IM w 2)=some (FB b m dap):=by rw[UV _ _ _ _ _ _ hT];rfl
 have s0:G.cell? (IM (w.heap.size+1+1) 0)=some (U 0):=by rw[UV _ _ _ _ _ _ Z];rfl
 have s1:G.cell? (IM (w.heap.size+1+1) 1)=some d9:=by rw[UV _ _ _ _ _ _ Z];rfl
 have s2:G.cell? (IM (w.heap.size+1+1) 2)=some d9:=by rw[UV _ _ _ _ _ _ Z];rfl
 have fs:∀o,G.frozen? (IM (w.heap.size+1+1) o)=false:=λo=>fy _ _ _ _ _ Z
 refine Fn hR Z (B4.trans hx) λMl JE A6=>?_;have hgg':w.heap.size+1+1+1<=g:=by simpa using K3
 have HGG:=I hgg';have Ja:=I A4;have hx1':D4 w ((G.setCell (IM (w.heap.size+1+1) 0) (U p)).setCell (IM (w.heap.size+1+1) 1) (GT g n n)):=(A6.setCell t8 _).setCell t8 _;have FJ:=I ((HB.ext hx));have HX1':=I hx1';have hrat:i8 ((G.setCell (IM (w.heap.size+1+1) 0) (U p)).setCell (IM (w.heap.size+1+1) 1) (GT g n n)) b m dap l:=by
  have FL:=FJ.o;refine⟨FL.hlen,FL.y7,FL.y8,λi hi=>?_⟩;have⟨bb,off,e,hc⟩:=Qi.cell i hi;refine⟨bb,off,e,λi hi=>?_⟩;have FQ:=hc i hi;have hlt:=vM _ _ FQ.1;have hne:∀o,((IM (w.heap.size+1+1) 0):Addr)≠(IM bb o):=λo e=>by have:=IR Addr.block e;simp at this hlt;omega
  have af5:∀o,((IM (w.heap.size+1+1) 1):Addr)≠(IM bb o):=λo e=>by have:=IR Addr.block e;simp at this hlt;omega
  rw[ZP _ _ _ _ (af5 _),ZP _ _ _ _ (hne _),ZP _ _ _ _ (af5 _),ZP _ _ _ _ (hne _)];exact⟨A6.o9 FQ.1,A6.o9 FQ.2⟩
 have HRAT:=I hrat;go_wp2_with rfl;refine(YC HRAT.o R4).mono ?_;rintro e K ⟨k,rfl,A4,Rb,hx⟩;have lt1:w.heap.size+1+1<G.heap.size:=vM _ _ s0;have hR:K.heap[w.heap.size+1]?=some (SH #[U 0,d9,d9] 34 (0,0)):=by
  rw[hx.block _ t8,If _ _ _ _ j9,If _ _ _ _ j9];exact Ml
 have Z:K.heap[w.heap.size+1+1]?=some (SH #[U p,GT g n n,d9] 34 (0,0)):=by
  rw[hx.block _ t8,aM _ _ _ _ _ _ (aM _ _ _ _ _ _ JE)];rfl
 have q0:K.cell? (IM (w+1) 0)=some (U 0):=by rw[UV _ _ _ _ _ _ hR];rfl
 have q1:K.cell? (IM (w+1) 1)=some d9:=by rw[UV _ _ _ _ _ _ hR];rfl
 have q2:K.cell? (IM (w+1) 2)=some d9:=by rw[UV _ _ _ _ _ _ hR];rfl
 have u0:K.cell? (IM (w.heap.size+1+1) 0)=some (U p):=by rw[UV _ _ _ _ _ _ Z];rfl
 have u1:K.cell? (IM (w.heap.size+1+1) 1)=some (GT g n n):=by rw[UV _ _ _ _ _ _ Z];rfl
 have u2:K.cell? (IM (w.heap.size+1+1) 2)=some d9:=by rw[UV _ _ _ _ _ _ Z];rfl
 have gr:∀o,K.frozen? (IM (w+1) o)=false:=λo=>fy _ _ _ _ _ hR
 have gs:∀o,K.frozen? (IM (w.heap.size+1+1) o)=false:=λo=>fy _ _ _ _ _ Z
 have C7:=I (HX1'.trans hx);have Ly:=I (((Ja.other (by simp;have:=HGG.o;omega) _).other (by simp;have:=HGG.o;omega) _).ext hx);have hkk':w.heap.size+1+1<k:=by simp at Rb;omega
 have MR:=I hkk';have Q3:=I A4;go_wp2;refine GE (by simp[results,results14,go_sem,q0,q1,q2]<;>rfl) rfl ⟨g,k,rfl,?_,?_,?_,?_,?_⟩
 ·have:=HGG.o;exact(((Ly.other t8 _).other t8 _).other t8 _).other t8 _
 ·have:=MR.o;unfold Jt;rw[If _ _ _ _ t8,If _ _ _ _ t8,If _ _ _ _ t8,If _ _ _ _ t8];exact Q3
 ·have:=HGG.o;omega
 ·have:=MR.o;omega
 exact(((C7.setCell t8 _).setCell j9 _).setCell j9 _).setCell j9 _
section
variable{w:J}{p:Int}{a b:o6}{n cap m dap:Nat}{V:o7}{X:o3}{base:Nat}
theorem ot(hV:y9 w base (FB a n cap) V)(hX:ZM w base (FB b m dap) X)(hb:base<=w.heap.size)(K:Int)(h0:0<=K)(h1:K+n+2*m<=4611686018427387904):
 Calls prog 16 #[sess p a n cap b m dap,U K] w λe w'=>e=atn (U (K+n+2*m))/\y9 w' base (FB a n cap) (Fx K n)/\ZM w' base (FB b m dap) (M6 (K+n) m)/\Below base w w'/\∀j<w.heap.size,some j≠(FB a n cap).ownBlock->some j≠(FB b m dap).ownBlock->w'.heap[j]?=w.heap[j]?:=by
 have⟨W,hW⟩:=j7 (w.alloc (SH #[U p,FB a n cap,FB b m dap] 34));have Z:=I (show D4 w W by rw[hW];exact ZL);have HB:=I (show C6 W w (U p) (FB a n cap) (FB b m dap)by rw[hW];exact LE rfl);refine kv (hV.ext Z) (hX.ext Z) hV.lt hX.lt hb λHV HX NC HLX Qi=>?_;have HM1:=I (Ce (x:=p) HV.o K h0 O);have⟨c0,c1,c2,cf⟩:=C6.c HB.o;go_in
 go_upto_region 1 with rfl;rw[<-hW];clear hW;go_wp2_with rfl;refine HM1.mono ?_;rintro e w2 ⟨rfl,ho,hg⟩;refine kv (show C6 w2 w (U p) (FB a n cap) (FB b m dap)from(hg.block _ (IO HB) (λe=>by have:=(NC _ e.symm).2;omega)).trans HB) ho (HX.keep λj G=>hg.block j (HX.lt j G).2 λe=>aD (show(80:Nat)≠3 by decide) HX.o HV.o j G e.symm) (show Below base w w2 from Below.grown (lx Z.o Qi) hg (bR Qi.o Z.size) (λj G=>(HV.lt j G).1)) (λ(j:Nat) (G:j<w.heap.size) (ha:some j≠(FB a n cap).ownBlock)=>(hg.block j (C' G Z.size) ha).trans (Z.block j G)) λGL Q C7 Iu HF2=>?_;have⟨c0,c1,c2,cf⟩:=C6.c GL.o;have OV:=I (Cg C7.o (K+n) O O);go_wp2_with rfl;refine OV.mono ?_;rintro e w3 ⟨rfl,ho,hg,_⟩;refine Fn ho (Q.keep λj G=>hg.block j (Q.lt j G).2 λe=>aD (show(3:Nat)≠80 by decide) Q.o C7.o j G e.symm) (show Below base w w3 from Below.grown Iu.o hg (bR Qi.o Iu.size) (λj G=>(C7.lt j G).1)) λC5 HV3 QB=>?_
 have HF3:=I (λ(j:Nat) (G:j<w.heap.size) (ha:some j≠(FB a n cap).ownBlock) (hb:some j≠(FB b m dap).ownBlock)=>(hg.block j (C' G Iu.size) hb).trans (HF2 j G ha));go_wp2;go_ret;exact⟨rfl,HV3,C5,QB,HF3⟩
theorem oq(G:Int)(hV:d6 w a n cap (Fx G n))(hX:i8 w b m dap (M6 (G+n) m))(h0:0<=G)(h1:G+n+2*m<=4611686018427387904):
 f9 17 #[sess p a n cap b m dap,U G] w (U (G+n+2*m)):=by
 have⟨W,K⟩:=j7 (w.alloc (SH #[U p,FB a n cap,FB b m dap] 34));have Q:=I (show D4 w W by rw[K];exact ZL);have HB:=I (show C6 W w (U p) (FB a n cap) (FB b m dap)by rw[K];exact LE rfl);have Z:=I (Cb (x:=p) G (hV.ext Q) h0 O);have HX:=I (hX.ext Q);have⟨c0,c1,c2,cf⟩:=C6.c HB.o;have Ht:¬(G+(n:Int)<0):=O;have Pc:¬(G+(n:Int)+2*(m:Int)<0):=O;unfold f9;go_in
 go_upto_region 1 with rfl;rw[<-K];clear K;go_wp2_with rfl;refine i6 Z λw2 hx=>?_;refine Fn (Q.trans hx) (Cd (G+n) (HX.ext hx) O O) (hx.blk HB) λC7 OV GL=>?_;have⟨c0,c1,c2,cf⟩:=C6.c GL.o;go_wp2_with rfl;refine OV.mono ?_;rintro e w3 ⟨rfl,rfl⟩;go_wp2;go_ret;exact⟨rfl,C7⟩
end
theorem Qm(left:Int)(n m:Nat)(h0:0<=left)(h1:left<=1048576):-1<=KA (KA left n) m/\KA (KA left n) m<=1048576/\(0<=KA (KA left n) m->n<=1048576/\m<=1048576):=by
 unfold KA;split<;>split<;>omega
theorem Iv{w':J}{g:Nat}{x y z:atY}(h:w.heap[g]?=some (SH #[x,y,z] t (0,0)))(hx:D4 w w'):w'.cell? (IM g 0)=some x/\w'.cell? (IM g 1)=some y/\w'.cell? (IM g 2)=some z/\g<w'.heap.size:=have k:=hx.blk h;⟨aw k,aJ k,aK k,IO k⟩
theorem JZ(x:Int)(l:o7)(r:o3):nW x l r x l r=true:=by simp[nW]
theorem ni {w: J}{p: Int}{a b: Option Addr}{n cap m dap: Nat}{V: List Int}{X0: List (Int × Int)}(h : d6 w a n cap V)(hr : i8 w b m dap X0)(htab : tIw w)(hml : nf w)(t : List UInt8) :
 f9 4 #[sess p a n cap b m dap,atr (bs t)] w (ato true):=by
 have hsz:(bs t).size=Lp t:=aX t;have hm:n<=9223372036854775807:=bR h.y7 h.y8;have km:m<=9223372036854775807:=bR hr.y7 hr.y8;have hzz:=Qm 1048576 n m O O;refine TS (D4.alloc w (SH #[U p,FB a n cap,FB b m dap] 41)) (ah w (SH #[U p,FB a n cap,FB b m dap] 41) _ rfl) h hr h.hlen hr.hlen htab hml λHX A0 HA QA HL QL HTB HML=>?_;have⟨tt,HT⟩:=Ok (bs t);rw[<-HT.o]at hsz;rw[<-HT.o];by_cases R4:1048576<Lp t
 ·have hle:(tt.size:Int) > 1048576:=by omega
  exact ZB
 have hb:Lp t<=1048576:=O;have hle:¬(tt.size:Int) > 1048576:=O;by_cases hlt:KA (KA 1048576 n) m<0
 ·unfold f9;go_in
  go_wp2_with rfl;refine i6 (qt _ _ _ _ _ _ _ _ _ O O hm km) λw1 hx=>?_;have A6:=I (HX.trans hx);go_wp2;go_ret;exact⟨rfl,A6⟩
 have hnm:n<=1048576/\m<=1048576:=hzz.2.2 O;obtain⟨hn,QO⟩:=hnm;have⟨left,al8⟩:=Ok (KA (KA 1048576 n) m);rw[<-al8.o]at hlt hzz;have⟨R,HR⟩:=Ok (cJ ⟨p,V,X0⟩ t);have IY:=I (show Lp R.1.V<=1048576/\Lp R.1.X<=1048576 by rw[HR.o];exact AB (s:=⟨p,V,X0⟩) ⟨by show Lp V<=_;rw[HL.o];exact hn,by show Lp X0<=_;rw[QL.o];exact QO⟩ hb);have hss:((bs R.2).toList == (bs R.2).toList)=true:=j9;unfold f9;go_in
 go_wp2_with rfl;refine i6 (qt _ _ _ _ _ _ _ _ _ O O hm km) λw1 hx=>?_;rw[<-al8.o];have X:=I (HX.trans hx);replace A0:=I (D4.blk hx A0);have⟨Me,Md,Mc,Mp⟩:=Iv A0.o So;go_wp2_with rfl;refine(jC (HA.ext X) (QA.ext X) O O).mono ?_;rintro e w2 ⟨bs,ks,rfl,A4,hrr,Wm,hks,hx⟩;refine Fn hx A4 hrr λY Rs Ss=>?_;have⟨Me,Md,Mc,Mp⟩:=Iv A0.o Y.o;go_wp2_with rfl;have HC:=I (ow (p:=p) (Rs.ints HL.o (m9 _) hm) (Ss.rats QL.o (m9 _) km) O O t hb);rw[<-HT.o,<-HR.o]at HC;refine HC.mono ?_;rintro e w3 ⟨⟨a3,n3,c3,d3,m3,f3,rfl,hO3⟩,hx⟩;replace Y:=I (Y.trans hx);have O3:=I hO3;have Gn:=I (IO (D4.blk Y.o A0));have⟨Me,Md,Mc,Mp⟩:=Iv A0.o Y.o;go_wp2_with rfl;have hx:=D4.alloc w3 (SH #[U R.1.p,FB a3 n3 c3,FB d3 m3 f3] 34);replace A0:=I (D4.blk (Y.trans hx) A0);replace X:=I (X.trans (Y.trans hx));replace O3:=I (O3.ext hx);have L1:=I (ah w3 (SH #[U R.1.p,FB a3 n3 c3,FB d3 m3 f3] 34) _ rfl);have X4:=I (D4.refl (w3.alloc (SH #[U R.1.p,FB a3 n3 c3,FB d3 m3 f3] 34)));have hE4:(w3.alloc (SH #[U R.1.p,FB a3 n3 c3,FB d3 m3 f3] 34)).heap.size=w3.heap.size+1:=j9;refine(jC (HA.ext X) (QA.ext X) O O).mono ?_;rintro e w5 ⟨bx,kx,rfl,A4,hrr,Gu,hkx,hx⟩;refine Fn hx A4 hrr λY Rx Sx=>?_;have hbx4:w3.heap.size+1<=bx:=by rw[hE4]at Gu;exact Gu
 have hkx4:w3.heap.size+1<=kx:=by rw[hE4]at hkx;exact hkx
 have UU:w3.heap.size+1<=w5.heap.size:=by have:=(X4.trans Y).size;rw[hE4]at this;exact this
 have⟨Me,Md,Mc,Mp⟩:=Iv A0.o Y.o;have⟨Pp,Po,Pn,Pm⟩:=Iv L1.o Y.o;go_wp2_with rfl;have hbx5:bx<w5.heap.size:=Rx.lt;have hkx5:kx<w5.heap.size:=Sx.lt;have hx:=D4.alloc w5 (SH #[U p,GT bx n n,GT kx m m] 34);replace A0:=I (D4.blk (Y.trans hx) A0);replace X:=I (X.trans (Y.trans hx));replace L1:=I (D4.blk (Y.trans hx) L1);replace X4:=I (X4.trans (Y.trans hx));replace Rx:=I (Rx.ext hx);replace Sx:=I (Sx.ext hx);have G1:=I (ah w5 (SH #[U p,GT bx n n,GT kx m m] 34) _ rfl);have hE6:(w5.alloc (SH #[U p,GT bx n n,GT kx m m] 34)).heap.size=w5.heap.size+1:=j9;have⟨Me,Md,Mc,Mp⟩:=Iv A0.o So;have⟨Pp,Po,Pn,Pm⟩:=Iv L1.o So;have⟨O2,O1,OZ,Px⟩:=Iv G1.o So;go_wp2_with rfl;have HC:=I (ix (p:=p) (Rx.ints HL.o (m9 _) hm) (Sx.rats QL.o (m9 _) km) O O (dP HTB.o X) (HML.ext X) t hb);rw[<-HT.o,<-HR.o]at HC;refine HC.mono ?_;rintro e w7 ⟨⟨a7,n7,c7,d7,m7,f7,rfl,hO7⟩,hx⟩;refine Fn (λ(j:Nat) (hj:w7.heap.size<=j)=>(⟨λe=>absurd (hO7.v.lt j e.symm).2 (Nat.not_lt.2 hj),λe=>absurd (hO7.x.lt j e.symm).2 (Nat.not_lt.2 hj)⟩:some j≠(FB a7 n7 c7).ownBlock/\some j≠(FB d7 m7 f7).ownBlock)) hx hO7 λKX Y O7=>?_;have Zi:=I (IO (D4.blk Y.o G1));have Ma:e9 (n7=Lp R.1.V/\m7=Lp R.1.X):=I ⟨O7.v.ints.hlen.symm,O7.x.rats.hlen.symm⟩;have⟨Me,Md,Mc,Mp⟩:=Iv A0.o Y.o;have⟨Pp,Po,Pn,Pm⟩:=Iv L1.o Y.o;have⟨O2,O1,OZ,Px⟩:=Iv G1.o Y.o;go_wp2_with rfl;have hx:=D4.alloc w7 (SH #[U R.1.p,FB a7 n7 c7,FB d7 m7 f7] 34);replace A0:=I (D4.blk (Y.trans hx) A0);replace X:=I (X.trans (Y.trans hx));replace L1:=I (D4.blk (Y.trans hx) L1);replace X4:=I (X4.trans (Y.trans hx));replace Rx:=I (Rx.ext (Y.trans hx));replace Sx:=I (Sx.ext (Y.trans hx));replace G1:=I (D4.blk (Y.trans hx) G1);replace O7:=I (O7.ext hx);have L2:=I (ah w7 (SH #[U R.1.p,FB a7 n7 c7,FB d7 m7 f7] 34) _ rfl);refine i6 (jB O7.v.ints O7.x.rats (O3.v.ints.ext X4) (O3.x.rats.ext X4)) λw8 hx=>?_;rw[JZ];have Y:=I hx;have⟨Me,Md,Mc,Mp⟩:=Iv A0.o Y.o;have⟨Pp,Po,Pn,Pm⟩:=Iv L1.o Y.o;have⟨O2,O1,OZ,Px⟩:=Iv G1.o Y.o;have⟨R8,R7,R6,R5⟩:=Iv L2.o Y.o;go_wp2_with rfl;have hk:=D4.drew w8;refine Op ((HA.ext (X.trans Y)).ext hk) ((QA.ext (X.trans Y)).ext hk) ((Rx.ext Y).ext hk) ((Sx.ext Y).ext hk) λHAd QAd RXd SXd=>?_;have⟨Me,Md,Mc,Mp⟩:=Iv A0.o Y.o;have⟨O2,O1,OZ,Px⟩:=Iv G1.o Y.o
 go_region_held3 (λw'=>w'.cell? (IM w 0)=some (U p)/\w'.cell? (IM w 1)=some (FB a n cap)/\w'.cell? (IM w 2)=some (FB b m dap)/\w'.cell? (IM w5 0)=some (U p)/\w'.cell? (IM w5 1)=some (GT bx n n)/\w'.cell? (IM w5 2)=some (GT kx m m)/\D4 w8 w')
  (exact⟨hk.o9 Me,hk.o9 Md,hk.o9 Mc,hk.o9 O2,hk.o9 O1,hk.o9 OZ,hk⟩)
  (first
    | (go_at_call 14;refine(jC HAd.o QAd.o O O).mono ?_;rintro e w9 ⟨b9,k9,rfl,aez,hrr9,_,_,hx9⟩;have hk:=hk.trans hx9)
    | (go_at_call 15;refine i6 (jB ((RXd.ext hx9).ints HL.o (m9 _) hm) ((SXd.ext hx9).rats QL.o (m9 _) km) (aez.ints HL.o (m9 _) hm) (hrr9.rats QL.o (m9 _) km)) λO6 MA=>?_;rw[JZ];have hk:=hk.trans MA))
 replace Y:=I (Y.trans hk);have⟨Me,Md,Mc,Mp⟩:=Iv A0.o Y.o;have⟨Pp,Po,Pn,Pm⟩:=Iv L1.o Y.o;have⟨O2,O1,OZ,Px⟩:=Iv G1.o Y.o;have⟨R8,R7,R6,R5⟩:=Iv L2.o Y.o;go_wp2_with rfl;replace G1:=I (D4.blk Y.o G1);replace L2:=I (D4.blk Y.o L2);replace O7:=I (O7.ext Y);have OX:=I ((Rx.ext Y).own (base:=w3.heap.size+1) hbx4 HL.o O);have PX:=I ((Sx.ext Y).own (base:=w3.heap.size+1) hkx4 QL.o O);refine(ot (p:=p) OX.o PX.o (by have h:=(X4.trans Y).size;rw[hE4]at h;exact h) 1 O O).mono ?_;rintro e S5 ⟨rfl,_,_,LZ,NO⟩;replace X4:e9 (D4 (w3.alloc (SH #[U R.1.p,FB a3 n3 c3,FB d3 m3 f3] 34)) S5):=ri (X4.trans Y) (lx LZ (by rw[hE4];exact m9 _));replace X:e9 (D4 w S5):=ri (X.trans Y) (lx LZ (by have:=Gn.out;have:=UU;omega));replace A0:=I ((LZ.block _ (show w.heap.size<w3.heap.size+1 by have:=Gn.out;omega)).trans (D4.blk Y.o A0));replace L1:=I ((LZ.block _ (show w3.heap.size<w3.heap.size+1 by have:=Gn.out;omega)).trans (D4.blk Y.o L1));have ht:=IO G1.o;replace G1:=I ((NO _ ht (λe=>by have e:=iv (show some (w5.heap.size)=some bx from e);have:=Zi.out;omega) (λe=>by have e:=iv (show some (w5.heap.size)=some kx from e);have:=Zi.out;omega)).trans G1);have ht:=IO L2.o;replace L2:=I ((NO _ ht (λe=>by have e:=iv (show some (w7.heap.size)=some bx from e);have:=Zi.out;omega) (λe=>by have e:=iv (show some (w7.heap.size)=some kx from e);have:=Zi.out;omega)).trans L2);replace O7:=I (⟨O7.v.keep λj hj=>NO j (O7.v.lt j hj).2 (λe=>by have h1:=(O7.v.lt j hj).1;rw[hE6]at h1;have e:=iv (show some j=some bx from e);omega) (λe=>by have h1:=(O7.v.lt j hj).1;rw[hE6]at h1;have e:=iv (show some j=some kx from e);omega),O7.x.keep λj hj=>NO j (O7.x.lt j hj).2 (λe=>by have h1:=(O7.x.lt j hj).1;rw[hE6]at h1;have e:=iv (show some j=some bx from e);omega) (λe=>by have h1:=(O7.x.lt j hj).1;rw[hE6]at h1;have e:=iv (show some j=some kx from e);omega)⟩:aG S5 (w5.alloc (SH #[U p,GT bx n n,GT kx m m] 34)).heap.size a7 n7 c7 d7 m7 f7 R.1.V R.1.X);have Iy:¬(1+(n:Int)+2*(m:Int)<0):=O;have⟨Me,Md,Mc,Mp⟩:=Iv A0.o So;have⟨Pp,Po,Pn,Pm⟩:=Iv L1.o So;have⟨O2,O1,OZ,Px⟩:=Iv G1.o So;have⟨R8,R7,R6,R5⟩:=Iv L2.o So;go_wp2_with rfl;refine i6 (jB O7.v.ints O7.x.rats (O3.v.ints.ext X4) (O3.x.rats.ext X4)) λKY hx=>?_;rw[JZ];have Y:=I hx;have⟨Me,Md,Mc,Mp⟩:=Iv A0.o Y.o;have⟨Pp,Po,Pn,Pm⟩:=Iv L1.o Y.o;have⟨O2,O1,OZ,Px⟩:=Iv G1.o Y.o;have⟨R8,R7,R6,R5⟩:=Iv L2.o Y.o;go_wp2_with rfl;replace L2:=I (D4.blk Y.o L2);replace O7:=I (O7.ext Y);refine(ot (p:=R.1.p) O7.v O7.x (by rw[hE6];exact IO (D4.blk Y.o G1)) 1 O bd).mono ?_;rintro e w16 ⟨rfl,hI,hJ,LZ,NO⟩;rw[hE6]at LZ;replace X4:e9 (D4 (w3.alloc (SH #[U R.1.p,FB a3 n3 c3,FB d3 m3 f3] 34)) w16):=ri (X4.trans Y) (lx LZ (by rw[hE4];have:=UU;omega));replace X:e9 (D4 w w16):=ri (X.trans Y) (lx LZ (by have:=Gn.out;have:=UU;omega));replace A0:=I ((LZ.block _ (show w.heap.size<w5.heap.size+1 by have:=Gn.out;have:=UU;omega)).trans (D4.blk Y.o A0))
 replace L1:=I ((LZ.block _ (show w3.heap.size<w5.heap.size+1 by have:=Gn.out;have:=UU;omega)).trans (D4.blk Y.o L1));replace G1:=I ((LZ.block _ (show w5.heap.size<w5.heap.size+1 by have:=Gn.out;have:=UU;omega)).trans (D4.blk Y.o G1));replace L2:=I ((NO _ (IO L2) (KX _ (m9 _)).1 (KX _ (m9 _)).2).trans L2);have I1:=I hI;have J1:=I hJ;have⟨M,hM⟩:=j7 (1+(n7:Int)+2*(m7:Int));have hM0:¬(M<0):=by have:=IY.o;have:=Ma.o;omega
 have hMM:(M != M)=false:=j9;rw[<-hM];have HM:=I hM;clear hM;have⟨Me,Md,Mc,Mp⟩:=Iv A0.o So;have⟨Pp,Po,Pn,Pm⟩:=Iv L1.o So;have⟨O2,O1,OZ,Px⟩:=Iv G1.o So;have⟨R8,R7,R6,R5⟩:=Iv L2.o So;go_wp2_with rfl;have HH:=I (oq (p:=R.1.p) 1 I1.ints J1.rats O bd);rw[<-HM.o]at HH;refine i6 HH λw17 hx=>?_;have Y:=I hx;have⟨Me,Md,Mc,Mp⟩:=Iv A0.o Y.o;have⟨Pp,Po,Pn,Pm⟩:=Iv L1.o Y.o;have⟨O2,O1,OZ,Px⟩:=Iv G1.o Y.o;have⟨R8,R7,R6,R5⟩:=Iv L2.o Y.o;go_wp2_with rfl;refine(jC (HA.ext (X.trans Y)) (QA.ext (X.trans Y)) O O).mono ?_;rintro e w18 ⟨bv,kv,rfl,A4,hrr,hbv,hkv,hx⟩;replace Y:=I (Y.trans hx);have Rv:=I A4;have Sv:=I hrr;have⟨Me,Md,Mc,Mp⟩:=Iv A0.o Y.o;have⟨Pp,Po,Pn,Pm⟩:=Iv L1.o Y.o;have⟨O2,O1,OZ,Px⟩:=Iv G1.o Y.o;have⟨R8,R7,R6,R5⟩:=Iv L2.o Y.o;go_wp2_with rfl;have HC:=I (ix (p:=p) (Rv.ints HL.o (m9 _) hm) (Sv.rats QL.o (m9 _) km) O O (dP HTB.o (X.trans Y)) (HML.ext (X.trans Y)) t hb);rw[<-HT.o,<-HR.o]at HC;refine HC.mono ?_;rintro e w20 ⟨⟨a20,n20,c20,d20,m20,f20,rfl,hO20⟩,hx⟩;replace Y:=I (Y.trans hx);have O20:=I hO20;have⟨Me,Md,Mc,Mp⟩:=Iv A0.o Y.o;have⟨Pp,Po,Pn,Pm⟩:=Iv L1.o Y.o;have⟨O2,O1,OZ,Px⟩:=Iv G1.o Y.o;have⟨R8,R7,R6,R5⟩:=Iv L2.o Y.o;go_wp2_with rfl;have hx:=D4.alloc w20 (SH #[U R.1.p,FB a20 n20 c20,FB d20 m20 f20] 34);replace A0:=I (D4.blk (Y.trans hx) A0);replace X:=I (X.trans (Y.trans hx));replace L1:=I (D4.blk (Y.trans hx) L1);replace X4:=I (X4.trans (Y.trans hx));replace G1:=I (D4.blk (Y.trans hx) G1);replace L2:=I (D4.blk (Y.trans hx) L2);replace I1:=I (I1.ext (Y.trans hx));replace J1:=I (J1.ext (Y.trans hx));replace O20:=I (O20.ext hx);have L3:=I (ah w20 (SH #[U R.1.p,FB a20 n20 c20,FB d20 m20 f20] 34) _ rfl);refine i6 (jB O20.v.ints O20.x.rats (O3.v.ints.ext X4) (O3.x.rats.ext X4)) λw21 hx=>?_;rw[JZ];have Y:=I hx;have⟨Me,Md,Mc,Mp⟩:=Iv A0.o Y.o;have⟨Pp,Po,Pn,Pm⟩:=Iv L1.o Y.o;have⟨O2,O1,OZ,Px⟩:=Iv G1.o Y.o;have⟨R8,R7,R6,R5⟩:=Iv L2.o Y.o;have⟨L30,L31,L32,L3t⟩:=Iv L3.o Y.o;go_wp2_with rfl;have HH:=I (oq (p:=R.1.p) 1 (I1.ext Y).ints (J1.ext Y).rats O bd);rw[<-HM.o]at HH;refine i6 HH λw22 hx=>?_;replace Y:=I (Y.trans hx);have⟨Me,Md,Mc,Mp⟩:=Iv A0.o Y.o;have⟨Pp,Po,Pn,Pm⟩:=Iv L1.o Y.o;have⟨O2,O1,OZ,Px⟩:=Iv G1.o Y.o;have⟨R8,R7,R6,R5⟩:=Iv L2.o Y.o;have⟨L30,L31,L32,L3t⟩:=Iv L3.o Y.o;go_wp2;go_ret;exact⟨rfl,(X.trans Y)⟩
section
variable{H:Type}{enc:TypeId×atY->H}{P:Program}{w:J}{base:Nat}{spare:Nat->Bool}{held:Bool}
theorem Em{t e:TypeId}{Q K:Field}{fuel:Nat}{v:atY}{x:DataW H×List MemPlace}(ht:P.underlying t=some (.slice e))(he:P.underlying e=some (.struct #[Q,K]))
 (ce:P.cellsOf e=2) (o0:Q.offset=0) (o1:K.offset=1) (c0:P.cellsOf Q.type=1) (c1:P.cellsOf K.type=1) (h0:P.underlying Q.type=some (.int .i64)) (h1:P.underlying K.type=some (.int .i64))
 (h:DataW.trod enc P w base spare held fuel t [v]=some x):∃a n cap l,v=FB a n cap/\i8 w a n cap l:=by
 rcases open_slice_pairs ht he ce o0 o1 c0 c1 h with⟨hcs,_⟩|⟨a,len,cap,m,n,V0,V1,D0,D1,P0,P1,hcs,_,hl,hm,QO,_,hx⟩
 ·exact Wl
 simp at hcs;have hlen:len<=m:=by rw[QO];split<;>omega
 have⟨f,hf⟩:=choose_lt (α:=o8) (n:=len) (p:=λi z=>V0 i=U z.1/\V1 i=U z.2) (λi hi=>by
  obtain⟨_,_,t0,t1⟩:=hx i O;obtain⟨x0,e0,_⟩:=af h0 t0;obtain⟨x1,e1,_⟩:=af h1 t1;exact⟨(x0,x1),by simpa using e0,by simpa using e1⟩)
 refine⟨some a,len,cap,(List.range len).map f,hcs,by simp,hl,by simpa[maxLen]using hm,λk hk=>?_⟩;obtain⟨b,off,spot⟩:=a;have hz:=(hx 0 O).1;have G:spot=none:=by simpa[Addr.add]using Rg hz
 subst G;refine⟨b,off,rfl,λk hk=>?_⟩;obtain⟨q0,Z,_,_⟩:=hx k O;have ha:∀j,((IM b off):Addr).add j=(IM b (off+j)):=λj=>by unfold Addr.add;split<;>simp_all
 rw[ha]at q0 Z;have KE:((List.range len).map f)[k]?.getD (0,0)=f k:=by simp[hk]
 rw[KE];exact⟨q0.trans (IR some (hf k hk).1),Z.trans (IR some (hf k hk).2)⟩
theorem Eo{r:Reach}{b0:Nat}{t:TypeId}{fg fp K G:Field}{v:atY}{d:DataW H}{p:List MemPlace}(hs:P.underlying t=some (.struct #[fg,fp]))(hg:P.underlying fg.type=some (.struct #[K,G]))(hC:P.cellsOf t=3)
 (og:fg.offset=0) (kg:P.cellsOf fg.type=2) (op:fp.offset=2) (kp:P.cellsOf fp.type=1) (Vw:oneCellFields P #[K,G]=true)
 (hv:Value.okWide P w r b0 t v) (h:DataW.Trod enc P w base spare held t v d p) :
 ∃(v0 v1 v2:atY) (y0 Z Q:DataW H×List MemPlace) (n m:Nat),v=.agg #[v0,v1,v2] /\
   DataW.trod enc P w base spare held n K.type [v0]=some y0/\DataW.trod enc P w base spare held n G.type [v1]=some Z/\DataW.trod enc P w base spare held m fp.type [v2]=some Q:=by
 obtain⟨cs,rfl,hsz⟩:=okWide_struct hs hv;obtain⟨c0,c1,c2,rfl⟩:=array3 (hsz.trans hC);obtain⟨fuel,hf⟩:=h;obtain⟨yg,Q,n,hx,_,h0,h2⟩:=trod_struct2 hs hf;rw[og,kg]at h0;rw[op,kp]at h2;obtain⟨y0,Z,m,hy,_,t0,t1⟩:=trod_struct2 hg h0;have⟨o0,k0⟩:=hone_of Vw 0 K rfl;have⟨o1,k1⟩:=hone_of Vw 1 G rfl;exact⟨c0,c1,c2,y0,Z,Q,m,n,rfl,by simpa[Value.cells,o0,k0]using t0,by simpa[Value.cells,o1,k1]using t1,by simpa[Value.cells]using h2⟩
end
