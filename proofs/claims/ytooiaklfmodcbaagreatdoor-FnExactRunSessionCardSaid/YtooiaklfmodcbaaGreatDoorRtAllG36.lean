import Derived.Test.YtooiaklfmodcbaaGreatDoorRtAllG35
set_option linter.all false
set_option maxHeartbeats 6000000
set_option maxRecDepth 100000
namespace Go.Proofs.YtooiaklfmodcbaaGreatDoor
open Ending renaming returned->ar
open List renaming length->JL
open Obj renaming cells->QD
open Value renaming slice->GI,bool->bl,string->aE,pointer->aP
open Go.Proofs.Tryz Go.RowKit
variable{σ:Prop}
section
abbrev Sf:=@Lib.count_one
abbrev P':=@Lib.index_one
def MI(h:σ:=by rw[Rh.o,<-LN.o];exact GP):σ:=h
variable{w:J}{base g n base' m EM:Nat}{l X:l7}{x y x' y':Int}{V:o3}{a b:l9}
theorem vv{P:Program}(w:J)(t e Q:TypeId)(ht:P.underlying t=some (.slice e))(Z:∀w,(zeroValue e).run P w=.ok (.agg #[U 0,U 0]) w)(b o n c:Nat)(hn:0<n)
 (hc:∀j,j<n*2->(w.cell? (O b (o+j))).isSome=true) (hf:∀j,j<n*2->w.frozen? (O b (o+j))=false) :
 (Builtin.clear_ #[t] Q #[GI (some (O b o)) n c]).run P w=.ok (.tuple #[]) (w.setCells b o (List.replicate (n*2) (U 0))):=by
 have H:(Builtin.zeroCells #[Value.int .i64 0,Value.int .i64 0] n).toList=List.replicate (n*2) (U 0):=by
  simp only[Builtin.zeroCells];apply TC
  ·simp
  intro i h1 h2;simp only[Array.toList_map,Array.toList_range,lx,N4,List.getElem_replicate];have:∀k,k<2->(#[Value.int .i64 0,Value.int .i64 0]:Array arQ)[k]! = U 0:=λk hk=>by
   rcases k with _|_|k
   ·rfl
   ·rfl
   omega
  exact this _ (Nat.mod_lt _ Fd)
 have E:=run_storeCells_cells (P:=P) b o (List.replicate (n*2) (U 0)) 0 w (by simpa using hc) (by simpa using hf) (by intro v K;rw[List.eq_of_mem_replicate K];rfl);simp only[RF]at E;obtain⟨m,rfl⟩:∃m,n=m+1:=⟨n-1,by omega⟩;have G:(Value.agg #[U 0,U 0]).cells=#[Value.int .i64 0,Value.int .i64 0]:=rfl;simp[Builtin.clear_,YU ht,Z,G,H,E]
theorem WV.GG{cap:Nat}(h:WV w base (EQ g n cap) l):base<=g/\g<w.heap.size/\(∀j,w.frozen? (O g j)=false)/\∀k,k<n->w.cell? (O g (k*2))=some (U (l[k]?.getD (0,0)).1)/\w.cell? (O g (k*2+1))=some (U (l[k]?.getD (0,0)).2):=by
 rcases h.2 with⟨E,h0⟩|⟨g',cap',G,E,hb,hg,h1,h2,hs,ht⟩
 ·cases E
 have Z:g'=g:=by simp only[nP,bq,H4,E5]at E;exact E.1.symm
 subst Z;refine⟨hb,In hg,λj=>mo w g' j G _ hg,λk Q=>?_⟩;have⟨xb,xo,x,y,e,Eo,K,H⟩:=h.rats.at Q;simp only[bq,H4,E5]at e;rw[<-e.1,<-e.2,hI]at K H;rw[Eo];exact⟨K,H⟩
theorem WV.zeros{cap:Nat}:∀(m:Nat) {k:Nat} {w:J} {M:l7},k+m<=JL M->WV w base (EQ g n cap) M->∃M',WV (w.setCells g (k*2) (List.replicate (m*2) (U 0))) base (EQ g n cap) M'/\M'.take k=M.take k/\JL M'=JL M
 | 0,k,w,M,_,h=>⟨M,by simpa[World.setCells]using h,rfl,rfl⟩
 | m+1,k,w,M,hk,h=>by
   have⟨M',K,H,G⟩:=WV.zeros m (k:=k+1) (by rw[k7];omega) (h.set (k:=k) j0 0 0);rw[k7]at G;refine⟨M',?_,?_,G⟩
   ·rw[show(m+1)*2=m*2+1+1 by omega,Zj,Zj];simp only[World.setCells];rw[show k*2+1+1=(k+1)*2 by omega];exact K
   have E:=If (List.take k) H;rw[Y5,Y5,ub j0]at E;rw[E,nm (i8 _)]
theorem WV.UF{cap:Nat}{M:l7}(h:WV w base (EQ g n cap) M){k:Nat}(hk:k<=n):WV w base (EQ g k cap) (M.take k):=by
 have hlen:=h.rats.hlen;rcases h.2 with⟨E,h0⟩|⟨g',cap',G,E,hb,hg,h1,Z,hs,K⟩
 ·cases E
 simp only[nP,bq,H4,E5]at E;obtain⟨rfl,_,rfl⟩:=E;have H:JL (M.take k)=k:=by rw[k6];omega
 refine⟨by rw[pG],.inr ⟨g,cap,G,by rw[H],hb,hg,by omega,Z,hs,?_⟩⟩;rw[H];apply Tz;intro j;rw[mI];by_cases Q:j<k*2
 ·rw[bB Q,bB j0,<-mI,<-K,bB j0]
 rw[List.getElem?_take_eq_none j0,q8 (by rw[k6];omega)]
 rfl
theorem Uq(w:J):(zeroValue 56).run prog w=.ok (.agg #[U 0,U 0]) w:=rfl
theorem Xe(l:l7)(k:Nat):∃x y,l[k]?.getD (0,0)=(x,y):=⟨_,_,rfl⟩
theorem zJ(h:((x == x')&&(y == y'))=false):¬(x,y)=(x',y'):=by
 intro e;simp only[wb]at e;rw[e.1,e.2]at h;simp at h
theorem zI(h:((x == x')&&(y == y'))=true):(x,y)=(x',y'):=by
 simp only[eI,xv]at h;rw[h.1,h.2]
theorem AR{W0:J}{cap:Nat}(hX:C7 W0 w)(hb:W0.heap.size<=base)(h:WV w base (EQ g n cap) l)(hn:0<n)(hn9:n<=1000000):
 Calls prog 281 #[EQ g n cap] w λe w' =>
  (∃m,e=ar (EQ g m cap)/\WV w' base (EQ g m cap) (Il l n))/\C7 W0 w':=by
 have⟨r8,r9⟩:=h.rats.aq9;refine Op h.rats.hlen h hX (fy hb h.GG.1) λHL HO HX HBG=>?_;clear h hX;by_cases FT:n=1
 ·subst FT;have HC:=I (show Il l 1=l by
   rw[nG (k:=0) (by rw[HL.o];decide) rfl (.inl rfl),bR (by rw[HL.o];decide)])
  go_in
  go_wp2;go_ret;exact⟨⟨1,rfl,by rw[HC.o];exact HO⟩,HX⟩
 have h2:¬(n:Int)<2:=j0
 go_in
 go_wp2
 go_loopg [3] (n-1) (λgk kk wr=>∃k:Nat,b9 (gk+k=n)/\kk=U k/\b9 (0<k)/\b9 (Il l k=l.take k)/\b9 (WV wr base (EQ g n cap) l)/\b9 (C7 W0 wr))
 ·exact⟨1,I j0,rfl,I Fd,I (nG (k:=0) (by rw[HL.o];exact hn) rfl (.inl rfl)),HO,HX⟩
 rename Nat=>g1;rename J=>wr;obtain⟨k,HK,rfl,HP,HT,K,A0⟩:=hrel;by_cases hlt:k<n
 ·obtain⟨m,Iq⟩:∃m,k=m+1:=⟨k-1,by have:=HP.o;omega⟩;have⟨x,y,Eo⟩:=Xe l k;have⟨x',y',LP⟩:=Xe l m;have⟨c0,c1⟩:=K.GG.2.2.2 k hlt;have⟨d0,Z⟩:=K.GG.2.2.2 m j0;rw[Eo]at c0 c1;rw[LP]at d0 Z;have Lv:=I Eo;have M0:=I (show l[k-1]?.getD (0,0)=(x',y')by rw[Iq];exact LP);have hmn:m<n:=by omega
  have T9:¬cap=k:=j0;have Hn:=wq ((k:Int)-1) (m:Int);have hw2:wrap64 ((k:Int)-1)=(m:Int):=by unfold wrap64;omega
  have E8:(k:Int)-1=(m:Int):=j0;have FY:=wq (m:Int) (m:Int);have Fc:wrap64 (m:Int)=(m:Int):=by unfold wrap64;omega
  have o7:=C7.drew wr;have Fe:k<JL l:=by rw[HL.o];exact hlt
  have FP:=I Fe;clear Eo LP Iq Fe;cases A':(x == x')
  all_goals
   cases EN:(y == y')
  all_goals
   have S6:=I (hJ A' EN);go_wp2_with fail
   go_region_held3 (λw'=>w'.cell? (O g (k*2))=some (U x)/\w'.cell? (O g (k*2+1))=some (U y)/\w'.cell? (O g (m*2))=some (U x')/\w'.cell? (O g (m*2+1))=some (U y')/\C7 wr w')
    (exact⟨o7.o6 c0,o7.o6 c1,o7.o6 d0,o7.o6 Z,o7⟩)
    (fail)
   clear Hn hw2 E8 FY Fc c0 c1 d0 Z A' EN;have Ec:=I (K.ext o7);have C0:=I (A0.trans o7);clear o7
  iterate 3
   ·have Fh:=I (nG FP.o HT.o (.inr (by rw[Lv.o,M0.o];exact zJ (by rw[S6.1,S6.2];rfl))));go_wp2_with fail;refine kf ?_;exact⟨k+1,I (k8 HK.o),by go_num,I j0,Fh,Ec,C0⟩
  have O9:=I (Pa.start HP.o FP.o HT.o (by rw[Lv.o,M0.o];exact zI (by rw[S6.1,S6.2];rfl)));have DV:k<=n:=j0;go_wp2
  go_loopg [3,5] (n-k-1) (λgk kk jj wr=>∃(i j:Nat) (M:l7),b9 (gk+(k+j)=n)/\kk=U i/\jj=U j/\b9 (0<j)/\b9 (Pa l M i (k+j))/\b9 (WV wr base (EQ g n cap) M)/\b9 (C7 W0 wr))
  ·exact⟨k,1,l,I j0,rfl,rfl,I Fd,O9,Ec,C0⟩
  obtain⟨i,j,M,HJ,rfl,rfl,HJ0,HC,HM,B7⟩:=hrel;have Q9:=HC.lt;have hi0:=HC.pos;by_cases Ez:k+j<n
  ·obtain⟨q,hjq⟩:∃q,j=q+1:=⟨j-1,by have:=HJ0.o;omega⟩;have⟨u,v,Mm⟩:=Xe l (k+j);have⟨u',v',G⟩:=Xe l (k+q);have hh1:=HC.hi (k+j) j0;have hh2:=HC.hi (k+q) j0;have⟨c0,c1⟩:=HM.GG.2.2.2 (k+j) Ez;have⟨d0,Z⟩:=HM.GG.2.2.2 (k+q) j0;rw[hh1,Mm,Nat.add_mul]at c0 c1;rw[hh2,G,Nat.add_mul]at d0 Z;have Rh:=I Mm;have aev:=I (show l[k+j-1]?.getD (0,0)=(u',v')by rw[hjq,show k+(q+1)-1=k+q by omega];exact G);have D7:i<n:=by clear c0 c1 d0 Z Mm G hh1 hh2;omega
   have hqn:q<n-k:=j0;have Ii:j<n-k:=j0;have Hn:=wq ((j:Int)-1) (q:Int);have hw2:wrap64 ((j:Int)-1)=(q:Int):=by unfold wrap64;omega
   have E8:(j:Int)-1=(q:Int):=j0;have FY:=wq (q:Int) (q:Int);have Fc:wrap64 (q:Int)=(q:Int):=by unfold wrap64;omega
   have o7:=C7.drew wr;have F0:k+j<JL l:=by rw[HL.o];exact Ez
   have Sg:=I F0;clear Mm G hh1 hh2 hjq F0;cases A':(u == u')
   all_goals
    cases EN:(v == v')
   all_goals
    have E:=I (hJ A' EN);go_wp2_with fail
    go_region_held3 (λw'=>w'.cell? (O g (k*2+j*2))=some (U u)/\w'.cell? (O g (k*2+j*2+1))=some (U v)/\w'.cell? (O g (k*2+q*2))=some (U u')/\w'.cell? (O g (k*2+q*2+1))=some (U v')/\C7 wr w')
     (exact⟨o7.o6 c0,o7.o6 c1,o7.o6 d0,o7.o6 Z,o7⟩)
     (fail)
    have JW:=λ(o:Nat)=>(HM.ext o7).GG.2.2.1 o
    generalize wr.drew=wd at o7 JW⊢;have c0:=o7.o6 c0;have c1:=o7.o6 c1;clear Hn hw2 E8 FY Fc d0 Z A' EN;have O1:=I (HM.ext o7);have Gm:=I (B7.trans o7);clear o7
   iterate 3
    ·have Sm:=I (HC.keep Sg.o (by rw[Rh.o,aev.o];exact zJ (by rw[E.1,E.2];rfl)));rw[Rh.o]at Sm;have⟨e0,e1⟩:=O1.GG.2.2.2 i D7;have Pk:=JW (i*2);have Pj:=JW (i*2+1);clear JW;have J0:=I (O1.set (k:=i) (by rw[HC.len,HL.o];exact D7) u v);have FV:=I ((Gm.store (i*2) HBG.o (U u)).store (i*2+1) HBG.o (U v));go_wp2_with fail;refine vE ?_;exact⟨i+1,j+1,_,I (k8 HJ.o),by go_num,by go_num,I j0,Sm,J0,FV⟩
   have Sm:=I (HC.drop Sg.o (by rw[Rh.o,aev.o];exact zI (by rw[E.1,E.2];rfl)));go_wp2_with fail;refine vE ?_;exact⟨i,j+1,_,I (k8 HJ.o),rfl,by go_num,I j0,Sm,O1,Gm⟩
  have hkj:k+j=n:=by have:=HC.jl;have:=HL.o;omega
  have D7:i<n:=j0;have hci:¬cap=i:=j0;have JJ:i<=n:=j0;have hML:JL M=n:=by rw[HC.len,HL.o]
  have HML:=I hML;have LF:∀ty,(Builtin.clear_ #[32] ty #[GI (some (O g (i*2))) (n-i) (cap-i)]).run prog wr=.ok (.tuple #[]) (wr.setCells g (i*2) (List.replicate ((n-i)*2) (U 0))):=λty=>by
   refine vv wr _ 56 ty YN Uq g (i*2) _ _ j0 (λt ht=>?_) (λt _=>HM.GG.2.2.1 _);rcases Nat.mod_two_eq_zero_or_one t with h0|h0
   ·have:=(HM.GG.2.2.2 (i+t/2) j0).1;rw[show(i+t/2)*2=i*2+t by omega]at this;rw[this];rfl
   have:=(HM.GG.2.2.2 (i+t/2) j0).2;rw[show(i+t/2)*2+1=i*2+t by omega]at this;rw[this];rfl
  obtain⟨M',hM',WY,_⟩:=WV.zeros (w:=wr) (n-i) (k:=i) j0 HM.o;refine t8 (show M'.take i=Il l n by rw[WY,HC.lo,hkj]) hM' (iB g HBG.o (List.replicate ((n-i)*2) (U 0)) (i*2) B7) λFh HMF HXF=>?_;clear WY hM' hML;go_wp2;go_ret;exact⟨⟨i,rfl,by rw[<-Fh.o];exact HMF.UF j0⟩,HXF⟩
 have DV:k=n:=k8 HK.o;have Fh:=I (show Il l n=l by rw[<-DV,HT.o,bR (by rw[HL.o,DV];exact i8 _)]);go_wp2;go_ret;exact⟨⟨n,rfl,by rw[Fh.o];exact K⟩,A0⟩
theorem pS{p:Int}(h:JL V=n):KR p V X 1 (n-2)=ET p V X:=by unfold KR ET;rw[h]
theorem pV{p:Int}(hl:JL V=n)(h:ak p V=true):(n:Int)-2+1=((1:Nat):Int)+((n-2:Nat):Int)/\1+(n-2)<=n:=by
 obtain⟨q,_,E,h5,hlen,_,_⟩:=ap h;have:∀q:Fin 6,1<=q.val->2<=cN q.val:=by decide
 have:=this ⟨q,by omega⟩ E;simp only at this;omega
theorem WV.Gx{w':J}{v E:arQ}{vs:List arQ}(h:WV w base v l)(H:DQ w base' E vs)(hg:w.grownBy w' E.ownBlock):WV w' base v l :=
 h.keep λq G=>hg.block q (h.lt q G).2 λe=>aL (show(56:Nat)≠29 by decide) h H q G e.symm
theorem sW{p:Int}{cap:Nat}(h:d9 w a n cap V)(hx:i6 w b m EM X)(hA:ET p V X=some l)(Ih:0<JL l):
 Calls prog 282 #[FS p a n cap,GI b m EM] w λe w'=>(∃v,e=ar v/\WV w' w v (Hq l))/\C7 w w':=by
 have Z:=I (C7.alloc w (QD #[U p,GI a n cap] 31));have H:=iF (p:=p) (h.ext Z) (hx.ext Z) 1 (n-2) ((n:Int)-2) (pV h.hlen);rw[pS h.hlen,hA]at H;have H:=I H;have⟨r8,r9⟩:=h.aq9;have Nf:2<n:=by
  have E:=(dO hA).2;have Q:=h.hlen;omega
 have GQ:n<=32:=by
  obtain⟨q,_,E,h5,hlen,_,_⟩:=ap (dU (dO hA).1);have:=bp q h5;have Q:=h.hlen;omega
 refine t8 (XY hA) Ih (show JL l<=1000000 by have E:=(dO hA).2;have Q:=h.hlen;omega) λHV G Lz=>?_;clear h hx hA Ih;go_in
 go_wp2_with fail;refine PP H λw1 v ho A'=>?_;obtain⟨a1,K,c1,rfl,HN⟩:=ho.var;have ho:WV w1 _ (GI a1 K c1) l:=ho;have FT:0<K:=by have E:=HN.o;have Q:=G.o;change (JL l)=K at E;omega
 obtain⟨g,rfl,YW,_,_⟩:=ho.block FT;have HS:=I (Z7 ho HV.o (by have E:=ho.rats.hlen;have:=Lz.o;omega));have X1:=I A';clear ho HN;go_wp2_with fail;refine HS.mono ?_;rintro e w2 ⟨rfl,Gs,C4⟩;have Ec:=I Gs;have X2:=I (Z.trans (C4 _ X1.o YW));clear Gs C4;go_wp2;go_ret;exact⟨⟨_,rfl,Ec.mono j7⟩,X2⟩
theorem AO{p:Int}{cap:Nat}(h:d9 w a n cap V)(hx:i6 w b m EM X):
 Calls prog 214 #[FS p a n cap,GI b m EM] w λe w'=>(∃v,e=ar v/\bZ w' w v (KC p V X))/\C7 w w':=by
 have⟨W,hW⟩:=e9 (w.alloc (QD #[U p,GI a n cap] 31));have hX:C7 w W:=by rw[hW];exact WU
 have DW:=I (show W.heap.size=w.heap.size+1 by rw[hW];simp);have k0:W.cell? (O w 0)=some (U p):=by rw[hW];simp
 have k1:W.cell? (O w 1)=some (GI a n cap):=by rw[hW];simp
 refine t8 hX (h.ext hX) (hx.ext hX) λHX HI HR=>?_;have⟨r8,r9⟩:=h.aq9;have PX:=iF (p:=p) HI.o HR.o 1 (n-2) ((n:Int)-2) (pV h.hlen);rw[pS h.hlen]at PX;have HE:=I PX;have HVL:=I h.hlen;clear h hx hX PX;go_in
 go_upto_region 1 with fail;rw[<-hW];clear hW;cases hA:ET p V X with
 | none =>
   have HN:=I (uo hA);rw[hA]at HE;clear hA;go_wp2_with fail;refine PP HE λw1 v ho A'=>?_;obtain⟨a1,n1,c1,rfl,G⟩:=ho.var;have X1:=I (HX.trans A');clear ho;go_wp2;go_ret;exact⟨⟨_,rfl,by rw[HN.o];exact bZ.nil _ _⟩,X1⟩
 | some l =>
   rw[hA]at HE;have H:=I hA;clear hA;go_wp2_with fail;refine PP HE λw1 v ho A'=>?_;obtain⟨a1,n1,c1,rfl,HN0⟩:=ho.var;have G:b9 (JL l=n1):=HN0;clear HN0;have HO:b9 (WV w1 W (GI a1 n1 c1) l):=ho;have X1:=I A';have c0:=A'.o6 k0;have c1':=A'.o6 k1;clear ho;by_cases hz:n1=0
   ·subst hz;have HN:=I (show KC p V X=[]by rw[od H.o,QX G.o];rfl);go_wp2;go_ret;exact⟨⟨_,rfl,by rw[HN.o];exact bZ.nil _ _⟩,HX.trans X1.o⟩
   have Li:((n1:Int) == 0)=false:=m9;have Fb:=I (show 0<JL l by rw[G.o];omega);have X1':=I (X1.trans (C7.alloc w1 (QD #[] 29)));have HEV:=I (sW (p:=p) (HI.ext X1') (HR.ext X1') H.o Fb);have k0':=(C7.alloc w1 (QD #[] 29)).o6 c0;have k1':=(C7.alloc w1 (QD #[] 29)).o6 c1';have QN:=I (DQ.D2 w1 W _ rfl X1.size);have GQ:n1<=32:=by
    obtain⟨q,_,h1,h5,hlen,_,_⟩:=ap (dU (dO H).1);have:=bp q h5;have h2:=HVL.o;have h3:=(dO H).2;have h4:=G.o;omega
   go_wp2_with fail;refine PP HEV λw2 v2 Gs C4=>?_;obtain⟨a2,Z,c2,rfl,Hb⟩:=Gs.var;have Nf:Z=n1:=by have h1:=Hb.o;rw[jb]at h1;have:=G.o;omega
   subst Nf;obtain⟨g,rfl,YW,_,_⟩:=Gs.block (k:=0) j0;have O8:=I (AR C4 (i8 _) Gs j0 j0);clear Gs YW Hb k0' k1' c0 c1';go_wp2_with fail;refine PP O8 λw3 mc EV B5=>?_;have⟨C,hC⟩:=e9 (Il (Hq l) Z);rw[<-hC]at EV;refine z6 (show KC p V X=C.map (λe=>Hf l e Z)by rw[od H.o,hC];unfold Td LO;rw[G.o]) EV (HO.ext ((C7.alloc w1 (QD #[] 29)).trans B5)) (QN.ext B5) (X1'.trans B5) EV.rats.hlen λZe B9 HOL Zc X3 HCL=>?_;have hmc:mc<=32:=by have h1:=HCL.o;have h2:=pP (Hq l) Z;rw[<-hC]at h2;omega
   have⟨ahW,ahU⟩:=EV.rats.aq9;have⟨hlcap,hlmax⟩:=HOL.rats.aq9;have KI:=X3.size;clear EV hC;go_wp2
   go_loopg [7,36] mc (λgk oo ii wr=>∃(k:Nat) (a1':l9) (n1' p1:Nat) (vs:List arQ),b9 (gk+k=mc)/\oo=GI a1' n1' p1/\ii=U k/\b9 (DQ wr W (GI a1' n1' p1) vs)/\b9 (bF wr W vs ((C.take k).map λe=>Hf l e Z))/\b9 (WV wr W (GI a1 Z c1) l)/\b9 (WV wr W (EQ g mc c2) C)/\b9 (C7 W wr))
   ·exact⟨0,_,_,_,[],I j0,rfl,rfl,Zc,I (bF.nil _ _),HOL,I (B9.mono (by have:=X1.size;simp;omega)),X3⟩
   rename Nat=>g1;rename J=>y9;obtain⟨k,a3,n3,p3,vs,HK,rfl,rfl,HV,GA,HOL1,HOC1,GV⟩:=hrel;have Ll:=GV.size;by_cases hlt:k<mc
   ·have⟨E,ey,Eo⟩:=Xe C k;have⟨D1,Eu⟩:=HOC1.GG.2.2.2 k hlt;rw[Eo]at D1 Eu;have Lv:=I (show C.take (k+1)=C.take k++[(E,ey)]by rw[es (by rw[HCL.o];exact hlt),Eo]);clear Eo;refine t8 (show JL vs=k by rw[GA.len,dc,k6,HCL.o];omega) (C7.alloc y9 (QD #[U E,U ey] 56)) (r'.D2 (y9.alloc (QD #[U E,U ey] 56)) (y9+1) (y9+1) j7 j7) λMz Qc HO1=>?_;go_wp2
    go_loopg [10,43] Z (λgk row ii wr=>∃(j:Nat) (a4:l9) (n4 p4:Nat),b9 (gk+j=Z)/\row=GI a4 n4 p4/\ii=U j/\b9 (r' wr (y9+1) (GI a4 n4 p4) (Hf l (E,ey) j))/\b9 (C7 (y9.alloc (QD #[U E,U ey] 56)) wr))
    ·exact O0
    obtain⟨j,a4,n4,p4,HJ,rfl,rfl,HOJ,Qb⟩:=hrel;have hszj:y9.heap.size+1<=wr.heap.size:=by have:=Qb.size;simpa using this
    by_cases Ii:j<Z
    ·have⟨yb,yo,yx,yy,YI,PA,JC,EN⟩:=(HOL1.ext (Qc.trans Qb)).rats.at Ii;subst YI;have ce0:wr.cell? (O y9 0)=some (U E):=Qb.o6 j7;have ce1:wr.cell? (O y9 1)=some (U ey):=Qb.o6 j7;have hX2:=C7.alloc wr (QD #[U yx,U yy] 56);have ce0':=hX2.o6 ce0;have ce1':=hX2.o6 ce1;have C0:=I hX2;have⟨K,hK⟩:=e9 (DM (yx,yy) (E,ey));have LN:=I (show DM (l[j]?.getD (0,0)) (E,ey)=K by rw[PA,hK]);have H6:=gH yx yy E ey (wr.alloc (QD #[U yx,U yy] 56));rw[<-hK]at H6;have H6:=I H6;clear hX2 PA hK;by_cases GP:K<0
     ·have Lx:=I (ob (l:=l) (e:=(E,ey)) (k:=j) (by rw[LN.o];exact GP));have hng:¬K≥0:=by omega
      go_wp2_with fail;refine i7 H6 λw4 DN=>?_;have DT:=I ((HOJ.ext C0).ext DN);have FV:=I ((Qb.trans C0).trans DN);go_wp2_with fail;refine vE ?_;exact⟨j+1,a4,n4,p4,I (k8 HJ.o),rfl,by go_num,I (by rw[Lx.o];exact DT),FV⟩
     have Ui:b9 (Hf l (E,ey) (j+1)=Hf l (E,ey) j++[(j:Int)+1]):=(oc (l:=l) (e:=(E,ey)) (k:=j) (by rw[LN.o];exact GP)).trans (by norm_cast);have hng:K≥0:=j0;have EW:=I (mw l (E,ey) j);go_wp2_with fail;refine i7 H6 λw4 DN=>?_;have DT:=I ((HOJ.ext C0).ext DN);have FV:=I ((Qb.trans C0).trans DN);have KJ:=FV.size
     go_wp2_with (first
      | (at_builtin;refine bK rfl _ _ rfl (y9+1) (GI a4 n4 p4) _ rfl (DT.ext WU) _ 1 _ [(j:Int)+1] rfl (K4 j7) (k8 EW.o) (by simp at KJ;simp;omega) ?_;intro v6 w6 ho hg r7;obtain⟨a6,n6,p6,rfl,Ia⟩:=ho.var;have EP:=I ho;have X6:=I (aj (FV.trans WU) hg (λq hq=>by have:=(DT.lt q hq).1;simp;omega));clear ho hg r7))
     refine vE ?_;exact⟨j+1,a6,n6,p6,I (k8 HJ.o),rfl,by go_num,I (by rw[Ui.o];exact EP),X6⟩
    have Ln:j=Z:=k8 HJ.o;subst Ln;have NY:=I (Qc.trans Qb)
    go_wp2_with (first
     | (at_builtin
        refine eY rfl _ _ rfl W (GI a3 n3 p3) vs rfl ((HV.ext NY).ext WU) _ _ 1 rfl N3 rfl (k8 Mz.o) m9 ?_;intro v6 w6 ho hg r7;obtain⟨a6,n6,p6,rfl,Ia⟩:=ho.var;have EP:=I ho;have O7:=I ((HOL1.ext (NY.trans WU)).Gx ((HV.ext NY).ext WU) hg);have Zo:=I ((HOC1.ext (NY.trans WU)).Gx ((HV.ext NY).ext WU) hg);have Po:=I (((GA.snoc NY.o (HOJ.mono j0) j0).ext WU).Gx ((HV.ext NY).ext WU) hg);have X6:=I (aj ((GV.trans NY).trans WU) hg (λq hq=>(HV.lt q hq).1));clear ho hg r7))
    refine kf ?_;exact⟨k+1,a6,n6,p6,_,I (k8 HK.o),rfl,by go_num,EP,I (by rw[Lv.o,sr];exact Po),O7,Zo,X6⟩
   have DV:k=mc:=k8 HK.o;subst DV;have HF:b9 (C.take k=C):=bR (by rw[HCL.o];exact i8 _);go_wp2;go_ret;exact⟨⟨_,rfl,by rw[Ze.o];refine bZ.mono' ⟨vs,HV,?_⟩ (k8 DW.o);have:=GA.o;rwa [HF.o]at this⟩,HX.trans GV.o⟩
theorem i6.RY{b cap:Nat}(h:i6 w (some (O b 0)) n cap l){k:Nat}(hk:k<=n):i6 w (if cap=k then some (O b 0) else some (O b (k*2))) (n-k) (cap-k) (l.drop k):=by
 have hc:=h.r8;split
 ·exact⟨by rw[Lr,h.hlen],by omega,by have:=h.r9;omega,λj G=>absurd G j0⟩
 refine⟨by rw[Lr,h.hlen],by omega,by have:=h.r9;omega,λj G=>⟨b,k*2,rfl,λi hi=>?_⟩⟩;have⟨b',off',e,E⟩:=h.cell (j+k) j0;obtain⟨rfl,rfl⟩:=aM e;have:=E (k+i) j0;rw[XJ,show k*2+i*2=0+(k+i)*2 by omega];exact this
theorem PT(l:l7)(k:Nat):∃x y,l[k]?.getD (0,0)=(x,y):=⟨_,_,rfl⟩
theorem tH{p:Int}{cap:Nat}(h:d9 w a n cap V)(hx:i6 w b m EM X):
 Calls prog 306 #[FS p a n cap,GI b m EM] w λe w'=>(∃v,e=ar v/\WV w' w v (Hq ((ET p V X).getD [])))/\C7 w w':=by
 have HX:=I (C7.alloc w (QD #[.int .i64 p,GI a n cap] 31));have HE:=I (mN (p:=p) (h.ext HX) (hx.ext HX));have Kw:=I (show((ET p V X).getD []).length<=1000 by
  cases hA:ET p V X with
  | none=>simp
  | some l =>
    obtain⟨q,_,h1,h5,hlen,_,_⟩:=ap (dU (dO hA).1);have:=bp q h5;have h3:=(dO hA).2;simp only[Nm];omega)
 have⟨l,hl⟩:=e9 ((ET p V X).getD []);rw[<-hl]at HE Kw⊢;clear h hx hl;go_in
 go_wp2_with fail;refine TS HE λw1 v ho A'=>?_;obtain⟨la,n1,c1,rfl,HN1⟩:=ho.var;have HL:=I ho.rats.hlen;have Ft:=I ho.rats;have FT:n1<=1000:=by have:=HL.o;have:=Kw.o;omega
 have hlc:=ho.rats.r8;have Oo:=ho.rats.r9;have X1:=I (HX.trans A');have QN:=I (WV.Su w1 w1 _ rfl (i8 _));clear ho A' HN1;go_wp2
 go_loopg [7,8] n1 (λgk oo ii wr=>∃(k g p1:Nat),b9 (gk+k=n1)/\oo=GI (some ⟨g,0,none⟩) k p1/\ii=.int .i64 (k:Int)/\b9 (WV wr w1 (GI (some ⟨g,0,none⟩) k p1) (GY l k))/\b9 (C7 w1 wr))
 ·exact⟨0,_,_,I j0,rfl,rfl,QN,I WU⟩
 rename Nat=>g1;rename J=>y9;obtain⟨k,g,p1,aa,rfl,rfl,Z,A0⟩:=hrel;have YQ:=Z.rats.r8;have hpm:=Z.rats.r9;by_cases hlt:k<n1
 ·obtain⟨ab,ao,x,y,rfl,Eo,ca0,ca1⟩:=Ft.at hlt;have Lv:=I Eo;clear Eo;go_wp2
  go_loopg [9] k (λgk tt wr=>∃(j:Nat),b9 (gk=j)/\b9 (j<=k)/\tt=.int .i64 (j:Int)/\b9 (WV wr w1 (GI (some ⟨g,0,none⟩) k p1) (GY l k))/\b9 (C7 w1 wr)/\b9 (IP (x,y) (GY l k) k=IP (x,y) (GY l k) j))
  ·exact⟨k,I rfl,I (i8 _),rfl,Z,A0,I rfl⟩
  obtain⟨j,Kl,HJ,rfl,Ec,C0,HP⟩:=hrel;have hjk:=HJ.o;have o7:=C7.drew wr;by_cases hj0:j=0;rotate_left;obtain⟨q,hjq⟩:∃q,j=q+1:=⟨j-1,by omega⟩;have⟨u,v,Mm⟩:=PT (GY l k) q;have⟨xb2,xo2,u2,v2,SG,RI,YZ,YY⟩:=Ec.rats.at (k:=q) j0;simp only[bq,H4,E5]at SG;obtain⟨Li,J6⟩:=SG;subst Li J6;rw[Mm]at RI;simp only[wb]at RI;obtain⟨rfl,rfl⟩:=RI;rw[hI]at YZ YY;have XL:=C0.o6 ca0;have XJ:=C0.o6 ca1;have hjg:0<j:=j0
  have hqk:q<k:=j0;have HK:=I hjq;have Rh:=I Mm;have Hn:=wq ((j:Int)-1) (q:Int);have H:wrap64 ((j:Int)-1)=(q:Int):=by unfold wrap64;omega
  have E8:(j:Int)-1=(q:Int):=j0;have FY:=wq (q:Int) (q:Int);have Fc:wrap64 (q:Int)=(q:Int):=by unfold wrap64;omega
  have⟨K,hK⟩:=e9 (DM (u,v) (x,y));have LN:=I hK;clear Mm hjq hK o7 hj0;by_cases GP:K<0
  ·skip
   have o7:=C7.drew wr;have D0:=o7;have o8:=I (λ(w':J) (h:C7 wr w')=>(an (h.o6 YZ) (an (h.o6 YY) (an (h.o6 XL) (an (h.o6 XJ) h)))));go_wp2_with fail
   go_region_held3 (λw'=>w'.cell? ⟨g,q*2,none⟩=some (.int .i64 u)/\w'.cell? ⟨g,q*2+1,none⟩=some (.int .i64 v)/\w'.cell? ⟨ab,ao+k*2,none⟩=some (.int .i64 x)/\w'.cell? ⟨ab,ao+k*2+1,none⟩=some (.int .i64 y)/\C7 wr w')
    (with_reducible exact o8.o _ o7)
    (first
      | ((with_reducible refine(eK _ _ _ _ _).mono ?_)
         rw[<-LN.o];rintro e w5 ⟨rfl,B0⟩;have o7:C7 wr w5:=o7.trans B0;have Sz:=o7.size))
   clear D0;clear Hn H E8 FY Fc YZ YY XL XJ;have E8:(j:Int)-1=(q:Int):=k8 HK.o;have H:wrap64 ((j:Int)-1)=(q:Int):=by have:=HK.o;unfold wrap64;omega
   go_wp2_with fail;clear H E8
   go_roundg (gk-1)
   case measure=>have:=Kl.o;exact cS
   exact⟨q,I (by have:=Kl.o;have:=HK.o;omega),I j0,by go_num,I (Ec.ext o7),I (C0.trans o7),I (by rw[HP.o,HK.o,tD MI])⟩
  focus
   have o7:=C7.drew wr;have D0:=o7;have o8:=I (λ(w':J) (h:C7 wr w')=>(an (h.o6 YZ) (an (h.o6 YY) (an (h.o6 XL) (an (h.o6 XJ) h)))));go_wp2_with fail
   go_region_held3 (λw'=>w'.cell? ⟨g,q*2,none⟩=some (.int .i64 u)/\w'.cell? ⟨g,q*2+1,none⟩=some (.int .i64 v)/\w'.cell? ⟨ab,ao+k*2,none⟩=some (.int .i64 x)/\w'.cell? ⟨ab,ao+k*2+1,none⟩=some (.int .i64 y)/\C7 wr w')
    (with_reducible exact o8.o _ o7)
    (first
      | ((with_reducible refine(eK _ _ _ _ _).mono ?_)
         rw[<-LN.o];rintro e w5 ⟨rfl,B0⟩;have o7:C7 wr w5:=o7.trans B0;have Sz:=o7.size))
   clear D0;clear Hn H E8 FY Fc YZ YY XL XJ;have HPJ:=I (show IP (x,y) (GY l k) k=j by rw[HP.o,HK.o,og (by rw[Rh.o,<-LN.o];omega)]);clear hqk
  rotate_left
  focus
   have HPJ:=I (show IP (x,y) (GY l k) k=j by rw[HP.o,hj0];rfl);have hjg:¬0<j:=j0;clear hj0;go_wp2_with fail;refine nE (S:=(λw'=>C7 wr w')) j8 ?_ (λo9=>?_)
   ·exact o7
   refine vA ⟨?_⟩;refine tk 14 ?_;refine Pi j8 ?_ _;have⟨w5,Fc⟩:=e9 wr.drew;rw[<-Fc]at o7 o9⊢;clear Fc o9
  all_goals
   have QM:=I (Ec.ext o7);have Xd:=I (C0.trans o7);have JK:=(QM.lt g rfl).2;have H9:=(QM.lt g rfl).1;have hs15:=Xd.size;have F5:=I (mS l k);have F9:=I (show(GY l k).take j++[(x,y)]++(GY l k).drop j=GY l (k+1)by
    rw[GY];unfold Qo;rw[Lv.o,F5.o,HPJ.o,yf];rfl)
   clear o7 hjg
   go_wp2_with (first
    | (at_builtin
       (have T1:=(WV.Su w5 w5 _ rfl (i8 _))
        have T2:=((QM.ext (C7.alloc w5 (QD #[] 56))).rats.take hjk);refine cG rfl _ _ rfl w5 (GI (some ⟨w5,0,none⟩) 0 0) [] rfl T1 _ j p1 _ rfl T2 m9 j7 ?_;intro v2 w6 ho hg r7;rw[Qu]at ho;obtain⟨a2,n2,c2,rfl,Hb⟩:=ho.var;have HA:=I ho;have HOe:=I ((QM.ext (C7.alloc w5 (QD #[] 56))).keep λq G=>hg.block q ((QM.ext (C7.alloc w5 (QD #[] 56))).lt q G).2 λe=>by have h1:=tu (show some w5.heap.size=some q from e.symm);have h2:=tu (show some g=some q from G);omega);have X6:=I (aj (Xd.trans (C7.alloc w5 (QD #[] 56))) hg (λq G=>by have:=tu (show some w5.heap.size=some q from G);omega));have hs6:w5.heap.size<=w6.heap.size:=fy j7 hg.size;have XL:=X6.o6 ca0;have XJ:=X6.o6 ca1;clear ho hg r7 T1 T2))
    | (at_builtin
       (have T1:=HA.ext (C7.alloc w6 (QD #[.int .i64 x,.int .i64 y] 56))
        have T2:=i6.one w6 x y 56;refine cG rfl _ _ rfl w5 (GI a2 n2 c2) ((GY l k).take j) rfl T1 _ 1 1 [(x,y)] rfl T2 (by have:=F5.o;simp;omega) m9 ?_;intro v3 w7 ho hg r7;obtain⟨a3,n3,c3,rfl,LK⟩:=ho.var;have HB:=I ho;have HOf:=I ((HOe.ext (C7.alloc w6 (QD #[.int .i64 x,.int .i64 y] 56))).keep λq G=>hg.block q ((HOe.ext (C7.alloc w6 (QD #[.int .i64 x,.int .i64 y] 56))).lt q G).2 λe=>by have h1:=(HA.lt q e.symm).1;have h2:=tu (show some g=some q from G);omega);have X7:=I (aj (X6.trans (C7.alloc w6 (QD #[.int .i64 x,.int .i64 y] 56))) hg (λq G=>by have:=(HA.lt q G).1;omega));have Q7:w5.heap.size<=w7.heap.size:=fy m9 hg.size;clear ho hg r7 T1 T2))
    | (at_builtin
       (have T1:=HB.o
        have T2:=HOf.rats.RY hjk;refine cG rfl _ _ rfl w5 (GI a3 n3 c3) ((GY l k).take j++[(x,y)]) rfl T1 _ (k-j) (p1-j) _ rfl T2 (by have:=F5.o;simp;omega) Q7 ?_;intro v4 w8 ho hg r7;obtain⟨a4,n4,c4,rfl,Ys⟩:=ho.var;have HD:=I ho;have X8:=I (aj X7.o hg (λq G=>by have:=(HB.lt q G).1;omega))
        clear ho hg r7 T1 T2)))
   all_goals
    have HD':=I (show WV w8 w5 (GI a4 n4 c4) (GY l (k+1))by have:=HD.o;rwa [F9.o]at this);have Oj:n4=k+1:=by have:=HD'.rats.hlen;rw[mS]at this;omega
    obtain⟨g4,YU,_,_,_⟩:=HD'.block (k:=0) j0;subst YU Oj;have HK:=aa;refine kf ?_;exact⟨k+1,g4,c4,I (k8 aa.o),rfl,by go_num,I (HD'.mono hs15),X8⟩
 have DV:k=n1:=k8 aa.o;subst DV;go_wp2;go_ret;exact⟨⟨_,rfl,by unfold Hq;rw[HL.o];exact Z.mono (k8 X1.size)⟩,X1.trans A0.o⟩
theorem WV.ad6{w':J}{v E:arQ}{vs:List arQ}(h:WV w base v l)(H:DQ w base' E vs)(hg:w.grownBy w' E.ownBlock):WV w' base v l :=
 h.keep λq G=>hg.block q (h.lt q G).2 λe=>aL (show(56:Nat)≠29 by decide) h H q G e.symm
theorem Vk(h:((x == x')&&(y == y'))=false):¬(x,y)=(x',y'):=by
 intro e;simp only[wb]at e;rw[e.1,e.2]at h;simp at h
theorem Vl(h:((x == x')&&(y == y'))=true):(x,y)=(x',y'):=by
 simp only[eI,xv]at h;rw[h.1,h.2]
theorem Bt{p:Int}{cap:Nat}(h:d9 w a n cap V)(hx:i6 w b m EM X):
 Calls prog 261 #[FS p a n cap,GI b m EM] w λe w'=>(∃v,e=ar v/\bZ w' w v (KC p V X))/\C7 w w':=by
 have⟨W,hW⟩:=e9 (w.alloc (QD #[U p,GI a n cap] 31));have hX:C7 w W:=by rw[hW];exact WU
 have DW:=I (show W.heap.size=w.heap.size+1 by rw[hW];simp);have k0:W.cell? (O w 0)=some (U p):=by rw[hW];simp
 have k1:W.cell? (O w 1)=some (GI a n cap):=by rw[hW];simp
 refine ns k0 k1 hX (h.ext hX) (hx.ext hX) λK0 K1 HX HI HR=>?_;have⟨r8,r9⟩:=h.aq9;have HVL:=I h.hlen;have RE:=C7.alloc W (QD #[] 29);have PX:=tH (p:=p) (HI.ext RE) (HR.ext RE);have⟨l,S3⟩:=GT ((ET p V X).getD []);rw[<-S3.o]at PX;refine t8 PX (show KC p V X=LO l (JL l) by unfold KC Td;rw[<-S3.o]) (DQ.D2 W W _ rfl (i8 _)) λHE Ze QN=>?_;have k0':=RE.o6 k0;have k1':=RE.o6 k1;have NY:=I RE;clear h hx hX PX RE k0 k1;go_in
 go_upto_region 1 with fail;rw[<-hW];clear hW;go_wp2_with fail;refine PP HE λw2 v ho C4=>?_;obtain⟨aa,G,ca,rfl,HN⟩:=ho.var;refine Op (show JL l=G by have:=HN.o;rwa [jb]at this) (show WV w2 W (GI aa G ca) (Hq l)from ho.mono j7) (QN.ext C4) (NY.trans C4) λSY Yo Zc X2=>?_
 have HNV:=I (show 0<G->ET p V X=some l/\ak p V=true/\G=n-2/\2<n/\n<=32 by
  intro h0;have h1:=S3.o;have h2:=SY.o;cases hA:ET p V X with
  | none=>rw[hA]at h1;rw[h1]at h2;simp at h2;omega
  | some r =>
    rw[hA]at h1;simp only[Nm]at h1;subst h1;have h3:=dO hA;obtain⟨q,_,h4,h5,hlen,_,_⟩:=ap (dU h3.1);have:=bp q h5;have h6:=HVL.o;exact⟨rfl,dU h3.1,by omega,by omega,by omega⟩)
 have⟨hac,ham⟩:=ho.rats.aq9;have hna9:G<=32:=by
  rcases Nat.eq_zero_or_pos G with h0|h0
  ·omega
  have:=HNV.o h0;omega
 clear ho HN k0' k1';go_wp2
 go_loopg [5,7] G (λgk oo ii wr=>∃(k:Nat) (a3:l9) (n3 p3:Nat) (vs:List arQ),b9 (gk+k=G)/\oo=GI a3 n3 p3/\ii=U k/\b9 (DQ wr W (GI a3 n3 p3) vs)/\b9 (bF wr W vs (LO l k))/\b9 (WV wr W (GI aa G ca) (Hq l))/\b9 (C7 W wr))
 ·exact⟨0,_,_,_,[],I j0,rfl,rfl,Zc,I (bF.nil _ _),Yo,X2⟩
 rename Nat=>g1;rename J=>y9;obtain⟨k,a3,n3,p3,vs,HK,rfl,rfl,HV,GA,Ly,GV⟩:=hrel;have Ll:=GV.size;by_cases hlt:k<G
 ·obtain⟨ga,SF,_,_,_⟩:=Ly.block hlt;have⟨H,ey,Eo⟩:=PT (Hq l) k;have Lv:=I Eo;obtain⟨xb,xo,ex1,ey1,rfl,RB,D1,Eu⟩:=Ly.rats.at hlt;rw[Eo]at RB;simp only[wb]at RB;obtain⟨rfl,rfl⟩:=RB;obtain⟨rfl,rfl⟩:=aM SF;clear SF;rw[hI]at D1 Eu;have⟨hAll,hGO,SC,Nf,GQ⟩:=HNV.o j0;refine Op hAll hGO (show JL vs<=k by rw[GA.len];exact wX _ _) SC λQV Yz Mz LJ=>?_;clear Eo hAll hGO SC;have o7:=C7.drew y9;by_cases KN:k=0;rotate_left;obtain⟨q,To⟩:∃q,k=q+1:=⟨k-1,by omega⟩;have⟨x',y',LP⟩:=PT (Hq l) q;have⟨xb2,xo2,u2,v2,SG,RI,YZ,YY⟩:=Ly.rats.at (k:=q) j0;have⟨Li,J6⟩:=aM SG;clear SG;subst Li J6;rw[LP]at RI;simp only[wb]at RI;obtain⟨rfl,rfl⟩:=RI;rw[hI]at YZ YY;have Z:0<k:=by omega
  have hqn:q<G:=j0;have HKG:=I Z;have M0:=I (show(Hq l)[k-1]?.getD (0,0)=(x',y')by rw[To];exact LP);have Hn:=wq ((k:Int)-1) (q:Int);have hw2:wrap64 ((k:Int)-1)=(q:Int):=by unfold wrap64;omega
  have E8:(k:Int)-1=(q:Int):=j0;have FY:=wq (q:Int) (q:Int);have Fc:wrap64 (q:Int)=(q:Int):=by unfold wrap64;omega
  clear LP To KN
  focus
   cases A':(H == x')
   all_goals
    cases EN:(ey == y')
  rotate_left 3
  ·have Lx:=I (CF (l:=l) HKG.o (by rw[Lv.o,M0.o];exact Vl (by rw[A',EN];rfl)));go_wp2_with fail
   go_region_held3 (λw'=>w'.cell? (O xb (k*2))=some (U H)/\w'.cell? (O xb (k*2+1))=some (U ey)/\w'.cell? (O xb (q*2))=some (U x')/\w'.cell? (O xb (q*2+1))=some (U y')/\C7 y9 w')
    (exact⟨o7.o6 D1,o7.o6 Eu,o7.o6 YZ,o7.o6 YY,o7⟩)
    (fail)
   refine Op (HV.ext o7) (GA.ext o7) (Ly.ext o7) (GV.trans o7) λHV2 I7 Ju C0=>?_;clear Hn hw2 E8 FY Fc;go_wp2_with fail;refine kf ?_;exact⟨k+1,a3,n3,p3,vs,I (k8 HK.o),rfl,by go_num,HV2,I (by rw[Lx.o];exact I7),Ju,C0⟩
  focus
   have Ui:=I (up (l:=l) (k:=k) j0);rw[Lv.o,SY.o]at Ui;have Z:¬0<k:=j0;clear KN;go_wp2_with fail;refine nE (S:=(λw'=>C7 y9 w')) j8 ?_ (λo9=>?_)
   ·exact o7
   refine vA ⟨?_⟩;refine Pi j8 ?_ _;generalize y9.drew=wd at o7 o9⊢;clear o9 Z
  rotate_left
  iterate 3
   focus
    have Ui:=I (up (l:=l) (k:=k) (λh=>Vk (x:=H) (y:=ey) (x':=x') (y':=y') (by rw[A',EN];rfl) ((Lv.symm.trans h.2).trans M0)));rw[Lv.o,SY.o]at Ui;go_wp2_with fail
    go_region_held3 (λw'=>w'.cell? (O xb (k*2))=some (U H)/\w'.cell? (O xb (k*2+1))=some (U ey)/\w'.cell? (O xb (q*2))=some (U x')/\w'.cell? (O xb (q*2+1))=some (U y')/\C7 y9 w')
     (exact⟨o7.o6 D1,o7.o6 Eu,o7.o6 YZ,o7.o6 YY,o7⟩)
     (fail)
    clear Hn hw2 E8 FY Fc YZ YY;generalize y9.drew=wd at o7⊢;clear Z A' EN hqn
   rotate_left
  all_goals
   refine Op (GV.trans o7) (HV.ext o7) (GA.ext o7) (Ly.ext o7) λUg HVd HRd HCd=>?_;have hszd:=Ug.size;have EI:=I (r'.D2 wd wd _ rfl (i8 _));clear o7 D1 Eu;go_wp2
   go_loopg [8,9] G (λgk row ii wr=>∃(j s:Nat) (a4:l9) (n4 p4:Nat),b9 (gk+j=G)/\b9 (s=1+j)/\row=GI a4 n4 p4/\ii=U s/\b9 (r' wr wd (GI a4 n4 p4) (Hf l (H,ey) j))/\b9 (C7 wd wr))
   ·exact⟨0,1,_,_,_,I j0,I rfl,rfl,rfl,EI,I WU⟩
   obtain⟨j,s,a4,n4,p4,HJ,HS,rfl,rfl,HOJ,Qb⟩:=hrel;have hszj:=Qb.size;have c0:=(Ug.trans Qb).o6 K0.o;have c1:=(Ug.trans Qb).o6 K1.o;have IK:1<=s:=k8 HS.o;by_cases Ez:s+1<n
   ·have Ii:j<G:=by have:=HS.o;have:=LJ.o;omega
    have GB:=rW (p:=p) (HI.ext (Ug.trans Qb)) (HR.ext (Ug.trans Qb)) Yz.o (s:=s) j0;have⟨u,v,Mm⟩:=PT l j;have hex:FK V X s=some (u,v):=by
     have h1:=QV.o;rw[lI (dO h1).1]at h1;have h2:=ir h1 j (by have:=HVL.o;have:=LJ.o;omega);rw[Mm]at h2;rw[HS.o];exact h2
    rw[hex]at GB;have GB:=I GB;have Rh:=I Mm;clear Mm hex;go_wp2_with fail;refine i7 GB λw3 B5=>?_;have⟨w4,FY⟩:=e9 (w3.alloc (QD #[U u,U v] 56));have DN:C7 w3 w4:=by rw[FY];exact WU
    have d0:w4.cell? (O w3 0)=some (U u):=by rw[FY];simp
    have d1:w4.cell? (O w3 1)=some (U v):=by rw[FY];simp
    have aeo:=I ((Qb.trans B5).trans DN);have HOJ4:=I ((HOJ.ext B5).ext DN);have⟨yb,yo,ex1,ey1,Kc,RB,f0,f1⟩:=(HCd.ext aeo).rats.at hlt;rw[Lv.o]at RB;simp only[wb]at RB;obtain⟨rfl,rfl⟩:=RB;obtain⟨rfl,rfl⟩:=aM Kc;clear Kc;rw[hI]at f0 f1;have⟨K,LN⟩:=GT (DM (u,v) (H,ey));clear DN c0 c1;go_upto_region 12 with fail;rw[<-FY];clear FY;by_cases GP:K<0
    ·have Lx:=I (ob (l:=l) (e:=(H,ey)) (k:=j) MI);have hng:¬K≥0:=by omega
     have o7:=C7.drew w4;have D0:=o7;have o8:=I (λ(w':J) (h:C7 w4 w')=>(an (h.o6 d0) (an (h.o6 d1) (an (h.o6 f0) (an (h.o6 f1) h)))))
     go_region_held3 (λw'=>w'.cell? (O w3 0)=some (U u)/\w'.cell? (O w3 1)=some (U v)/\w'.cell? (O xb (k*2))=some (U H)/\w'.cell? (O xb (k*2+1))=some (U ey)/\C7 w4 w')
      (with_reducible exact o8.o _ o7)
      (first
        | ((with_reducible refine(eK _ _ _ _ _).mono ?_)
           rw[<-LN.o];rintro e w5 ⟨rfl,B0⟩;have o7:C7 w4 w5:=o7.trans B0;have Sz:=o7.size))
     clear D0;have DT:=I (HOJ4.ext o7);have FV:=I (aeo.trans o7);clear d0 d1 f0 f1;go_wp2_with fail;refine vE ?_;exact⟨j+1,s+1,a4,n4,p4,I (k8 HJ.o),I (k8 HS.o),rfl,by go_num,I (by rw[Lx.o];exact DT),FV⟩
    have HTP:b9 (Hf l (H,ey) (j+1)=Hf l (H,ey) j++[(s:Int)]):=(oc (l:=l) (e:=(H,ey)) (k:=j) MI).trans (by rw[HS.o,QA 1 j]);have hng:K≥0:=j0;have EW:=I (mw l (H,ey) j);have o7:=C7.drew w4;have D0:=o7;have o8:=I (λ(w':J) (h:C7 w4 w')=>(an (h.o6 d0) (an (h.o6 d1) (an (h.o6 f0) (an (h.o6 f1) h)))))
    go_region_held3 (λw'=>w'.cell? (O w3 0)=some (U u)/\w'.cell? (O w3 1)=some (U v)/\w'.cell? (O xb (k*2))=some (U H)/\w'.cell? (O xb (k*2+1))=some (U ey)/\C7 w4 w')
     (with_reducible exact o8.o _ o7)
     (first
       | ((with_reducible refine(eK _ _ _ _ _).mono ?_)
          rw[<-LN.o];rintro e w5 ⟨rfl,B0⟩;have o7:C7 w4 w5:=o7.trans B0;have Sz:=o7.size))
    clear D0;have DT:=I (HOJ4.ext o7);have FV:=I (aeo.trans o7);have KJ:=FV.size;clear d0 d1 f0 f1
    go_wp2_with (first
     | (at_builtin
        have T1:=DT.ext (C7.alloc w5 (QD #[U s] 3));refine bK rfl _ _ rfl wd (GI a4 n4 p4) _ rfl T1 _ 1 _ [(s:Int)] rfl (K4 j7) (k8 EW.o) m9 ?_;intro v6 w6 ho hg r7;obtain⟨a6,n6,p6,rfl,Ia⟩:=ho.var;have EP:=I ho;have X6:=I (aj (FV.trans (C7.alloc w5 (QD #[U s] 3))) hg (λq hq=>(DT.lt q hq).1));clear ho hg r7 T1))
    refine vE ?_;exact⟨j+1,s+1,a6,n6,p6,I (k8 HJ.o),I (k8 HS.o),rfl,by go_num,I (by rw[HTP.o];exact EP),X6⟩
   have Ln:j=G:=by have:=HJ.o;have:=HS.o;have:=LJ.o;omega
   subst Ln
   go_wp2_with (first
    | (at_builtin
       have T1:=(HVd.ext Qb).ext (C7.alloc wr (QD #[GI a4 n4 p4] 29));refine eY rfl _ _ rfl W (GI a3 n3 p3) vs rfl T1 _ _ 1 rfl N3 rfl (k8 Mz.o) m9 ?_;intro v6 w6 ho hg r7;obtain⟨a6,n6,p6,rfl,Ia⟩:=ho.var;have EP:=I ho;have Zo:=I (((HCd.ext Qb).ext (C7.alloc wr (QD #[GI a4 n4 p4] 29))).ad6 T1 hg);have Po:=I (((HRd.snoc Qb.o HOJ.o hszd).ext WU).Gx T1 hg);have X6:=I (aj ((Ug.trans Qb).trans (C7.alloc wr (QD #[GI a4 n4 p4] 29))) hg (λq hq=>(HVd.lt q hq).1));clear ho hg r7 T1))
   refine kf ?_;exact⟨k+1,a6,n6,p6,_,I (k8 HK.o),rfl,by go_num,EP,I (by rw[Ui.o];exact Po),Zo,X6⟩
 have DV:k=G:=k8 HK.o;subst DV;go_wp2;go_ret;exact⟨⟨_,rfl,by rw[Ze.o,SY.o];exact bZ.mono' ⟨vs,HV,GA⟩ (k8 DW.o)⟩,HX.trans GV.o⟩
end
section
variable{k n EM:Nat}{w:J}{V:o3}{X:l7}
section
variable{w:J}{base g:Nat}{vb vc:arQ}{vs:List arQ}{A:l8}{B:o3}{C:l7}
theorem C9.putA{w1 w2:J}{G N cap:Nat}(h:C9 w base g (EQ G N cap) vb vc vs A B C)(hx:C7 w w1){k:Nat}(hk:k<N){v':arQ}{r:o3}(Fo:w1.grownBy w2 (vs[k]?.getD undef).ownBlock)(ho:r' w2 base v' r)(hn:Hx w1 (vs[k]?.getD undef) v'):
 C9 (w2.setCell (O G k) v') base g (EQ G N cap) vb vc (vs.set k v') (A.set k r) B C:=by
 have H:=h.ext hx;have LR:k<JL vs:=by rw[h.a.len];exact hk
 have Fe:k<JL A:=by rw[<-h.rows.len];exact LR
 have T4:=H.rows.row k Fe;have E4:w2.heap[g]?=some (QD #[EQ G N cap,vb,vc] 105 (0,0)):=(Fo.block g H.lt (H.neR Fe)).trans H.box;have Fx:∀j,j≠G->(w2.setCell (O G k) v').heap[j]?=w2.heap[j]?:=λj E=>GE _ _ _ _ E
 have ON:DQ w2 base (EQ G N cap) vs:=H.a.keep λj E=>Fo.block j (H.a.lt j E).2 λe=>T4.apart H.a j e.symm E
 have Ew:r' w2 base vb B:=H.b.keep λj E=>Fo.block j (H.b.lt j E).2 λe=>H.off k j LR e.symm E
 have GU:WV w2 base vc C:=H.c.keep λj E=>Fo.block j (H.c.lt j E).2 λe=>aL Fd H.c T4 j E e.symm
 have FZ:∀i,i<JL A->i≠k->r' w2 base (vs[i]?.getD undef) (A[i]?.getD []):=λi hi Ng=>(H.rows.row i hi).keep λj E=>Fo.block j ((H.rows.row i hi).lt j E).2 λe=>H.rows.apart' Ng hi Fe E e.symm
 have hnk:∀i j,i<JL A->i≠k->(vs[i]?.getD undef).ownBlock=some j->v'.ownBlock≠some j:=by
  intro i j hi Ng E K;rcases hn j K with e|e
  ·exact H.rows.apart' Ng hi Fe E e
  have:=((H.rows.row i hi).lt j E).2;omega
 have YS:g≠G:=λe=>H.neA RO
 refine⟨(Fx g YS).trans E4,h.hg,?_,⟨by rw[k7,k7];exact h.rows.len,λi hi=>?_,λa b j Tt Z E SE=>?_⟩,Ew.keep λj E=>Fx j λe=>Ew.apart ON j E RO,?_,GU.keep λj E=>Fx j λe=>aL Fd GU ON j E RO⟩
 ·have hoo:=ON;unfold DQ at hoo;rw[h.a.len]at hoo;have:=(Yk hoo k v').1;unfold DQ;rw[k7,h.a.len];exact this
 ·rw[k7]at hi;by_cases Ng:i=k
  ·subst Ng;rw[vY LR,vY Fe];exact ho.keep λj E=>Fx j λe=>ho.apart ON j E RO
  rw[sq (yx Ng),sq (yx Ng)];exact(FZ i hi Ng).keep λj E=>Fx j λe=>(FZ i hi Ng).apart ON j E RO
 ·rw[k7]at Z;by_cases hak:a=k
  ·subst hak;rw[vY LR]at E;rw[sq j0]at SE;exact hnk b j Z j0 SE E
  rw[sq (yx hak)]at E;by_cases NK:b=k
  ·subst NK;rw[vY LR]at SE;exact hnk a j j0 hak E SE
  rw[sq (yx NK)]at SE;exact h.rows.apart a b j Tt Z E SE
 intro i j hi E K;rw[k7]at hi;by_cases Ng:i=k
 ·subst Ng;rw[vY LR]at E;rcases hn j E with e|e
  ·exact H.off i j hi e K
  have:=(H.b.lt j K).2;omega
 rw[sq (yx Ng)]at E;exact H.off i j hi E K
theorem C9.agm{w1 E:J}{G N cap:Nat}(h:C9 w base g (EQ G N cap) vb vc vs A B C)(hx:C7 w w1){k:Nat}(Q:k<N)(Fo:w1.grownBy E (vs[k]?.getD undef).ownBlock):
 E.cell? (O G k)=some (vs[k]?.getD undef)/\E.frozen? (O G k)=false:=by
 have K:=h.ext hx;have LR:k<JL vs:=by rw[h.a.len];exact Q
 have Fe:k<JL A:=by rw[<-h.rows.len];exact LR
 have T4:=K.rows.row k Fe;have ON:DQ E base (EQ G N cap) vs:=K.a.keep λj hj=>Fo.block j (K.a.lt j hj).2 λe=>T4.apart K.a j e.symm hj
 constructor
 ·obtain⟨G',hG,_,hc⟩:=ON.cell Q;obtain rfl:=AA hG;rw[hc k Q];simp[LR]
 rcases ON.2 with⟨H,h0⟩|⟨g',cap',Z,H,hb,hg,_⟩
 ·simp only[nP]at H;obtain⟨h3,_⟩:=H;cases h3
 simp only[nP,bq,H4,E5]at H;obtain⟨rfl,_⟩:=H;exact mo E _ _ Z _ hg
end
theorem oZ:NE prog 283:=cR func283 j8 j8
theorem qe(x y:Int){b:Nat}(hc:w.cell? (O b 0)=some (U y))(hy:1<=EH y/\EH y<=100):
 f8 283 #[U x,aP (some (O b 0))] w (bl (!A4 x 1 (EH y-1))):=by
 have hwc:=dk (EH y-1);unfold f8;go_in
 go_wp2_with (first
  | (go_at_call 83;refine cP (et _ _) ?_)
  | (go_at_call 82;refine cP pk ?_))
 go_ret;exact⟨rfl,WF⟩
def NV(q:Nat)(l:o3)(k:Nat):l8:=(List.range q).map λi=>if i<k then XQ l i else DK l i
theorem BO(q:Nat)(l:o3):NV q l 0=EL q l:=by
 unfold NV EL;exact W6 λi _=>f7 j0
theorem BN(q:Nat)(l:o3):NV q l q=OS q l:=by
 unfold NV OS;exact W6 λi hi=>f9 (sj.1 hi)
theorem zi{q:Nat}(l:o3)(h:k<q):(NV q l k)[k]?.getD []=DK l k:=by
 unfold NV;simp[h]
theorem XU{q:Nat}(l:o3)(h:k<q):(NV q l k).set k (XQ l k)=NV q l (k+1):=by
 apply Tz;intro i;unfold NV;by_cases hi:i=k
 ·subst hi;rw[vY (by simp[h])];simp[h]
 rw[sq (yx hi)];by_cases E:i<q
 ·simp only[vM,TA E,yl];by_cases G:i<k
  ·rw[f9 G,f9 j0]
  rw[f7 G,f7 j0]
 simp[E]
theorem vu{l:o3}{j:Nat}(hL:JL l=n)(h:j<n):((DK l k).take (j+1)).sum=((DK l k).take j).sum+(DK l k)[j]?.getD 0:=by
 have E:j<JL (DK l k):=by simp only[DK,dc];omega
 rw[xl E,gx,IC,Id E,Nm]
theorem yY(n:Nat):eS (List.replicate n 0)=List.replicate n ((0:Int),(1:Int)):=by
 rw[gG Pu];simp[aG]
section
variable{w:J}{x:Int}{a:l9}{n cap:Nat}{l:o3}
def y0(h:σ:=by
 clear h hl C4;(try unfold f8);go_in
 go_upto_region 1 with fail;rw[<-hW];clear hW;have bx:=EC.o;go_wp2_with (go_at_call 82;refine(Hl _).mono ?_;rintro e w' ⟨rfl,rfl⟩);go_ret;exact⟨ag ab.symm,Ha⟩
 ):σ:=h
def cA(h:σ:=by
 exact⟨0,I j0,rfl,rfl,rfl⟩
 ):σ:=h
theorem rq(h:d9 w a n cap l)(hl:∀k:Nat,l[k]?.getD 0<=9223372036854775807)(hb:n<=1048576):
 f8 215 #[.int .i64 x,GI a n cap] w (bl (NW x l)):=by
 have r8:=h.r8;have r9:=h.r9;have HL:=I h.hlen;have HB:=I hl;have⟨W,hW⟩:=e9 (w.alloc (QD #[.int .i64 x] 3));have Mk:C7 w W:=by rw[hW];exact WU
 refine Op Mk (h.ext Mk) (show W.cell? ⟨w,0,none⟩=some (.int .i64 x)by rw[hW];simp) (λw'=>av x 1 5 w') λHa HI EC Hl=>?_;have hsW:=Mk.size;clear Mk;cases C4:A4 x 1 5
 ·simp only[C4]at Hl;have ab:=I (show NW x l=false by unfold NW gL;rw[C4];rfl);exact y0
 simp only[C4]at Hl;obtain⟨q,rfl⟩:∃q:Nat,x=q:=⟨x.toNat,by simp[A4]at C4;omega⟩;have Hh:1<=q:=by simp[A4]at C4;omega
 have JF:q<=5:=by simp[A4]at C4;omega
 have Ov:=I C4;by_cases hn:n<=40
 ·have PB:¬(n:Int) > 40:=by omega
  have hw2:=wq ((n:Int)+2) ((n+2:Nat):Int);have Mu:=bp q JF;have hcnt:=dP q JF;have TT:=I (dH (ca:=#[aP (some ⟨w,0,none⟩)]) (p:=λs=>!A4 s 1 (EH (q:Int)-1)) HI.o oZ (λs w1 A'=>qe s (q:Int) (A'.o6 EC) (by rw[hcnt];omega)))
  have ae':=I (show gL (q:Int) l=!(l.any λs=>!A4 s 1 (EH (q:Int)-1))by
   unfold gL;rw[C4,HL.o,UV hn,List.any_eq_not_all_not];simp)
  have⟨an,Rb⟩:=e9 (l.any λs=>!A4 s 1 (EH (q:Int)-1));rw[<-Rb]at TT ae';clear h hl C4 hcnt Rb;(try unfold f8);go_in
  go_upto_region 1 with fail;rw[<-hW];clear hW;have bx:=EC.o;go_wp2_with (go_at_call 82;refine cP (Hl _) ?_);refine IR TT λw1 A'=>?_;have X1:=I A';have bx1:=A'.o6 bx;clear A' bx;cases an
  case' true =>
   have ab:=I (show NW (q:Int) l=false by unfold NW;rw[ae'.o];rfl);go_wp2;go_ret;exact⟨ag ab.symm,Ha.trans X1.o⟩
  have O':=I (show gL (q:Int) l=true by rw[ae'.o];rfl);have HM:=I (kZ q JF (HI.ext X1) HB.o j0);have IK:=X1.size;go_wp2_with fail;refine TS HM λw2 vM hoM aa=>?_;have X2:=I aa;have⟨vs,hMv,hMr⟩:=bZ.mono' hoM (show w.heap.size<=w1.heap.size by omega);have HMV:=I hMv;have HMR:=I hMr;obtain⟨aM,nM,cM,rfl,Yr⟩:=hMv.var;obtain rfl:q=nM:=by have h1:=Yr.o;rw[hMr.len]at h1;simpa[EL]using h1
  have Nc:=aa.size;clear hoM aa hMv hMr;have HTM:=I (fZ (w:=w2) (n+2) 0 j0);go_wp2_with fail;refine TS HTM λw3 vT hoT B5=>?_;have X3:=I (X2.trans B5);obtain⟨aT,nT,cT,rfl,HNT⟩:=hoT.var;have Kj:=I (jv hoT.ints (by have h1:=HNT.o;rw[G6]at h1;omega));rw[yY]at Kj;have J8:=B5.size;clear hoT;go_wp2_with fail;refine TS Kj λw4 vC hoC DN=>?_;have X4:=I (B5.trans DN);obtain⟨aC,nC,cC,rfl,HNC⟩:=hoC.var;have TZ:=DN.size;have⟨E,hE⟩:=e9 (w4.alloc (QD #[GI aM q cM,GI none 0 0,GI aC nC cC] 105));have⟨g,hg⟩:=e9 w4.heap.size;have Gg:C7 w1 E:=by rw[hE];exact(X2.trans X4).trans WU
  have Qc:=I ((Ha.trans X1).trans Gg);have Nr:=I (show C9 E w g (GI aM q cM) (GI none 0 0) (GI aC nC cC) vs (NV q l 0) ((List.range 0).map (PQ l)) (KT l)from by
   rw[BO];exact⟨by rw[hE,hg];exact IO rfl,by omega,by rw[hE];exact(HMV.ext X4).ext WU,by rw[hE];exact(HMR.ext X4).ext WU,C1,λi k _ _ e=>by simp[Value.ownBlock]at e,by
    rw[hE];unfold KT;rw[HL.o];exact(hoC.ext WU).mono j0⟩)
  go_upto_region 6 with fail;rw[<-hE,<-hg];clear hE hg hoC hw2 B5 DN Gg;have t0:=Nr.c0;obtain⟨G,rfl,MQ⟩:∃G,aM=some ⟨G,0,none⟩/\w.heap.size<=G:=by
   obtain⟨G,hG,E6,_⟩:=HMV.cell (k:=0) j0;exact⟨G,hG,E6⟩
  go_wp2
  go_loopg [34] q (λgk ii wr=>∃(k:Nat) (vb:arQ) (vs:List arQ),b9 (gk+k=q)/\ii=.int .i64 (k:Int)/\b9 (C9 wr w g (GI (some ⟨G,0,none⟩) q cM) vb (GI aC nC cC) vs (NV q l k) ((List.range k).map (PQ l)) (KT l))/\b9 (C7 w wr))
  ·exact JS
  rename Nat=>g1;rename J=>y9;obtain⟨k,vb,vs,HK,rfl,Z,HX⟩:=hrel;have hsz:=HX.size;by_cases H:k<q
  ·have HML:=I (show(DK l k).length=n by simp only[DK,dc];rw[HL.o]);have z8:=Z.rows.row k (by rw[Z.rows.len.symm,Z.a.len];exact H);rw[zi l H]at z8;have⟨arqz,cr,Q2,Eu,GU⟩:=z8.form;rw[HML.o]at Q2 Eu;rw[Q2]at z8;have Hy:=I z8;have I6:=I Q2;obtain⟨G',Ij,_,hcell⟩:=Z.a.cell H;simp only[bq,H4,E5]at Ij;subst Ij;have tk:y9.cell? ⟨G,k,none⟩=some (GI arqz n cr):=by
    rw[hcell k H,<-Q2];have:k<JL vs:=by rw[Z.a.len];exact H
    simp[this]
   clear z8 Q2 hcell;have KN:=ST k;have Gj:=Rd k q;go_wp2
   go_loopg [8,41] n (λgk bb ii wr=>∃j:Nat,b9 (gk+j=n)/\ii=.int .i64 (j:Int)/\bb=.int .i64 (((DK l k).take j).sum)/\wr=y9)
   ·exact cA
   obtain⟨j,HJ,rfl,rfl,rfl⟩:=hrel;have Jc:=lC l k j;have Wl:=lC l k (j+1);have⟨sm,hsm⟩:=e9 (((DK l k).take j).sum);rw[<-hsm]at Jc;rw[<-hsm];by_cases F0:j<n
   ·have⟨eb,DI,IU,Fg⟩:=Hy.ints.at F0;subst IU;have hss:=vu (k:=k) HL.o F0;rw[<-hsm]at hss;rw[hss]at Wl;have⟨s,hs⟩:=e9 ((DK l k)[j]?.getD 0);rw[<-hs]at Fg hss Wl;have Rj:=I hss;have Pd:=dk (sm+s);have hj0:=ST j;have hj1:=Rd j n;clear hs hss hsm;go_wp2_with fail;refine vE ?_;exact⟨j+1,I (k8 HJ.o),by go_num,by rw[Rj.o],rfl⟩
   have Ii:n=j:=k8 HJ.o;have Rk:=I (show sm=(DK l k).sum by rw[hsm,bR xw]);have⟨bv,hbv⟩:=e9 (-sm);have Pd:IntKind.i64.wrap (-sm)=bv:=by rw[mn,hbv];omega
   have Un:=I (show PQ l k=bv by rw[hbv,Rk.o];rfl);have t1:=Z.c1;have bf:=Z.free;have JK:=Z.lt;have IG:=I (show((List.range k).map (PQ l)).length=k by simp);have GV:=I HX.o;clear Ii hbv hsm Jc Wl;go_upto_region 16 with(first
    | (at_builtin;refine bK rfl _ _ rfl w vb _ rfl (Z.b.ext WU) _ 1 _ [bv] rfl (K4 j7) (by rw[IG.o];omega) m9 ?_;intro v9 w9 ho Gt r7;have Kx:=I (Z.pushB WU Gt ho r7);have EX:=Z.OQ WU Gt;have Y0:=C9.FE EX;have SM:=C9.F2 EX;have Nk:C7 w w9:=aj (C7.trans HX.o WU) Gt (λj hj=>(Z.b.lt j hj).1);obtain⟨a9,n9,q9,rfl,N'⟩:=ho.var;clear ho Gt r7 EX))
   have Ma:=I (Nk.setCell (p:=⟨g,1,none⟩) Z.hg (GI a9 n9 q9));have⟨W8,NO⟩:=e9 (w9.setCell ⟨g,1,none⟩ (GI a9 n9 q9));rw[<-NO]at Kx Ma;rw[<-NO];clear NO Y0 SM Nk tk t1 Pd bf;have t0:=Kx.c0;have Wn:=Kx.rows.row k (by rw[Kx.rows.len.symm,Kx.a.len];exact H);rw[zi l H,I6.o]at Wn;have hs8:w.heap.size<=W8.heap.size:=W0 Ma.o;have B6:=C7.drew W8;have Ym:=I (Wn.ext B6);have S3:=I (Kx.ext B6);have hXd:C7 w W8.drew:=C7.trans Ma.o B6;clear Wn;refine cD (M:=[7]) (S:=λw'=>w'.cell? ⟨g,0,none⟩=some (GI (some ⟨G,0,none⟩) q cM)/\C7 w w') j8 ?_;have o9:=hJ (B6.o6 t0) hXd;have⟨wd,hwd⟩:=e9 W8.drew;rw[<-hwd]at B6 Ym S3 hXd o9;rw[<-hwd];clear hwd;have Q5:=B6.size;have td:=S3.c0;refine oj ⟨?_⟩;refine Gp 4 λK hK=>?_;go_simp;refine hK.out _ _ (λ_=>hJ (WU.o6 td) (hXd.trans WU)) ?_;clear hK K
   try simp only[Act.put,sA,sB,sC]
   refine Gp 5 λK hK=>?_;refine aO _ _ j9 w (GI arqz n cr) _ j9 (Ym.ext WU) _ 2 _ [-1,1] j9 (d9.ac2 [-1,1] _ rfl j9 rfl Fd) xw m9 ?_;intro v6 w6 ho Js r7;obtain⟨a6,n6,q6,rfl,Ia⟩:=ho.var;have Nq:=I (S3.putA WU H (by rw[I6.o];exact Js) ho (by rw[I6.o];exact r7));have P':=(Js.block g ((S3.ext WU).lt) (by have h3:=S3.neR (i:=k) (by rw[S3.rows.len.symm,S3.a.len];exact H);rw[I6.o]at h3;exact h3)).trans (S3.ext WU).box;have c06:=C9.FF P';have hp6:=S3.agm WU H (by rw[I6.o];exact Js);obtain⟨ck6,cf6⟩:=hp6;rw[I6.o]at ck6;have L0:C7 w w6:=aj (hXd.trans WU) Js (λj hj=>(Ym.lt j hj).1);clear ho Js r7 P';refine KL (hJ c06 L0) λo9=>?_;refine lp 6 ?_;refine OJ 7 ?_;refine cQ j8 ?_ _;have IZ:=I (L0.setCell (p:=⟨G,k,none⟩) MQ (GI a6 n6 q6));have⟨W9,ID⟩:=e9 (w6.setCell ⟨G,k,none⟩ (GI a6 n6 q6));rw[<-ID]at Nq IZ;go_upto_region 17 with fail;rw[<-ID];clear ID c06 ck6 cf6 o9 B6 hXd L0 td t0;go_wp2_with fail
   refine kf ?_;exact⟨k+1,_,_,I (k8 HK.o),by go_num,I (by
    have h1:=Nq.o;rw[<-Un.o,dm]at h1;rw[<-XU l H];exact h1),IZ⟩
  have To:q=k:=k8 HK.o;rw[<-To,BN]at Z;have Ea:b9 (C9 y9 w g (GI (some ⟨G,0,none⟩) q cM) vb (GI aC nC cC) vs (OS q l) (QI q l) (KT l)):=Z;obtain⟨aB,nB,cB,rfl,TJ⟩:=Ea.b.var;have Hk:=I (show Kh y9 (some ⟨G,0,none⟩) q cM aB nB cB aC nC cC (OS q l) (QI q l) (KT l)from
   ⟨bZ.Kq ⟨vs,Ea.a,Ea.rows⟩,Ea.b.ints,Ea.c.rats⟩)
  have Ff:=I (kY Hk);have⟨r,hr⟩:=e9 (bG az (OS q l) (QI q l) (KT l));rw[<-hr]at Ff;have HF:=I (show NW (q:Int) l=(r.status == 1)by
   unfold NW;rw[O'.o,gg,<-hr,y6];rfl)
  have t0:=Ea.c0;have t1:=Ea.c1;have t2:=Ea.c2;clear To hr;obtain⟨st,rX,rY,rr,⟨Ei,D6⟩,rp⟩:=r;go_wp2_with fail;refine Ff.mono ?_;rintro e w2 ⟨⟨xa,xn,xc,ya,yn,yc,ra,rn,rc,rfl,_⟩,C4⟩;unfold H8;have hfd:∀w:J,(Instr.field 109 (.agg #[.int .i64 st,GI xa xn xc,GI ya yn yc,GI ra rn rc,.int .i64 Ei,.int .i64 D6,.int .i64 rp]) 0).run prog w=.ok (.int .i64 st) w:=λ_=>by kernel_rfl
  exact pq
 have PB:(n:Int) > 40:=j0;have ab:=I (show NW (q:Int) l=false by unfold NW gL;rw[HL.o,Ok hn];simp);exact y0
end
theorem qp{l:l7}{e:o4}:∀{m:Nat},∀x∈Hf l e m,1<=x/\x<=(m:Int)
 | 0,x,h=>by simp[Hf]at h
 | m+1,x,h=>by
   by_cases hc:DM (l[m]?.getD (0,0)) e<0
   ·rw[ob hc]at h;have:=qp x h;omega
   rw[oc hc]at h
   rcases Wn.1 h with h|h
   ·have:=qp x h;omega
   rw[Se]at h;subst h;omega
theorem Ah{p:Int}{l:l7}(h:ET p V X=some l):JL l<=32:=by
 have G:=dO h;obtain⟨q,_,h4,E,hlen,_,_⟩:=ap (dU G.1);have:=bp q E;omega
theorem zB(p:Int)(V:o3)(X:l7):JL (KC p V X)<=32/\∀r∈KC p V X,JL r<=32/\∀k:Nat,r[k]?.getD 0<=9223372036854775807:=by
 cases h:ET p V X with
 | none=>rw[uo h];simp
 | some l =>
   have hl:=Ah h;rw[od h];refine⟨by have:=wX l (JL l);unfold Td;omega,λr hr=>?_⟩;unfold Td LO at hr;obtain⟨e,_,rfl⟩:=C'.1 hr;refine⟨by have:=mw l e (JL l);omega,λk=>?_⟩;by_cases E:k<(Hf l e (JL l)).length
   ·rw[Id E,Nm];have:=qp _ (eN E);omega
   rw[q8 j0];simp
def L5(p:Int)(V:o3)(X:l7):Option (o3):=(KC p V X).find? λr=>!IF p r
theorem zq{f:o3->Bool}{L:l8}{r:o3}(hr:L[k]?=some r)(h:(L.take k).all (λr=>!f r)=true)(E:f r=true):L.find? f=some r:=by
 obtain⟨H,rfl⟩:=O2.1 hr;have e:L=L.take k++(L[k]::L.drop (k+1)):=by rw[<-RQ H,Gv]
 generalize hx:L[k]=x at E e⊢;rw[e,List.find?_append,Wb.2 (λy G=>by have:=gy.1 h y G;simpa using this),List.find?_cons_of_pos E];rfl
theorem ua{f:o3->Bool}{L:l8}(h:L.all (λr=>!f r)=true):L.find? f=none :=
 Wb.2 (λy E=>by have:=gy.1 h y E;simpa using this)
theorem mK{v:arQ}{a b:Bool}(h:a=b):ar (.tuple #[v,bl a])=ar (.tuple #[v,bl b]):=by rw[h]
def RT(h:σ:=by
 have HF:=I (show L5 p V X=some r by rw[HFX.o];exact zq Fv.o aa.o (by rw[<-Gf.o];rfl));go_wp2;go_ret2;exact⟨⟨_,mK Qs,by rw[HF.o];exact aeB.mono HX.size⟩,HX.trans (X1.trans X2)⟩
 ):σ:=h
theorem pl{p:Int}{a:l9}{cap:Nat}(h:d9 w a n cap V){b:l9}{m:Nat}(hx:i6 w b m EM X):
 Calls prog 144 #[FS p a n cap,GI b m EM] w λe w'=>(∃v,e=ar (.tuple #[v,bl (L5 p V X).isSome])/\r' w' w v ((L5 p V X).getD []))/\C7 w w':=by
 have⟨W,hW⟩:=e9 (w.alloc (QD #[U p,GI a n cap] 31));have hX:C7 w W:=by rw[hW];exact WU
 have k0:W.cell? (O w 0)=some (U p):=by rw[hW];simp
 have k1:W.cell? (O w 1)=some (GI a n cap):=by rw[hW];simp
 refine t8 k0 hX (AO (p:=p) (h.ext hX) (hx.ext hX)) λK0 HX HE=>?_;have⟨L,hL⟩:=e9 (KC p V X);have H7:=I (zB p V X);have HFX:=I (show L5 p V X=L.find? (λr=>!IF p r)by rw[hL];rfl);rw[<-hL]at HE H7;clear h hx hX hL;go_in
 go_upto_region 1 with fail;rw[<-hW];clear hW;go_wp2_with fail;refine PP HE λw1 v ho X1=>?_;obtain⟨vs,RM,T3⟩:=ho;obtain⟨a1,Z,c1,rfl,HN⟩:=RM.var;refine t8 RM T3 (show JL L=Z by rw[<-T3.len];exact HN) λHV HR Kw=>?_;have FT:Z<=32:=by have G:=H7.1;have h2:=Kw.o;omega
 clear RM T3 HN;go_wp2
 go_loopg [12] Z (λgk ii wr=>∃(k:Nat),b9 (gk+k=Z)/\ii=U k/\b9 ((L.take k).all (λr=>!!IF p r)=true)/\b9 (C7 w1 wr))
 ·exact N0
 obtain⟨k,HK,rfl,aa,XR⟩:=hrel;by_cases H:k<Z
 ·have Fe:k<JL L:=by rw[Kw.o];exact H
  obtain⟨g,hg,_,LF⟩:=(HV.ext XR).cell H;have E:=(HR.ext XR).row k Fe;have hc:=LF k H;obtain⟨r,hr⟩:∃r,L[k]?=some r:=⟨_,Id Fe⟩;rw[hr,Nm]at E;have K:k<JL vs:=by rw[HR.len];exact Fe
  rw[Id K]at hc;rw[Id K,Nm]at E;have⟨ra,rn,rc,Tj,Np⟩:=E.var;rw[Tj]at hc E;subst hg;have SX:=I E;have I5:=H7.2 r (RU hr);have Fv:=I hr;have c0:=(X1.trans XR).o6 K0.o;have HB:=rq (x:=p) E.ints I5.2 (by have G:=E.ints.hlen;have:=I5.1;omega);rw[XO]at HB;have⟨bb,Gf⟩:=GT (IF p r);rw[<-Gf.o]at HB;have HB:=I HB;clear E I5 Tj Np hr K LF;go_wp2_with fail;refine i7 HB λw2 C4=>?_;have X2:=I (XR.trans C4);have aeB:=I (SX.ext C4);clear c0;cases bb
  ·exact RT
  have HT:=I (show(L.take (k+1)).all (λr=>!!IF p r)=true by
   rw[xl Fe,tn,aa.o];have G:=Fv.o;rw[Id Fe]at G;simp only[bq]at G;rw[G];simp[<-Gf.o])
  exact W2
 have HF:=I (show L5 p V X=none by
  have G:=aa.o;rw[bR (by rw[Kw.o];have:=HK.o;omega)]at G
  rw[HFX.o];exact ua G)
 go_wp2;go_ret2;exact⟨⟨_,mK Qs,by rw[HF.o];exact C1⟩,HX.trans (X1.trans XR)⟩
theorem po{p:Int}{a:l9}{cap:Nat}(h:d9 w a n cap V){b:l9}{m:Nat}(hx:i6 w b m EM X):
 Calls prog 186 #[FS p a n cap,GI b m EM] w λe w'=>(∃v,e=ar (.tuple #[v,bl (L5 p V X).isSome])/\r' w' w v ((L5 p V X).getD []))/\C7 w w':=by
 have⟨W,hW⟩:=e9 (w.alloc (QD #[.int .i64 p,GI a n cap] 31));have hX:C7 w W:=by rw[hW];exact WU
 have k0:W.cell? ⟨w,0,none⟩=some (.int .i64 p):=by rw[hW];simp
 have k1:W.cell? ⟨w,1,none⟩=some (GI a n cap):=by rw[hW];simp
 refine t8 k0 hX (Bt (p:=p) (h.ext hX) (hx.ext hX)) λK0 HX HE=>?_;have⟨L,hL⟩:=e9 (KC p V X);have H7:=I (zB p V X);have HFX:=I (show L5 p V X=L.find? (λr=>!IF p r)by rw[hL];rfl);rw[<-hL]at HE H7;clear h hx hX hL;go_in
 go_upto_region 1 with fail;rw[<-hW];clear hW;go_wp2_with fail;refine TS HE λw1 v ho A'=>?_;obtain⟨vs,RM,T3⟩:=ho;obtain⟨a1,n1,c1,rfl,HN⟩:=RM.var;refine Op RM T3 (show JL L=n1 by rw[<-T3.len];exact HN) A' λHV HR Kw X1=>?_;have FT:n1<=32:=by have E:=H7.1;have h2:=Kw.o;omega
 clear RM T3 A' HN;go_wp2
 go_loopg [7] n1 (λgk ii wr=>∃(k:Nat),b9 (gk+k=n1)/\ii=.int .i64 (k:Int)/\b9 ((L.take k).all (λr=>!!IF p r)=true)/\b9 (C7 w1 wr))
 ·exact N0
 rename Nat=>g1;rename J=>wr;obtain⟨k,HK,rfl,aa,XR⟩:=hrel;by_cases H:k<n1
 ·have Fe:k<JL L:=by rw[Kw.o];exact H
  obtain⟨g,hg,_,LF⟩:=(HV.ext XR).cell H;have Z:=(HR.ext XR).row k Fe;have hc:=LF k H;obtain⟨r,hr⟩:∃r,L[k]?=some r:=⟨_,Id Fe⟩;rw[hr,Nm]at Z;have K:k<JL vs:=by rw[HR.len];exact Fe
  rw[Id K]at hc;rw[Id K,Nm]at Z;have⟨ra,rn,rc,Tj,Np⟩:=Z.var;rw[Tj]at hc Z;subst hg;have SX:=I Z;have I5:=H7.2 r (RU hr);have Fv:=I hr;have c0:=(X1.trans XR).o6 K0.o;have G:=I I5;have⟨bb,FD⟩:=e9 (IF p r);have Gf:=I FD;clear Z I5 Tj Np FD hr K LF;have c0k:=c0;have T9:=hc;cases bb
  all_goals
   have Nt:=I (λ(w':J) (hk:C7 wr w')=>sf (x:=p) (SX.ext hk).ints G.2 (by have E:=SX.ints.hlen;have:=G.1;omega));rw[<-Gf.o]at Nt;have o7:=C7.drew wr;have D0:=o7;have o8:=I (λ(w':J) (h:C7 wr w')=>(an (h.o6 c0k) (an (h.o6 T9) h)));go_wp2_with fail
   go_region_held3 (λw'=>w'.cell? ⟨w,0,none⟩=some (.int .i64 p)/\w'.cell? ⟨g,k,none⟩=some (GI ra rn rc)/\C7 wr w')
    (with_reducible exact o8.o _ o7)
    (first
      | ((with_reducible refine(Nt.o _ Mt).mono ?_)
         rintro e w2 ⟨rfl,agM⟩;have o7:C7 wr w2:=o7.trans agM;have hs_w2:=o7.size))
   clear D0;have X2:=I (XR.trans o7);have aeB:=I (SX.ext o7);have hc:=o7.o6 T9;clear c0 c0k T9
  ·exact RT
  have HT:=I (show(L.take (k+1)).all (λr=>!!IF p r)=true by
   rw[xl Fe,tn,aa.o];have E:=Fv.o;rw[Id Fe]at E;simp only[bq]at E;rw[E];simp[<-Gf.o])
  go_wp2_with fail;refine kf ?_;exact⟨k+1,I (k8 HK.o),by go_num,HT,X2⟩
 have HF:=I (show L5 p V X=none by
  have E:=aa.o;rw[bR (by rw[Kw.o];have:=HK.o;omega)]at E
  rw[HFX.o];exact ua E)
 go_wp2;go_ret2;exact⟨⟨_,mK Qs,by rw[HF.o];exact r'.D2 _ _ _ rfl (k8 ((HX.trans (X1.trans XR)).size))⟩,(HX.trans (X1.trans XR)).trans WU⟩
end
section
variable{V:o3}{X l:l7}{EM k:Nat}{e:o4}
def ji(p:Int)(V:o3)(X:l7):Bool:=(ET p V X).isSome&&!(L5 p V X).isSome
theorem jk{f:Nat->Option (Int×Int)}:∀{m:Nat},(LE f m).isSome=true↔∀i,i<m->(f i).isSome=true
 | 0=>by simp[LE]
 | m+1=>by
   simp only[LE];cases h:LE f m with
   | none =>
     simp only[Option.bind_none,PI,QQ,false_iff];intro E;have:=(jk (f:=f) (m:=m)).2 λi hi=>E i j0
     rw[h]at this;cases this
   | some l =>
     have H:=(jk (f:=f) (m:=m)).1 (by rw[h];rfl);simp only[mr,Option.isSome_map];constructor
     ·intro E i hi;by_cases G:i=m
      ·rw[G];exact E
      exact H i j0
     intro E;exact E m j0
theorem Ch{p:Int}(h:EG p V X=true):(FK V X 0).isSome=true:=by
 obtain⟨q,_,_,_,_,E,_⟩:=ap (dU h);have e:cv X 0=some (0,1):=by
  unfold cv;rw[show Ix ((0:Nat):Int) 5=[]by decide];rfl
 unfold FK;rw[e,E];rfl
def SJ(h:σ:=by
 rw[eT hg];have⟨x,hx⟩:=e9 (V[V.length-1]?.getD 0);rw[<-hx];have EX:=dp hb (V.length-1);rw[<-hx]at EX;unfold NR;rw[oA (mT x j0 j0)];rfl
 ):σ:=h
theorem Ax{p:Int}(h:EG p V X=true):(FK V X (JL V-1)).isSome=true:=by
 obtain⟨hg,_,_,hs⟩:=rI h;obtain⟨q,_,_,h5,_,_,hb⟩:=ap hg;unfold FK;rw[hs];show(NR _ (bu p V,1)).isSome=true;exact SJ
theorem me(p:Int)(V:o3)(X:l7):(KR p V X 0 (JL V)).isSome=(ET p V X).isSome:=by
 unfold KR ET;cases h:EG p V X
 ·rfl
 rw[f9 rfl,f9 rfl];obtain⟨q,_,Q,h5,hlen,_,_⟩:=ap (dU h);have G:∀q:Fin 6,1<=q.val->2<=cN q.val:=by decide
 have H:=G ⟨q,by omega⟩ Q;simp only at H;rw[yy];unfold L6;rw[jk,jk];constructor
 ·intro E i hi;have:=E (1+i) j0
  rwa [hI]at this
 intro E i hi;rw[hI];by_cases Z:i=0
 ·rw[Z];exact Ch h
 by_cases K:i=JL V-1
 ·rw[K];exact Ax h
 have:=E (i-1) j0
 rwa [show 1+(i-1)=i by omega]at this
theorem vi{w:J}{p:Int}{a:l9}{n cap:Nat}(h:d9 w a n cap V){b:l9}{m:Nat}(hx:i6 w b m EM X):
 f8 67 #[FS p a n cap,GI b m EM] w (bl (ji p V X)):=by
 have H:=I (C7.alloc w (QD #[U p,GI a n cap] 31));have PX:=iF (p:=p) (h.ext H) (hx.ext H) 0 n ((n:Int)-1) (λ_=>by omega);have E:=me p V X;rw[h.hlen]at E;rw[E]at PX;refine t8 PX (h.ext H) (hx.ext H) λZ HI aa=>?_;have⟨r8,r9⟩:=h.aq9;clear h hx PX E;have⟨A,hA⟩:=e9 ((ET p V X).isSome);have⟨B,HB⟩:=GT ((L5 p V X).isSome);have HR:=I (show ji p V X=(A&&!B)by rw[hA,HB.o];rfl);rw[<-hA]at Z;clear hA;unfold f8;go_in
 go_wp2_with fail;refine PP Z λK v _ G=>?_;have c0:K.cell? (O w 0)=some (U p):=G.o6 j7;have c1:K.cell? (O w 1)=some (GI a n cap):=G.o6 j7;have Q:=I (pl (p:=p) (HI.ext G) (aa.ext G));rw[<-HB.o]at Q;go_wp2_with fail;refine PP Q λw2 v2 _ C4=>?_;have X1:=I (H.trans (G.trans C4));cases A
 all_goals
  have qq0:=@ag;exact b8
theorem vD{w:J}{p:Int}{a:l9}{n cap:Nat}(h:d9 w a n cap V){b:l9}{m:Nat}(hx:i6 w b m EM X):
 f8 116 #[FS p a n cap,GI b m EM] w (bl (ji p V X)):=by
 have G:=I (C7.alloc w (QD #[U p,GI a n cap] 31));have HE:=I (po (p:=p) (h.ext G) (hx.ext G));have HI:=I (h.ext G);have aa:=I (hx.ext G);clear h hx;have⟨A,hA⟩:=e9 ((ET p V X).isSome);have⟨B,H⟩:=e9 ((L5 p V X).isSome);have⟨C,HC⟩:=GT (EG p V X);have HR:=I (show ji p V X=(C&&(A&&!B))by
  unfold ji;rw[<-hA,<-H];cases hc:C
  ·have:=vH (p:=p) (V:=V) (X:=X) (by rw[<-HC.o,hc]);rw[this]at hA;rw[hA];rfl
  rfl)
 have HA:=I hA;rw[<-H]at HE;clear hA H;unfold f8;go_in
 go_wp2_with fail;refine PP HE λZ v _ E=>?_;have c0:Z.cell? (O w 0)=some (U p):=E.o6 j7;have c1:Z.cell? (O w 1)=some (GI a n cap):=E.o6 j7;have HF:=I (mN (p:=p) (HI.ext E) (aa.ext E));rw[<-HA.o]at HF;go_wp2_with fail;refine PP HF λw2 v2 _ Q=>?_;have K:=I (E.trans Q);replace c0:=Q.o6 c0;replace c1:=Q.o6 c1;have HP:=I (mL (p:=p) (HI.ext K) (aa.ext K));rw[<-HC.o]at HP;go_wp2_with fail;refine i7 HP λw3 B5=>?_;have X1:=I (G.trans (K.trans B5));clear c0 c1;cases C
 all_goals
  cases A
 all_goals
  have qq0:=@ag;exact b8
def ei(l:l7):Nat->o4
 | 0=>l[0]?.getD (0,0)
 | k+1=>if 0<DM (l[k]?.getD (0,0)) (ei l k) then l[k]?.getD (0,0) else ei l k
def eJ(l:l7)(e:o4)(k:Nat):o3:=((List.range k).filter λi=>decide (l[i]?.getD (0,0)=e)).map λ(i:Nat)=>(i:Int)+1
theorem rK(h:l[k]?.getD (0,0)=e):eJ l e (k+1)=eJ l e k++[(k:Int)+1]:=by unfold eJ;rw[rN,dr];simp[h]
theorem uG(h:l[k]?.getD (0,0)≠e):eJ l e (k+1)=eJ l e k:=by unfold eJ;rw[rN,dr];simp[h]
theorem mH(l:l7)(e:o4)(k:Nat):JL (eJ l e k)<=k:=by
 unfold eJ;rw[dc];exact fy (W5 _ _) j7
theorem Bi{x:Int}(h:x∈eJ l e k):1<=x/\x<=k:=by
 unfold eJ at h;obtain⟨i,hi,rfl⟩:=C'.1 h;have:=sj.1 (L1.1 hi).1;omega
theorem BU(x:o4):DM x x=0:=by unfold DM;split<;>simp
theorem BP(l:l7):ei l 1=l[0]?.getD (0,0):=by
 show(if 0<DM (l[0]?.getD (0,0)) (l[0]?.getD (0,0)) then _ else _)=_;rw[BU,f7 Fd];rfl
def fA(p:Int)(V:o3)(X:l7):Option ((Int×Int)×o3) :=
 match ET p V X with
 | none=>none
 | some l=>if JL l=0 then none else some (ei l (JL l),eJ l (ei l (JL l)) (JL l))
theorem Aq(p:Int)(V:o3)(X:l7):fE p V X=((KR p V X 0 (JL V)).isSome&&!(((KR p V X 0 (JL V)).getD []).any λe=>decide (0<e.1))):=by
 cases hA:ET p V X with
 | none =>
   have h:=me p V X;rw[hA]at h;rw[h];unfold fE;rw[hA];rfl
 | some l =>
   have h:=me p V X;rw[hA]at h;have⟨L,G⟩:=Option.isSome_iff_exists.1 h;rw[G];have⟨H,hl⟩:=dO hA;rw[lI H]at hA;unfold KR at G;rw[f9 H]at G;unfold L6 at hA G;have K:=ir hA;have Q:=ir G;have hLl:=cX G;obtain⟨q,_,h1,h5,hlen,h0,hb⟩:=ap (dU H);have hq:∀q:Fin 6,1<=q.val->2<=cN q.val:=by decide
   have hn:=hq ⟨q,by omega⟩ h1;simp only at hn;have z0:FK V X 0=some (0,1):=by
    have e:cv X 0=some (0,1):=by
     unfold cv;rw[show Ix ((0:Nat):Int) 5=[]by decide];rfl
    unfold FK;rw[e,h0];decide
   have z9:FK V X (JL V-1)=some (0,1):=by
    obtain⟨hg,_,_,hs⟩:=rI H;unfold FK;rw[hs];show NR _ (bu p V,1)=some (0,1);exact SJ
   show fE p V X=!(L.any λe=>decide (0<e.1));unfold fE;rw[lI H];unfold L6;rw[hA];simp only;rw[yy,gy,gr,Wg,Ne,i'];constructor
   ·rintro ES ⟨e,Z,Ih⟩;obtain⟨i,hi,rfl⟩:=Yi.1 Z;have E:=Q i j0;rw[Id hi,Nm,hI]at E;replace Ih:=uf Ih;generalize L[i]=z at E Ih;clear Z;by_cases hi0:i=0
    ·subst hi0;rw[z0]at E;rw[<-tu E]at Ih;exact absurd Ih Fd
    by_cases hi9:i=JL V-1
    ·rw[hi9,z9]at E;rw[<-tu E]at Ih;exact absurd Ih Fd
    have hg:=K (i-1) j0;rw[show 1+(i-1)=i by omega,E,Id j0,Nm]at hg;have:=uf (ES _ (eN (show i-1<JL l by omega)));rw[<-tu hg]at this;omega
   intro hno e Z;obtain⟨i,hi,rfl⟩:=Yi.1 Z;have E:=K i j0;rw[Id hi,Nm]at E;have hg:=Q (i+1) j0;rw[hI,QA,E,Id j0,Nm]at hg;refine UV (Xb λIh=>hno ⟨L[1+i]' j0,eN _,UV ?_⟩);rw[<-tu hg];omega
def il(f:Nat->Bool):Nat->Nat
 | 0=>0
 | k+1=>il f k+if f k=true then cN k else 0
theorem qn(f:Nat->Bool):∀k,il f k<cN k
 | 0=>by simp[il,cN]
 | k+1=>by
   have ih:=qn f k;have e:cN (k+1)=cN k+cN k:=by unfold cN;rw[Nat.pow_succ];omega
   unfold il;split<;>omega
def We(a b k:Nat):Bool:=M2 (a:Int) k||M2 (b:Int) k
def XX(a b k:Nat):Bool:=M2 (a:Int) k&&M2 (b:Int) k
theorem W':∀a b:Fin 32,il (We a.val b.val) 5=a.val ||| b.val:=by decide +kernel
theorem gv:∀a b:Fin 32,il (XX a.val b.val) 5=a.val &&& b.val:=by decide +kernel
def Zc(h:σ:=by
 rw[E6]at HA;rw[Ew]at HB;rw[E6,Ew]at HS;clear E6 Ew;go_wp2_with fail;refine(HG _).mono ?_;rintro e w3 ⟨rfl,rfl⟩;go_wp2_with fail;refine(Kl _).mono ?_;rintro e w3 ⟨rfl,rfl⟩;go_wp2_with fail;refine(bE (a:Int) (k:Int) _ j0).mono ?_;rw[HA.o];rintro e w3 ⟨rfl,rfl⟩;go_wp2_with fail
 try(refine(bE (b:Int) (k:Int) _ j0).mono ?_;rw[HB.o];rintro e w3 ⟨rfl,rfl⟩;go_wp2_with fail)
 try(refine(HC _).mono ?_;rintro e w3 ⟨rfl,rfl⟩;go_wp2_with fail)
 refine er ?_;exact⟨k+1,I (k8 HK.o),by go_num,by rw[HS.o];simp[cN,go_sem];try omega,rfl⟩
 ):σ:=h
def RE(h:σ:=by
 have MN:k=5:=by have:=HK.o;omega
 subst MN;have HT:=I hT;clear hT;go_wp2;go_ret;exact⟨au (by rw[HT.o,HE.o]),rfl⟩
 ):σ:=h
theorem ZG(a b:Nat)(G:a<32)(hb:b<32)(w:J):
 Calls Tryz.prog 309 #[U a,U b] w λe w'=>e=ar (U ((a ||| b:Nat):Int))/\w=w':=by
 have E:A4 (a:Int) 0 31=true:=by unfold A4;simp;omega
 have JJ:A4 (b:Int) 0 31=true:=by unfold A4;simp;omega
 have HG:=I (λw'=>io (a:Int) w');have Kl:=I (λw'=>io (b:Int) w');rw[E]at HG;rw[JJ]at Kl;clear E JJ;have HE:=I (W' ⟨a,G⟩ ⟨b,hb⟩);go_in
 go_wp2
 go_loopg [5,6] 5 (λgk o i wr=>∃(k:Nat),b9 (gk+k=5)/\i=U k/\o=U (il (We a b) k:Int)/\wr=w)
 ·exact cA
 obtain⟨k,HK,rfl,ho,rfl⟩:=hrel;have⟨T,hT⟩:=e9 (il (We a b) k);rw[<-hT]at ho;subst ho;by_cases hlt:k<5
 ·have hTl:T<32:=by have:=qn (We a b) k;have:=(bp k j0).2;omega
  have HT:=I hT;clear hT;refine t8 (dE (a:Int) k j0 j0) (dE (b:Int) k j0 j0) (UX k j0) λHA HB HC=>?_;have hp:=fg k;have Tm:=gj k j0;cases E6:M2 (a:Int) k
  all_goals
   cases Ew:M2 (b:Int) k
  all_goals
   have HS:=I (show il (We a b) (k+1)=T+if(M2 (a:Int) k||M2 (b:Int) k)=true then cN k else 0 by rw[HT.o];rfl);exact Zc
 exact RE
theorem Dm(a b:Nat)(G:a<32)(hb:b<32)(w:J):
 Calls Tryz.prog 308 #[U a,U b] w λe w'=>e=ar (U ((a &&& b:Nat):Int))/\w=w':=by
 have E:A4 (a:Int) 0 31=true:=by unfold A4;simp;omega
 have JJ:A4 (b:Int) 0 31=true:=by unfold A4;simp;omega
 have HG:=I (λw'=>io (a:Int) w');have Kl:=I (λw'=>io (b:Int) w');rw[E]at HG;rw[JJ]at Kl;clear E JJ;have HE:=I (gv ⟨a,G⟩ ⟨b,hb⟩);go_in
 go_wp2
 go_loopg [5,6] 5 (λgk o i wr=>∃(k:Nat),b9 (gk+k=5)/\i=U k/\o=U (il (XX a b) k:Int)/\wr=w)
 ·exact cA
 obtain⟨k,HK,rfl,ho,rfl⟩:=hrel;have⟨T,hT⟩:=e9 (il (XX a b) k);rw[<-hT]at ho;subst ho;by_cases hlt:k<5
 ·have hTl:T<32:=by have:=qn (XX a b) k;have:=(bp k j0).2;omega
  have HT:=I hT;clear hT;refine t8 (dE (a:Int) k j0 j0) (dE (b:Int) k j0 j0) (UX k j0) λHA HB HC=>?_;have hp:=fg k;have Tm:=gj k j0;cases E6:M2 (a:Int) k
  all_goals
   cases Ew:M2 (b:Int) k
  all_goals
   have HS:=I (show il (XX a b) (k+1)=T+if(M2 (a:Int) k&&M2 (b:Int) k)=true then cN k else 0 by rw[HT.o];rfl);exact Zc
 exact RE
