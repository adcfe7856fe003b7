import Derived.Test.YthjjfkeacobikaaGreatPuAllG47
set_option linter.unusedVariables false
set_option linter.unusedSimpArgs false
namespace Go.Proofs.YthjjfkeacobikaaGreat
set_option maxRecDepth 100000
open Go.RowKit
theorem ki (a:Option Addr) (n c:Nat) (b:Option Addr) (m d:Nat) (x:Int):∀ (j:Nat) (z:Int),(#[Value.slice a n c,.slice b m d,.int .i64 x]:Array Value)[j]? ≠ some (Value.int .u8 z):=fun j z e=>by
 match j with
 | 0=>simp at e
 | 1=>simp at e
 | 2=>simp at e
 | j+3=>simp at e
def tbN (r:Nat):Bx:=Bx.nil.upd r (#[.slice none 0 0,.slice none 0 0,.int .i64 0],83)
def tbX (r g:Nat) (va vb:Value) (x:Int):Bx:=(tbN r).upd g (#[va,vb,.int .i64 x],83)
section
variable {r g:Nat} {va vb:Value} {x:Int}
theorem bM:tbX r g va vb x g=some (#[va,vb,.int .i64 x],83):=Bx.same _ _ _
theorem cl (h:r ≠ g):tbX r g va vb x r=some (#[.slice none 0 0,.slice none 0 0,.int .i64 0],83):=(Bx.other _ _ h).trans (Bx.same _ _ _)
theorem tbX_o {k:Nat} (h:k ≠ r) (h':k ≠ g):tbX r g va vb x k=none:=(Bx.other _ _ h').trans (Bx.other _ _ h)
theorem kG (va' vb':Value) (x':Int):(tbX r g va vb x).upd g (#[va',vb',.int .i64 x'],83)=tbX r g va' vb' x':=by
 refine Bx.ext fun k=>?_
 by_cases e:k=g
 ·subst e;rw [Bx.same,bM]
 ·rw [Bx.other _ _ e];unfold tbX;rw [Bx.other _ _ e,Bx.other _ _ e]
end
section
variable {w wr w':World} {cb base g:Nat} {va vb:Value} {vs:List Value} {t:Tb}
theorem OwnT.calls (h:OwnT wr base va vb vs t) (hg:wr.grownBy w' (some cb)) (hb:cb<base):OwnT w' base va vb vs t:=by
 have hset:∀ j,base<=j->j<wr.heap.size->w'.heap[j]?=wr.heap[j]?:=fun j hj hl=>cH hg hl (by omega)
 exact ⟨h.a.keep fun k hk=>hset k (h.a.lt k hk).1 (h.a.lt k hk).2,h.rows.keep fun j k hj hk=>hset k ((h.rows.row j hj).lt k hk).1 ((h.rows.row j hj).lt k hk).2,h.b.keep fun k hk=>hset k (h.b.lt k hk).1 (h.b.lt k hk).2⟩
theorem OwnT.box {c:Array Value} {z:Nat × Nat} {k:Nat} {v:Value} (h:OwnT w base va vb vs t) (hb:w.heap[g]?=some (.cells c 83 z)):OwnT (w.setCell ⟨g,k,none⟩ v) base va vb vs t :=
 ⟨h.a.keep fun j hj=>heap_setCell_other _ _ _ _ fun e=>an h.a hb (by decide) (by rw [hj,e]),h.rows.keep fun i j hi hj=>heap_setCell_other _ _ _ _ fun e=>an (h.rows.row i hi) hb (by decide) (by rw [hj,e]),h.b.keep fun j hj=>heap_setCell_other _ _ _ _ fun e=>an h.b hb (by decide) (by rw [hj,e])⟩
theorem OwnT.box3 {c:Array Value} {x y u:Value} (h:OwnT w base va vb vs t) (hb:w.heap[g]?=some (.cells c 83 (0,0))):OwnT (((w.setCell ⟨g,0,none⟩ x).setCell ⟨g,1,none⟩ y).setCell ⟨g,2,none⟩ u) base va vb vs t:=by
 have h1:=heap_setCell_same w g 0 _ _ x hb;exact ((h.box hb).box h1).box (heap_setCell_same _ g 1 _ _ y h1)
theorem Bxs.tb {r:Nat} {x:Int} (h:Bxs w wr cb (tbX r g va vb x)):wr.heap[g]?=some (.cells #[va,vb,.int .i64 x] 83 (0,0)):=(h.box g _ bM).1
theorem OwnT.growB (h:OwnT w base va vb vs t) {vb':Value} {l:List Int} (hgr:w.grownBy w' vb.ownBlock) (ho:OwnI w' base vb' l):OwnT w' base va vb' vs ⟨t.rows,l,t.cols⟩ :=
 ⟨h.a.keep fun k hk=>hgr.block k (h.a.lt k hk).2 fun e=>au (by decide) h.a h.b k hk e.symm,h.rows.keep fun i k hi hk=>hgr.block k ((h.rows.row i hi).lt k hk).2 fun e=>au (by decide) (h.rows.row i hi) h.b k hk e.symm,ho⟩
theorem bentRow {G m rc g0 u c0:Nat} {ba:Option Addr} {mb bc:Nat} (h:OwnT w base (.slice (some ⟨G,0,none⟩) m rc) (.slice ba mb bc) vs t) (hm:0<m) (hv:vs[0]?.getD undef=.slice (some ⟨g0,0,none⟩) u c0) (hu:1<=u) {wf:World}
 (hG:wf.cell? ⟨G,0,none⟩=some (.slice (some ⟨g0,2,none⟩) (u-1) (c0-1))) (hGk:∀ k,0<k->wf.cell? ⟨G,k,none⟩=w.cell? ⟨G,k,none⟩) (ho:∀ k,base<=k->k<w.heap.size->k ≠ G->wf.heap[k]?=w.heap[k]?) (x:Int) :
 TbC wf (some ⟨G,0,none⟩) m rc ba mb bc ⟨t.rows.set 0 ((t.row 0).drop 1),t.basis,x⟩:=by
 have hR:RMat w base (some ⟨G,0,none⟩) m rc vs t.rows:=⟨h.a,h.rows⟩;have hl:=hR.len;have hcap:=hR.cap;refine ⟨⟨by rw [List.length_set];exact hl,hcap.1,hcap.2,fun k hk=>⟨G,0,rfl,fun k hk=>?_⟩⟩,(h.b.keep fun k hk=>ho k (h.b.lt k hk).1 (h.b.lt k hk).2 fun e=>au (by decide) h.b h.a k hk (by subst e;rfl)).ints⟩;rw [Nat.zero_add];have hrow:=h.rows.row k (by rw [hl];exact hk);have hrow2:=hrow.keep (w':=wf) fun j hj=>ho j (hrow.lt j hj).1 (hrow.lt j hj).2 fun e=>au (by decide) hrow h.a j hj (by subst e;rfl)
 by_cases h0:k=0
 ·subst h0;refine ⟨_,_,_,hG,?_⟩;rw [List.getElem?_set_self (by rw [hl];exact hm),Option.getD_some];rw [hv] at hrow2;have hr:=hrow2.rats;have hln:=hr.hlen;have hc:=hr.hcap;have hmx:=hr.hmax
  show Rats wf _ _ _ ((t.rows[0]?.getD []).drop 1);refine ⟨by rw [List.length_drop,hln],by omega,by omega,fun j hj=>⟨g0,2,rfl,fun j hj=>?_⟩⟩;obtain ⟨b,off,e,hcc⟩:=hr.cell (j+1) (by omega);simp only [Option.some.injEq,Addr.mk.injEq,and_true] at e;obtain ⟨rfl,rfl⟩:=e;obtain ⟨c1,c2⟩:=hcc (j+1) (by omega);rw [List.getElem?_drop,Nat.add_comm 1 j];rw [show 0+(j+1)*2=2+j*2 by omega] at c1 c2;exact ⟨c1,c2⟩
 ·rw [List.getElem?_set_ne (fun e=>h0 e.symm)];obtain ⟨a',n',c',hf,_⟩:=hrow2.var;rw [hf] at hrow2;refine ⟨a',n',c',?_,hrow2.rats⟩;obtain ⟨G',hG',_,hc⟩:=h.a.cell hk;simp only [Option.some.injEq,Addr.mk.injEq,and_true] at hG';subst hG';rw [hGk k (by omega),hc k hk,<-hf];have:k<vs.length:=by rw [h.rows.len,hl];exact hk
  simp [this]
end
theorem pr {g k q:Nat} (h:g+k=q) (hlt:k<q):g-1+(k+1)=q:=by omega
theorem lk {n m:Nat} {T0:Nat->Nat->Rat} {t:Tb} (h:TInv n m T0 t) (row col:Int):TInv n m T0 (bE t row col):=by
 unfold bE;cases e:aQ t row col with
 | none=>exact h
 | some t'=>exact dQ h e
theorem tbNe:36 ≠ 83:=by decide
theorem OwnT.tbcOn {w:World} {base:Nat} {ra:Option Addr} {rn rc:Nat} {ba:Option Addr} {bn bc:Nat} {vs:List Value} {t:Tb} (h:OwnT w base (.slice ra rn rc) (.slice ba bn bc) vs t):On base w (fun w=>TbC w ra rn rc ba bn bc t):=fun w2 h2 =>
 OwnT.tbc ⟨h.a.on w2 h2,h.rows.on w2 h2,h.b.on w2 h2⟩
theorem lJ {t:Tb} {l:List (Int × Int)} {b:List Int} {x:Int} (h:0<t.rows.length):(Tb.mk (t.rows.set 0 l) b x).row 0=l:=by
 unfold Tb.row;rw [List.getElem?_set_self h];rfl
theorem cut_rowS {t:Tb} {l:List (Int × Int)} {b:List Int} {x:Int} {i:Nat} (h:i ≠ 0):(Tb.mk (t.rows.set 0 l) b x).row i=t.row i:=by
 unfold Tb.row;rw [List.getElem?_set_ne (Ne.symm h)]
theorem nG {t:Tb} {b:List Int} {x:Int} (i:Nat):(Tb.mk (t.rows.set 0 ((t.row 0).drop 1)) b x).row i=t.row i ∨ (Tb.mk (t.rows.set 0 ((t.row 0).drop 1)) b x).row i=(t.row i).drop 1:=by
 by_cases h:i=0
 ·subst h;by_cases h2:0<t.rows.length
  ·exact .inr (lJ h2)
  ·left
   have:t.rows=[]:=List.eq_nil_of_length_eq_zero (by omega);unfold Tb.row;simp [this]
 ·exact .inl (cut_rowS h)
theorem cut_bd {t:Tb} {b:List Int} {x:Int} (h:∀ i j,-9223372036854775807<=(t.at i j).1/\(t.at i j).1<=9223372036854775807):∀ i j,-9223372036854775807<=((Tb.mk (t.rows.set 0 ((t.row 0).drop 1)) b x).at i j).1/\((Tb.mk (t.rows.set 0 ((t.row 0).drop 1)) b x).at i j).1<=9223372036854775807:=fun i j=>by
 rcases nG (b:=b) (x:=x) (t:=t) i with e|e
 ·unfold Tb.at;rw [e];exact h i j
 ·unfold Tb.at;rw [e,List.getElem?_drop];exact h i (1+j)
theorem cut_len {t:Tb} {b:List Int} {x:Int} {i n:Nat} (h:(t.row i).length<=n):((Tb.mk (t.rows.set 0 ((t.row 0).drop 1)) b x).row i).length<=n:=by
 rcases nG (b:=b) (x:=x) (t:=t) i with e|e
 ·rw [e];exact h
 ·rw [e,List.length_drop];omega
def TbSh (t:Tb) (n m mb:Nat):Prop:=(∃ T0,mb=m/\TInv n m T0 t) ∨ mb ≠ m ∨ (mb=m/\(t.row 0).length ≠ n+m+1)
structure TbD (w:World) (base:Nat) (ra:Option Addr) (m rc:Nat) (ba:Option Addr) (mb bc:Nat) (x:Int):Prop where
 own:∃ (t:Tb) (n:Nat),On base w (fun w=>TbC w ra m rc ba mb bc t)/\t.cols=(n:Int)/\x=(n:Int)/\n<=7/\TbSh t n m mb/\(∀ i j,-9223372036854775807<=(t.at i j).1/\(t.at i j).1<=9223372036854775807)/\∀ i,i<m->(t.row i).length<=20
 bd:1<=m/\m<=3/\mb<=4
set_option maxHeartbeats 32000000 in
theorem s_l6Draw {w:World} {cb:Nat} (h:Cur w cb) :
 Calls Tryz.prog 138 #[.pointer (some ⟨cb,0,none⟩)] w fun e w'=>(∃ ra m rc ba mb bc x,e=.returned (tbW ra m rc ba mb bc x)/\TbD w' w.heap.size ra m rc ba mb bc x)/\Cur w' cb/\w.grownBy w' (some cb):=by
 have hcl:=h.lt;obtain ⟨W,hW⟩:∃ W,W=w.alloc (.cells #[.slice none 0 0,.slice none 0 0,.int .i64 0] 83):=⟨_,rfl⟩;have hws:W.heap.size=w.heap.size+1:=by rw [hW];simp
 have HB0:=ae (show Bxs w W cb (tbN w.heap.size) by
  rw [hW];exact (Bxs.start h (cL (some cb) (Ext.refl w))).new #[.slice none 0 0,.slice none 0 0,.int .i64 0] 83 (ki _ _ _ _ _ _ _))
 clear h;go_enter Tryz.func138,Tryz.ntmps138
 go_upto_region 1 with fail;rw [<-hW];clear hW;go_wp2_with fail;refine (s_l5Draw HB0.out.cur).mono ?_;rintro e w1 ⟨⟨a,na,ca,b,nb,cb',c,nc,cc,rfl,hlp⟩,hc,hg⟩;have HBA:=ae (HB0.out.call hc hg);have hs1:=hg.size;obtain ⟨A,B,C,hLC,hok,hA1,hA3,hC6⟩:=hlp.own;have HST:=ae (gP hLC hok);have hnc:C.length=nc:=hLC.c.hlen;have hna:A.length=na:=hLC.a.hlen;obtain ⟨T0,hT0⟩:∃ T0,TInv nc na T0 (bC A B nc):=by
  have h1:=eF hok;rw [hnc,hna] at h1;exact ⟨_,h1⟩
 obtain ⟨t0,ht0⟩:∃ t,t=bC A B nc:=⟨_,rfl⟩;rw [<-ht0] at HST hT0;have HT0:=ae hT0;rw [hna] at hA1 hA3;rw [hnc] at hC6;clear hc hg hlp hLC hok hnc hna ht0 hT0;go_wp2_with fail;refine HST.out.mono ?_;rintro e w2 ⟨⟨va,vb,vs,rfl,ho⟩,hx2⟩;have hs2:=hx2.size;obtain ⟨ra,m,rc,rfl,HNA⟩:=ho.a.var;obtain ⟨ba,mb,bc,rfl,HNB⟩:=ho.b.var;obtain rfl:na=m:=by have h1:=HNA.out;rw [ho.rows.len,HT0.out.len] at h1;exact h1
 obtain rfl:na=mb:=by have h1:=HNB.out;rw [HT0.out.blen] at h1;exact h1
 obtain ⟨E,hE⟩:∃ E,E=w2.alloc (.cells #[.slice ra na rc,.slice ba na bc,.int .i64 (nc:Int)] 83):=⟨_,rfl⟩;obtain ⟨g,hgx⟩:∃ g,g=w2.heap.size:=⟨_,rfl⟩
 have HBE:=ae (show Bxs w E cb (tbX w.heap.size g (.slice ra na rc) (.slice ba na bc) (nc:Int)) by
  rw [hE,hgx];exact (HBA.out.ext hx2).new _ _ (ki _ _ _ _ _ _ _))
 have HOE:=ae (show OwnT E (w.heap.size+1) (.slice ra na rc) (.slice ba na bc) vs t0 by
  rw [hE];exact (ho.mono (by omega)).ext (Ext.alloc _ _))
 have hgw:w.heap.size+1<=g:=by omega
 have hne:w.heap.size ≠ g:=by omega
 clear ho hx2;go_upto_region 2 with fail;rw [<-hE,<-hgx];clear hE hgx hs1 hs2 HB0 HBA HNA HNB hws;go_wp2_with fail;refine (ch HBE.out.cur 3 (by omega)).mono ?_;rintro e w3 ⟨⟨y,rfl,hy0,hy1⟩,hc,hg⟩;obtain ⟨q,rfl⟩:∃ q:Nat,y=q:=⟨y.toNat,by omega⟩;have hq2:q<=2:=by omega
 have HB3:=ae (HBE.out.call hc hg);have HO3:=ae (HOE.out.calls hg (by omega));clear hc hg hy0 hy1 HBE HOE;go_wp2_with fail
 go_loopg [5] q (fun gk ii wr=>∃ (k:Nat) (ra:Option Addr) (rc:Nat) (ba:Option Addr) (bc:Nat) (vs:List Value) (t:Tb),Hid (gk+k=q)/\ii=.int .i64 (k:Int)/\Hid (TInv nc na T0 t)/\Hid (Bxs w wr cb (tbX w.heap.size g (.slice ra na rc) (.slice ba na bc) (nc:Int)))/\Hid (OwnT wr (w.heap.size+1) (.slice ra na rc) (.slice ba na bc) vs t))
 case atStart=>exact ⟨0,_,_,_,_,_,_,ae (by omega),rfl,HT0,HB3,HO3⟩
 case round =>
  obtain ⟨g1,h_g1⟩:∃ x,x=gk:=⟨_,rfl⟩;subst h_g1;obtain ⟨wr,h_wr⟩:∃ x,x=wr:=⟨_,rfl⟩;subst h_wr;obtain ⟨k,ra,rc,ba,bc,vs,t,HK,rfl,HT,HB,HO⟩:=hrel;by_cases hlt:k<q
  ·have hk2:Ext wr wr.drew:=Ext.drew wr;have HBD:=ae (HB.out.ext hk2);have HOD:=ae (HO.out.ext hk2);have HCE:=ae (fun (w':World) (h:Bxs w w' cb (tbX w.heap.size g (.slice ra na rc) (.slice ba na bc) (nc:Int)))=>(⟨h.t0 bM,h.t1 bM,h.t2 bM⟩:w'.cell? ⟨g,0,none⟩=some (.slice ra na rc)/\w'.cell? ⟨g,1,none⟩=some (.slice ba na bc)/\w'.cell? ⟨g,2,none⟩=some (.int .i64 (nc:Int))));have hw1:IntKind.i64.wrap ((nc:Int)+1)=(nc:Int)+1:=by rw [IntKind.wrap_i64];omega
   go_wp2_with fail;refine ci (M:=[15]) (S:=fun w'=>w'.cell? ⟨g,0,none⟩=some (.slice ra na rc)/\w'.cell? ⟨g,1,none⟩=some (.slice ba na bc)/\w'.cell? ⟨g,2,none⟩=some (.int .i64 (nc:Int))) (by kernel_rfl) ?_;have hHeld:=HCE.out _ HBD.out;obtain ⟨wd,hwd⟩:∃ y,y=wr.drew:=⟨_,rfl⟩;rw [<-hwd] at hHeld HBD HOD;rw [<-hwd];clear hwd hk2;refine ll 0 ?_;refine lp 1 ?_;refine lp 2 ?_;refine ll 3 ?_;refine lp 4 ?_;refine lp 6 ?_;refine lp 7 ?_;refine ll 8 ?_;refine lp 9 ?_;refine aG (i:=5) (oi:=?_) ?_ ?_ ?_ (fun K hK=>?_);rotate_left
   ·simp only [gA,gB,gC];rfl
   ·kernel_rfl
   ·kernel_rfl
   go_simp;go_at_call 92;refine (ch HBD.out.cur (na:Int) (by omega)).mono ?_;rintro e w8 ⟨⟨y,rfl,hy0,hy1⟩,hc,hg⟩;obtain ⟨r,rfl⟩:∃ r:Nat,y=r:=⟨y.toNat,by omega⟩;have hrm:r<na:=by omega
   have HB8:=ae (HBD.out.call hc hg);have HO8:=ae (HOD.out.calls hg (by omega));clear hc hg hy0 hy1;go_wp2_with fail;refine hK.out _ _ (fun _=>HCE.out _ HB8.out) ?_;have hHeld:=HCE.out _ HB8.out;clear hK K
   try simp only [Act.put,sA,sB,sC]
   refine aG (i:=10) (oi:=?_) ?_ ?_ ?_ (fun K hK=>?_);rotate_left
   ·simp only [gA,gB,gC];rfl
   ·kernel_rfl
   ·kernel_rfl
   go_simp;go_at_call 92;refine (ch HB8.out.cur ((nc:Int)+1) (by omega)).mono ?_;rintro e w9 ⟨⟨y,rfl,hy0,hy1⟩,hc,hg⟩;obtain ⟨co,rfl⟩:∃ r:Nat,y=r:=⟨y.toNat,by omega⟩;have hcm:co<nc+na:=by omega
   have HB9:=ae (HB8.out.call hc hg);have HO9:=ae (HO8.out.calls hg (by omega));clear hc hg hy0 hy1;go_wp2_with fail;refine hK.out _ _ (fun _=>HCE.out _ HB9.out) ?_;have hHeld:=HCE.out _ HB9.out;clear hK K
   try simp only [Act.put,sA,sB,sC]
   have HPV:=ae (mF HO9.out.tbc HT.out (by omega) (by omega) hrm hcm);have HTP:=ae (lk HT.out (r:Int) (co:Int));obtain ⟨tp,htp⟩:∃ x,x=bE t (r:Int) (co:Int):=⟨_,rfl⟩;obtain ⟨ok,hok⟩:∃ x,x=(aQ t (r:Int) (co:Int)).isSome:=⟨_,rfl⟩;rw [<-htp] at HPV HTP;rw [<-hok] at HPV;have HCT:=ae HTP.out.cols;clear htp hok;have hs9:w.heap.size+1<=w9.heap.size:=by have:=HB9.out.lt (b:=g) bM;omega
   refine aG (i:=11) (oi:=?_) ?_ ?_ ?_ (fun K hK=>?_);rotate_left
   ·simp only [gA,gB,gC];rfl
   ·kernel_rfl
   ·kernel_rfl
   go_simp;go_at_call 56;refine HPV.out.mono ?_;rintro e w10 ⟨⟨va',vb',vs',he,ho⟩,hx⟩;rw [HCT.out] at he;subst he;have HB10:=ae (HB9.out.ext hx);have HO10:=ae (ho.mono hs9);clear ho hx;go_wp2_with fail;refine hK.out _ _ (fun _=>HCE.out _ HB10.out) ?_;have hHeld:=HCE.out _ HB10.out;clear hK K
   try simp only [Act.put,sA,sB,sC]
   obtain ⟨ra',na',rc',rfl,HNA⟩:=HO10.out.a.var;obtain ⟨ba',nb',bc',rfl,HNB⟩:=HO10.out.b.var;obtain rfl:na=na':=by have h1:=HNA.out;rw [HO10.out.rows.len,HTP.out.len] at h1;exact h1
   obtain rfl:na=nb':=by have h1:=HNB.out;rw [HTP.out.blen] at h1;exact h1
   have f0:=HB10.out.free (b:=g) bM;refine lp 12 ?_;refine lp 13 ?_;refine lp 14 ?_;refine cq (i:=15) (oi:=?_) (w':=?_) ?_ ?_ ?_ ?_ ?_ ?_ ?_;rotate_left 2
   ·simp only [gA,gB,gC];rfl
   ·kernel_rfl
   ·kernel_rfl
   ·exact of_decide_eq_true (by kernel_rfl)
   ·rfl
   ·go_simp;(try with_reducible rfl)
   try simp only [Act.put,sA,sB,sC]
   refine cv (by kernel_rfl) ?_ _
   have HB11:=ae (show Bxs w (((w10.setCell ⟨g,0,none⟩ (.slice ra' na rc')).setCell ⟨g,1,none⟩ (.slice ba' na bc')).setCell ⟨g,2,none⟩ (.int .i64 (nc:Int))) cb (tbX w.heap.size g (.slice ra' na rc') (.slice ba' na bc') (nc:Int)) from by
    have:=HB10.out.put3 (b:=g) bM (.slice ra' na rc') (.slice ba' na bc') (.int .i64 (nc:Int)) (bI _ _ _) (bI _ _ _) (eQ _);rw [kG] at this
    exact this)
   have HO11:=ae (HO10.out.box3 (x:=.slice ra' na rc') (y:=.slice ba' na bc') (u:=.int .i64 (nc:Int)) HB10.out.tb);obtain ⟨wz,hwz⟩:∃ x,x=(((w10.setCell ⟨g,0,none⟩ (.slice ra' na rc')).setCell ⟨g,1,none⟩ (.slice ba' na bc')).setCell ⟨g,2,none⟩ (.int .i64 (nc:Int))):=⟨_,rfl⟩;rw [<-hwz] at HB11 HO11;rw [<-hwz];clear hwz hHeld f0 hw1;go_wp2_with fail
   go_roundg (g1-1)
   case measure=>have:=HK.out;omega
   case rel=>exact ⟨k+1,_,_,_,_,_,_,ae (pr HK.out hlt),by go_num,HTP,HB11,HO11⟩
  ·have hkq:q=k:=by have:=HK.out;omega
   subst hkq;go_wp2_with fail;refine (ch HB.out.cur 16 (by omega)).mono ?_;rintro e w4 ⟨⟨z,rfl,hz0,hz1⟩,hc,hg⟩;have HB4:=ae (HB.out.call hc hg);have HO4:=ae (HO.out.calls hg (by omega));clear hc hg;have hbd:=HT.out.bounds;have HBD:=ae hbd.2;have HLN:=ae (show ∀ i,i<na->(t.row i).length<=20 from fun i hi=>by rw [hbd.1 i hi];omega);have HL0:=ae (hbd.1 0 (by omega));have HCO:=ae HT.out.cols;have HRL:=ae HT.out.len;have HBL:=ae HT.out.blen;clear hbd;have hcase:z=0 ∨ z=1 ∨ z=2 ∨ 3<=z:=by omega
   rcases hcase with rfl|rfl|rfl|hz3
   ·have q1:=HB4.out.t1 (b:=g) bM;have hs4:w.heap.size+1<=w4.heap.size:=by have:=HB4.out.lt (b:=g) bM;omega
    go_wp2_with (first
     | (at_builtin;refine bw rfl _ _ rfl (w.heap.size+1) (.slice ba na bc) _ rfl (HO4.out.b.ext (Ext.alloc _ _)) _ 1 _ [0] rfl (Ints.oneS _ _ _ _ (by simp)) (by rw [HBL.out];omega) (by simp;omega) ?_;intro v6 w6 ho hg6 hnear;have HB6:=ae ((HB4.out.ext (Ext.alloc _ _)).grew hg6 (fun k hk=>by have:=(HO4.out.b.lt k hk).1;exact ⟨by omega,by omega,tbX_o (by omega) (fun e=>an HO4.out.b HB4.out.tb (by decide) (by rw [hk,e]))⟩));have HO6:=ae ((HO4.out.ext (Ext.alloc _ _)).growB hg6 ho);obtain ⟨a6,n6,c6,rfl,HN6⟩:=ho.var;have c06:=HB6.out.t0 (b:=g) bM;have c16:=HB6.out.t1 (b:=g) bM;have c26:=HB6.out.t2 (b:=g) bM;have cf6:=HB6.out.free (b:=g) bM;have s06:=HB6.out.t0 (b:=w.heap.size) (cl hne);have s16:=HB6.out.t1 (b:=w.heap.size) (cl hne);have s26:=HB6.out.t2 (b:=w.heap.size) (cl hne);have sf6:=HB6.out.free (b:=w.heap.size) (cl hne);clear ho hg6 hnear q1))
    have HB7:=ae (show Bxs w (w6.setCell ⟨g,1,none⟩ (.slice a6 n6 c6)) cb (tbX w.heap.size g (.slice ra na rc) (.slice a6 n6 c6) (nc:Int)) from by
     have:=HB6.out.put (b:=g) bM 1 (.slice a6 n6 c6) (bI _ _ _);rw [<-kG (va:=.slice ra na rc) (vb:=.slice ba na bc) (x:=(nc:Int))]
     exact this)
    have HO7:=ae (HO6.out.box (k:=1) (v:=.slice a6 n6 c6) HB6.out.tb);have hn6:n6=na+1:=by have:=HN6.out;rw [List.length_append,HBL.out] at this;simp at this;omega
    have d0:=HB7.out.t0 (b:=g) bM;have d1:=HB7.out.t1 (b:=g) bM;have d2:=HB7.out.t2 (b:=g) bM;have r0:=HB7.out.t0 (b:=w.heap.size) (cl hne);have r1:=HB7.out.t1 (b:=w.heap.size) (cl hne);have r2:=HB7.out.t2 (b:=w.heap.size) (cl hne);have rf:=HB7.out.free (b:=w.heap.size) (cl hne);have HB9:=ae (HB7.out.put3 (cl hne) (.slice ra na rc) (.slice a6 n6 c6) (.int .i64 (nc:Int)) (bI _ _ _) (bI _ _ _) (eQ _));have HO9:=ae (HO7.out.keepAll (w':=(((w6.setCell ⟨g,1,none⟩ (.slice a6 n6 c6)).setCell ⟨w.heap.size,0,none⟩ (.slice ra na rc)).setCell ⟨w.heap.size,1,none⟩ (.slice a6 n6 c6)).setCell ⟨w.heap.size,2,none⟩ (.int .i64 (nc:Int))) fun k hk=>aV _ _ _ _ _ _ (by omega));have z0:=HB9.out.t0 (Bx.same _ _ _);have z1:=HB9.out.t1 (Bx.same _ _ _);have z2:=HB9.out.t2 (Bx.same _ _ _);have HF:=ae (show TbD _ w.heap.size ra na rc a6 n6 c6 (nc:Int) from ⟨⟨_,nc,(HO9.out.mono (Nat.le_succ _)).tbcOn,HCO.out,rfl,by omega,.inr (.inl (by omega)),HBD.out,HLN.out⟩,by omega,by omega,by omega⟩);go_wp2_with fail;refine bodyPost_ret (v:=.agg #[.slice ra na rc,.slice a6 n6 c6,.int .i64 (nc:Int)]) (by simp [results,Tryz.results138,go_sem,z0,z1,z2]) rfl ⟨⟨ra,na,rc,a6,n6,c6,_,rfl,HF.out⟩,HB9.out.cur,HB9.out.grown⟩
   ·obtain ⟨G,hG,hbG,_⟩:=HO4.out.a.cell (k:=0) (by omega);subst hG;have hR:RMat w4 (w.heap.size+1) (some ⟨G,0,none⟩) na rc vs t.rows:=⟨HO4.out.a,HO4.out.rows⟩;obtain ⟨g0,c0,hv0,hcell0,_,_,_,_,hc1,hc2⟩:=hR.row (i:=0) (by omega) (n:=nc+na+1) HL0.out (by omega);obtain ⟨u,hu⟩:∃ u,u=nc+na+1:=⟨_,rfl⟩;rw [<-hu] at hv0 hcell0 hc1;obtain ⟨_,hG',_,_,hfr⟩:=hR.outer (by omega);simp only [Option.some.injEq,Addr.mk.injEq,and_true] at hG';subst hG';have hu1:1<=u:=by omega
    have hub:u<=20:=by omega
    have hui:(1:Int)<=(u:Int):=by omega
    have hc01:¬ c0=1:=by omega
    have hk2:Ext w4 w4.drew:=Ext.drew w4;have HBd:=ae (HB4.out.ext hk2);have HOd:=ae (HO4.out.ext hk2);have HV0:=ae hv0;have hf2:w4.drew.frozen? ⟨G,0,none⟩=false:=hfr 0;have hna0:0<na:=by omega
    clear hv0 hR hfr hu;go_upto_region 11 with fail;refine ci (M:=[8]) (S:=fun w'=>w'.cell? ⟨g,0,none⟩=some (.slice (some ⟨G,0,none⟩) na rc)/\w'.cell? ⟨G,0,none⟩=some (.slice (some ⟨g0,0,none⟩) u c0)) (by kernel_rfl) ?_;have hHeld:=And.intro (HBd.out.t0 bM) (hk2.cellSome hcell0);obtain ⟨wd,hwd⟩:∃ y,y=w4.drew:=⟨_,rfl⟩;rw [<-hwd] at hHeld HBd HOd hf2;rw [<-hwd];clear hwd hk2;refine lp 0 ?_;refine ll 1 ?_;refine lp 2 ?_;refine ll 3 ?_;refine lp 4 ?_;refine ll 5 ?_;refine lp 6 ?_;refine lp 7 ?_;refine cq (i:=8) (oi:=?_) (w':=?_) ?_ ?_ ?_ ?_ ?_ ?_ ?_;rotate_left 2
    ·simp only [gA,gB,gC];rfl
    ·kernel_rfl
    ·kernel_rfl
    ·exact of_decide_eq_true (by kernel_rfl)
    ·rfl
    ·go_simp;(try with_reducible rfl)
    try simp only [Act.put,sA,sB,sC]
    refine cv (by kernel_rfl) ?_ _;obtain ⟨wz,hwz⟩:∃ x,x=wd.setCell ⟨G,0,none⟩ (.slice (some ⟨g0,2,none⟩) (u-1) (c0-1)):=⟨_,rfl⟩;have HGb:=ae (show wd.heap[G]?=wd.heap[G]?/\G ≠ g from ⟨rfl,fun e=>an HOd.out.a HBd.out.tb tbNe (by subst e;rfl)⟩)
    have HB7:=ae (show Bxs w wz cb (tbX w.heap.size g (.slice (some ⟨G,0,none⟩) na rc) (.slice ba na bc) (nc:Int)) from by
     rw [hwz]
     exact HBd.out.putr (b:=G) (k:=0) (by omega) (by omega) (tbX_o (by omega) HGb.out.2) hHeld.2 (bI _ _ _) _)
    have HGC:=ae (show wz.cell? ⟨G,0,none⟩=some (.slice (some ⟨g0,2,none⟩) (u-1) (c0-1)) by
     rw [hwz];exact World.cell?_setCell_same _ _ _ hHeld.2)
    have HGK:=ae (show ∀ k,0<k->wz.cell? ⟨G,k,none⟩=wd.cell? ⟨G,k,none⟩ from fun k hk=>by
     rw [hwz];exact World.cell?_setCell_other _ _ _ _ fun e=>by simp only [Addr.mk.injEq] at e;omega)
    have HSZ:=ae (show wz.heap.size=wd.heap.size by rw [hwz];simp);have HGO:=ae (show ∀ k,k ≠ G->wz.heap[k]?=wd.heap[k]? from fun k hk=>by rw [hwz];exact heap_setCell_other _ _ _ _ hk);rw [<-hwz];clear hwz hHeld hf2 hcell0;have d0:=HB7.out.t0 (b:=g) bM;have d1:=HB7.out.t1 (b:=g) bM;have d2:=HB7.out.t2 (b:=g) bM;have r0:=HB7.out.t0 (b:=w.heap.size) (cl hne);have r1:=HB7.out.t1 (b:=w.heap.size) (cl hne);have r2:=HB7.out.t2 (b:=w.heap.size) (cl hne);have rf:=HB7.out.free (b:=w.heap.size) (cl hne);have HB9:=ae (HB7.out.put3 (cl hne) (.slice (some ⟨G,0,none⟩) na rc) (.slice ba na bc) (.int .i64 (nc:Int)) (bI _ _ _) (bI _ _ _) (eQ _))
    have HT9:=ae (show On w.heap.size (((wz.setCell ⟨w.heap.size,0,none⟩ (.slice (some ⟨G,0,none⟩) na rc)).setCell ⟨w.heap.size,1,none⟩ (.slice ba na bc)).setCell ⟨w.heap.size,2,none⟩ (.int .i64 (nc:Int))) (fun w'=>TbC w' (some ⟨G,0,none⟩) na rc ba na bc ⟨t.rows.set 0 ((t.row 0).drop 1),t.basis,(nc:Int)⟩) from fun w2 h2=>by
     have hs:wd.heap.size<=(((wz.setCell ⟨w.heap.size,0,none⟩ (.slice (some ⟨G,0,none⟩) na rc)).setCell ⟨w.heap.size,1,none⟩ (.slice ba na bc)).setCell ⟨w.heap.size,2,none⟩ (.int .i64 (nc:Int))).heap.size:=by have:=HSZ.out;simp;omega
     have hGl:=(HOd.out.a.lt G rfl).2;have hG2:w2.heap[G]?=wz.heap[G]?:=(h2 G (by omega) (by omega)).trans (aV _ _ _ _ _ _ (by omega))
     exact bentRow HOd.out (by omega) HV0.out hu1 ((dO hG2 _).trans HGC.out) (fun k hk=>(dO hG2 _).trans (HGK.out k hk)) (fun k hk hl hkG=>(h2 k (by omega) (by omega)).trans ((aV _ _ _ _ _ _ (by omega)).trans (HGO.out k hkG))) (nc:Int))
    have z0:=HB9.out.t0 (Bx.same _ _ _);have z1:=HB9.out.t1 (Bx.same _ _ _);have z2:=HB9.out.t2 (Bx.same _ _ _);have HF:=ae (show TbD _ w.heap.size (some ⟨G,0,none⟩) na rc ba na bc (nc:Int) from ⟨⟨_,nc,HT9.out,rfl,rfl,by omega,.inr (.inr ⟨rfl,by rw [lJ (by rw [HRL.out];omega),List.length_drop,HL0.out];omega⟩),cut_bd HBD.out,fun i hi=>cut_len (HLN.out i hi)⟩,by omega,by omega,by omega⟩);go_wp2_with fail;refine bodyPost_ret (v:=.agg #[.slice (some ⟨G,0,none⟩) na rc,.slice ba na bc,.int .i64 (nc:Int)]) (by simp [results,Tryz.results138,go_sem,z0,z1,z2]) rfl ⟨⟨_,na,rc,ba,na,bc,_,rfl,HF.out⟩,HB9.out.cur,HB9.out.grown⟩
   ·have hw1:IntKind.i64.wrap ((nc:Int)+1)=(nc:Int)+1:=by rw [IntKind.wrap_i64];omega
    have q0:=HB4.out.t0 (b:=g) bM;have q1:=HB4.out.t1 (b:=g) bM;have q2:=HB4.out.t2 (b:=g) bM;have qf:=HB4.out.free (b:=g) bM
    have HB7:=ae (show Bxs w (w4.setCell ⟨g,2,none⟩ (.int .i64 ((nc:Int)+1))) cb (tbX w.heap.size g (.slice ra na rc) (.slice ba na bc) ((nc:Int)+1)) from by
     have:=HB4.out.put (b:=g) bM 2 (.int .i64 ((nc:Int)+1)) (eQ _);rw [<-kG (va:=.slice ra na rc) (vb:=.slice ba na bc) (x:=(nc:Int))]
     exact this)
    have HO7:=ae (HO4.out.box (k:=2) (v:=.int .i64 ((nc:Int)+1)) HB4.out.tb);have r0:=HB4.out.t0 (b:=w.heap.size) (cl hne);have r1:=HB4.out.t1 (b:=w.heap.size) (cl hne);have r2:=HB4.out.t2 (b:=w.heap.size) (cl hne);have rf:=HB4.out.free (b:=w.heap.size) (cl hne);have HB9:=ae (HB7.out.put3 (cl hne) (.slice ra na rc) (.slice ba na bc) (.int .i64 ((nc:Int)+1)) (bI _ _ _) (bI _ _ _) (eQ _));have HO9:=ae (HO7.out.keepAll (w':=(((w4.setCell ⟨g,2,none⟩ (.int .i64 ((nc:Int)+1))).setCell ⟨w.heap.size,0,none⟩ (.slice ra na rc)).setCell ⟨w.heap.size,1,none⟩ (.slice ba na bc)).setCell ⟨w.heap.size,2,none⟩ (.int .i64 ((nc:Int)+1))) fun k hk=>aV _ _ _ _ _ _ (by omega));have z0:=HB9.out.t0 (Bx.same _ _ _);have z1:=HB9.out.t1 (Bx.same _ _ _);have z2:=HB9.out.t2 (Bx.same _ _ _);have HF:=ae (show TbD _ w.heap.size ra na rc ba na bc ((nc:Int)+1) from ⟨⟨⟨t.rows,t.basis,(nc:Int)+1⟩,nc+1,(HO9.out.mono (Nat.le_succ _)).tbcOn.imp fun w h=>⟨h.rows,h.basis⟩,by simp,by simp,by omega,.inr (.inr ⟨rfl,by show (t.row 0).length ≠ _;rw [HL0.out];omega⟩),HBD.out,HLN.out⟩,by omega,by omega,by omega⟩);go_wp2_with fail;refine bodyPost_ret (v:=.agg #[.slice ra na rc,.slice ba na bc,.int .i64 ((nc:Int)+1)]) (by simp [results,Tryz.results138,go_sem,z0,z1,z2]) rfl ⟨⟨ra,na,rc,ba,na,bc,_,rfl,HF.out⟩,HB9.out.cur,HB9.out.grown⟩
   ·have e0:(z == 0)=false:=by simp;omega
    have e1:(z == 1)=false:=by simp;omega
    have e2:(z == 2)=false:=by simp;omega
    have q0:=HB4.out.t0 (b:=g) bM;have q1:=HB4.out.t1 (b:=g) bM;have q2:=HB4.out.t2 (b:=g) bM;have r0:=HB4.out.t0 (b:=w.heap.size) (cl hne);have r1:=HB4.out.t1 (b:=w.heap.size) (cl hne);have r2:=HB4.out.t2 (b:=w.heap.size) (cl hne);have rf:=HB4.out.free (b:=w.heap.size) (cl hne);have HB9:=ae (HB4.out.put3 (cl hne) (.slice ra na rc) (.slice ba na bc) (.int .i64 (nc:Int)) (bI _ _ _) (bI _ _ _) (eQ _));have HO9:=ae (HO4.out.keepAll (w':=(((w4.setCell ⟨w.heap.size,0,none⟩ (.slice ra na rc)).setCell ⟨w.heap.size,1,none⟩ (.slice ba na bc)).setCell ⟨w.heap.size,2,none⟩ (.int .i64 (nc:Int)))) fun k hk=>aV _ _ _ _ _ _ (by omega));have z0:=HB9.out.t0 (Bx.same _ _ _);have z1:=HB9.out.t1 (Bx.same _ _ _);have z2:=HB9.out.t2 (Bx.same _ _ _);have HF:=ae (show TbD _ w.heap.size ra na rc ba na bc (nc:Int) from ⟨⟨_,nc,(HO9.out.mono (Nat.le_succ _)).tbcOn,HCO.out,rfl,by omega,.inl ⟨T0,rfl,HT.out⟩,HBD.out,HLN.out⟩,by omega,by omega,by omega⟩);go_wp2_with fail;refine bodyPost_ret (v:=.agg #[.slice ra na rc,.slice ba na bc,.int .i64 (nc:Int)]) (by simp [results,Tryz.results138,go_sem,z0,z1,z2]) rfl ⟨⟨ra,na,rc,ba,na,bc,_,rfl,HF.out⟩,HB9.out.cur,HB9.out.grown⟩
theorem On.ran {base cb:Nat} {wr w':World} {P:World->Prop} (h:On base wr P) (hg:wr.grownBy w' (some cb)) (hb:cb<base):On base w' P:=h.keep hg.size fun k h1 h2=>cH hg h2 (by omega)
structure TbP (w:World) (base:Nat) (ra:Option Addr) (m rc:Nat) (ba:Option Addr) (mb bc:Nat) (x row col:Int):Prop where
 d:TbD w base ra m rc ba mb bc x
 row:-1<=row/\row<=m
 col:-1<=col/\col<=x
set_option maxHeartbeats 8000000 in
theorem iv {w:World} {a:Option Addr} {n cap:Nat} (h:dW w a n cap) (hn:n<=1048576) :
 Calls Tryz.prog 54 #[.slice a n cap] w fun e w'=>(∃ ra m rc ba mb bc x row col,e=.returned (.tuple #[tbW ra m rc ba mb bc x,.int .i64 row,.int .i64 col])/\TbP w' w.heap.size ra m rc ba mb bc x row col)/\Ext w w':=by
 obtain ⟨W,hW⟩:∃ W,W=w.alloc (.cells #[.slice none 0 0,.slice none 0 0,.int .i64 0] 83):=⟨_,rfl⟩;have HX:=ae (show Ext w W by rw [hW];exact Ext.alloc _ _);have hws:W.heap.size=w.heap.size+1:=by rw [hW];simp
 have HN:=ae (ob (h.ext HX.out) hn);have HRB:=ae (show W.heap[w.heap.size]?=some (.cells #[.slice none 0 0,.slice none 0 0,.int .i64 0] 83 (0,0)) by rw [hW];exact heap_alloc_new _ _);clear h;go_enter Tryz.func54,Tryz.ntmps54
 go_upto_region 1 with fail;rw [<-hW];clear hW;go_wp2_with fail;refine HN.out.mono ?_;rintro e w1 ⟨⟨cb,rfl,hcb,hc⟩,hx⟩;have HX1:=ae (HX.out.trans hx);have hs1:=hx.size;have HB1:=ae (show Bxs w w1 cb (tbN w.heap.size) from (Bxs.start hc (cL (some cb) HX1.out)).add _ _ _ ((hx.block _ (by omega)).trans HRB.out) (by omega) (Nat.le_refl _) (ki _ _ _ _ _ _ _));have hcl:=hc.lt;clear hx hc;go_wp2_with fail;refine (s_l6Draw HB1.out.cur).mono ?_;rintro e w2 ⟨⟨ra,m,rc,ba,mb,bc,x,rfl,hd⟩,hc,hg⟩;have hs2:=hg.size;obtain ⟨hm1,hm3,hmb⟩:=hd.bd;obtain ⟨t,n1,hT,hcol,hxn,hn7,hsh,hbd,hln⟩:=hd.own;have HT2:=ae hT;obtain ⟨E,hE⟩:∃ E,E=w2.alloc (.cells #[.slice ra m rc,.slice ba mb bc,.int .i64 x] 83):=⟨_,rfl⟩;obtain ⟨g,hgx⟩:∃ g,g=w2.heap.size:=⟨_,rfl⟩
 have HBE:=ae (show Bxs w E cb (tbX w.heap.size g (.slice ra m rc) (.slice ba mb bc) x) by
  rw [hE,hgx];exact (HB1.out.call hc hg).new _ _ (ki _ _ _ _ _ _ _))
 have HTE:=ae (show On w1.heap.size E (fun w=>TbC w ra m rc ba mb bc t) by rw [hE];exact hT.ext (Ext.alloc _ _));have HSH:=ae hsh;have HBD:=ae hbd;have HLN:=ae hln;have HCO:=ae hcol;have hgw:w.heap.size+1<=g:=by omega
 have hne:w.heap.size ≠ g:=by omega
 subst hxn;clear hc hg hd hT hsh hbd hln hcol;go_upto_region 3 with fail;rw [<-hE,<-hgx];have hsE:g<E.heap.size:=by rw [hE,hgx];simp
 clear hE hgx;have hk2:Ext E E.drew:=Ext.drew E;have HBD2:=ae (HBE.out.ext hk2);have HTD2:=ae (HTE.out.ext hk2);have HCE:=ae (fun (w':World) (h:Bxs w w' cb (tbX w.heap.size g (.slice ra m rc) (.slice ba mb bc) (n1:Int)))=>(⟨h.t0 bM,h.t1 bM,h.t2 bM⟩:w'.cell? ⟨g,0,none⟩=some (.slice ra m rc)/\w'.cell? ⟨g,1,none⟩=some (.slice ba mb bc)/\w'.cell? ⟨g,2,none⟩=some (.int .i64 (n1:Int))));have hw1:IntKind.i64.wrap ((n1:Int)+2)=(n1:Int)+2:=by rw [IntKind.wrap_i64];omega
 have hw2:IntKind.i64.wrap ((m:Int)+2)=(m:Int)+2:=by rw [IntKind.wrap_i64];omega
 refine wp_region_held_drew (S:=(fun w'=>w'.cell? ⟨g,0,none⟩=some (.slice ra m rc)/\w'.cell? ⟨g,1,none⟩=some (.slice ba mb bc)/\w'.cell? ⟨g,2,none⟩=some (.int .i64 (n1:Int)))) (by kernel_rfl) ?_ (fun hHeld=>?_)
 ·exact HCE.out _ HBD2.out
 obtain ⟨wd,hwd⟩:∃ y,y=E.drew:=⟨_,rfl⟩;have hsd:g<wd.heap.size:=by rw [hwd];exact hsE
 rw [<-hwd] at hHeld HBD2 HTD2;rw [<-hwd];clear hwd hk2;refine tk 0 ?_;refine tk 1 ?_;refine tk 2 ?_;refine tk 3 ?_;refine tk 4 ?_;refine tk 5 ?_;refine tk 8 ?_;refine tk 9 ?_;refine tk 10 ?_;refine tk 11 ?_;refine rd (i:=6) (h:=fun K hK=>?_);go_simp
 (go_at_call 92;refine (ch HBD2.out.cur ((m:Int)+2) (by omega)).mono ?_;rintro e w8 ⟨⟨row,rfl,hr0,hr1⟩,hc,hg⟩;have HB8:=ae (HBD2.out.call hc hg);have HT8:=ae (HTD2.out.ran hg (by omega));clear hc hg)
 go_wp2_with fail;refine hK.out _ _ ?_ (fun hHeld=>?_)
 ·exact HCE.out _ HB8.out
 clear hK K
 try simp only [Act.put,sA,sB,sC]
 have hwr:IntKind.i64.wrap (row-1)=row-1:=by rw [IntKind.wrap_i64];omega
 refine tk 7 ?_;refine rd (i:=12) (h:=fun K hK=>?_);go_simp
 (go_at_call 92;refine (ch HB8.out.cur ((n1:Int)+2) (by omega)).mono ?_;rintro e w9 ⟨⟨col,rfl,hc0,hc1⟩,hc,hg⟩;have HB9:=ae (HB8.out.call hc hg);have HT9:=ae (HT8.out.ran hg (by omega));clear hc hg)
 go_wp2_with fail;refine hK.out _ _ ?_ (fun hHeld=>?_)
 ·exact HCE.out _ HB9.out
 clear hK K
 try simp only [Act.put,sA,sB,sC]
 have hwc:IntKind.i64.wrap (col-1)=col-1:=by rw [IntKind.wrap_i64];omega
 have r0:=HB9.out.t0 (b:=w.heap.size) (cl hne);have r1:=HB9.out.t1 (b:=w.heap.size) (cl hne);have r2:=HB9.out.t2 (b:=w.heap.size) (cl hne);have rf:=HB9.out.free (b:=w.heap.size) (cl hne);have HBA:=ae (HB9.out.put3 (cl hne) (.slice ra m rc) (.slice ba mb bc) (.int .i64 (n1:Int)) (bI _ _ _) (bI _ _ _) (eQ _))
 have HTA:=ae (show On w1.heap.size (((w9.setCell ⟨w.heap.size,0,none⟩ (.slice ra m rc)).setCell ⟨w.heap.size,1,none⟩ (.slice ba mb bc)).setCell ⟨w.heap.size,2,none⟩ (.int .i64 (n1:Int))) (fun w=>TbC w ra m rc ba mb bc t) from
  HT9.out.keep (by simp) fun k hk _=>aV _ _ _ _ _ _ (by omega))
 have hge:=HCE.out _ HB9.out;refine tk 13 ?_;refine rd (i:=14) (h:=fun K hK=>?_);go_simp;refine hK.out _ _ ?_ (fun hHeld=>?_)
 ·exact ⟨HBA.out.t0 ((Bx.other _ _ (Ne.symm hne)).trans bM),HBA.out.t1 ((Bx.other _ _ (Ne.symm hne)).trans bM),HBA.out.t2 ((Bx.other _ _ (Ne.symm hne)).trans bM)⟩
 clear hK K
 try simp only [Act.put,sA,sB,sC]
 have z0:=HBA.out.t0 (Bx.same _ _ _);have z1:=HBA.out.t1 (Bx.same _ _ _);have z2:=HBA.out.t2 (Bx.same _ _ _);have HF:=ae (show TbP _ w.heap.size ra m rc ba mb bc (n1:Int) (row-1) (col-1) from ⟨⟨⟨t,n1,HTA.out.mono (by omega),HCO.out,rfl,hn7,HSH.out,HBD.out,HLN.out⟩,hm1,hm3,hmb⟩,by omega,by omega⟩);refine tk 15 ?_;refine tk 16 ?_;refine wpAnyH_done (by kernel_rfl) ?_ _;go_wp2_with fail;refine bodyPost_ret (v:=.tuple #[.agg #[.slice ra m rc,.slice ba mb bc,.int .i64 (n1:Int)],.int .i64 (row-1),.int .i64 (col-1)]) (by simp [results,Tryz.results54,go_sem,z0,z1,z2]) rfl ⟨⟨ra,m,rc,ba,mb,bc,_,_,_,rfl,HF.out⟩,HBA.out.all (by omega)⟩
end Go.Proofs.YthjjfkeacobikaaGreat
