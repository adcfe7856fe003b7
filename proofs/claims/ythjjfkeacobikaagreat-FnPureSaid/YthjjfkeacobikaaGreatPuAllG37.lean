import Derived.Test.YthjjfkeacobikaaGreatPuAllG17
import Derived.Test.YthjjfkeacobikaaGreatPuAllG15
import Derived.Test.YthjjfkeacobikaaGreatPuAllG24
set_option linter.unusedVariables false
set_option linter.unusedSimpArgs false
namespace Go.Proofs.YthjjfkeacobikaaGreat
set_option maxRecDepth 100000
open Go.RowKit
structure bD (w:World) (S:Nat) (a:Option Addr) (na ca:Nat) (b:Option Addr) (nb cb:Nat) (c:Option Addr) (nc cc:Nat) (ra:Option Addr) (rn rc:Nat) (ba:Option Addr) (bn bc:Nat) (vs:List Value) (t:Tb) (n:Nat) (f:Bool):Prop where
 box:w.heap[S]?=some (.cells #[.slice a na ca,.slice b nb cb,.slice c nc cc,.slice ra rn rc,.slice ba bn bc,.int .i64 t.cols,.int .i64 (n:Int),.bool f] 163 (0,0))
 tb:OwnT w 0 (.slice ra rn rc) (.slice ba bn bc) vs t
theorem OwnT.setW {w:World} {base S k:Nat} {va vb:Value} {vs:List Value} {t:Tb} {c:Array Value} {z:Nat × Nat} {v:Value} (h:OwnT w base va vb vs t) (hb:w.heap[S]?=some (.cells c 163 z)):OwnT (w.setCell ⟨S,k,none⟩ v) base va vb vs t :=
 ⟨dz h.a hb (by decide),⟨h.rows.len,fun i hi=>dz (h.rows.row i hi) hb (by decide),h.rows.apart⟩,dz h.b hb (by decide)⟩
section
variable {w:World} {S:Nat} {a:Option Addr} {na ca:Nat} {b:Option Addr} {nb cb:Nat} {c:Option Addr} {nc cc:Nat} {ra:Option Addr} {rn rc:Nat} {ba:Option Addr} {bn bc:Nat} {vs:List Value} {t:Tb} {n:Nat} {f:Bool}
theorem bD.ext {w':World} (h:bD w S a na ca b nb cb c nc cc ra rn rc ba bn bc vs t n f) (hx:Ext w w'):bD w' S a na ca b nb cb c nc cc ra rn rc ba bn bc vs t n f:=⟨(hx.block _ (lt_of_block h.box)).trans h.box,h.tb.ext hx⟩
theorem bD.cells (h:bD w S a na ca b nb cb c nc cc ra rn rc ba bn bc vs t n f) :
 w.cell? ⟨S,0,none⟩=some (.slice a na ca)/\w.cell? ⟨S,1,none⟩=some (.slice b nb cb)/\w.cell? ⟨S,2,none⟩=some (.slice c nc cc)/\w.cell? ⟨S,3,none⟩=some (.slice ra rn rc)/\w.cell? ⟨S,4,none⟩=some (.slice ba bn bc)/\w.cell? ⟨S,5,none⟩=some (.int .i64 t.cols)/\w.cell? ⟨S,6,none⟩=some (.int .i64 (n:Int))/\w.cell? ⟨S,7,none⟩=some (.bool f)/\∀ k,w.frozen? ⟨S,k,none⟩=false:=by
 have hb:=h.box;refine ⟨?_,?_,?_,?_,?_,?_,?_,?_,fun k=>frozen_of_row w S k _ _ hb⟩ <;> rw [cell_of_row w S _ _ _ _ hb] <;> rfl
theorem bD.fail (h:bD w S a na ca b nb cb c nc cc ra rn rc ba bn bc vs t n f):bD (w.setCell ⟨S,7,none⟩ (.bool true)) S a na ca b nb cb c nc cc ra rn rc ba bn bc vs t n true :=
 ⟨heap_setCell_same w S 7 _ _ (.bool true) h.box,h.tb.setW h.box⟩
theorem bD.step (h:bD w S a na ca b nb cb c nc cc ra rn rc ba bn bc vs t n f) {ra':Option Addr} {rn' rc':Nat} {ba':Option Addr} {bn' bc':Nat} {vs':List Value} {t':Tb} (ho:OwnT w 0 (.slice ra' rn' rc') (.slice ba' bn' bc') vs' t') (f':Bool) :
 bD (((((w.setCell ⟨S,3,none⟩ (.slice ra' rn' rc')).setCell ⟨S,4,none⟩ (.slice ba' bn' bc')).setCell ⟨S,5,none⟩ (.int .i64 t'.cols)).setCell ⟨S,6,none⟩ (.int .i64 ((n:Int)+1))).setCell ⟨S,7,none⟩ (.bool f')) S a na ca b nb cb c nc cc ra' rn' rc' ba' bn' bc' vs' t' (n+1) f':=by
 have b1:=heap_setCell_same w S 3 _ _ (.slice ra' rn' rc') h.box;have b2:=heap_setCell_same _ S 4 _ _ (.slice ba' bn' bc') b1;have b3:=heap_setCell_same _ S 5 _ _ (.int .i64 t'.cols) b2;have b4:=heap_setCell_same _ S 6 _ _ (.int .i64 ((n:Int)+1)) b3;have b5:=heap_setCell_same _ S 7 _ _ (.bool f') b4;refine ⟨?_,((((ho.setW h.box).setW b1).setW b2).setW b3).setW b4⟩;rw [b5];have:((n+1:Nat):Int)=(n:Int)+1:=by simp
 rw [this];rfl
end
theorem OwnR.modW {w w':World} {S b:Nat} {v:Value} {l:List (Int × Int)} (h:OwnR w b v l) (hm:Mod S w w') {c:Array Value} {z:Nat × Nat} (hb:w.heap[S]?=some (.cells c 163 z)):OwnR w' b v l :=
 h.keep fun k hk=>hm.block k (h.lt k hk).2 fun e=>(an h hb (by decide)) (by rw [hk,e])
def ez (S:Nat) (a:Option Addr) (na ca:Nat) (b:Option Addr) (nb cb:Nat) (c:Option Addr) (nc cc:Nat) (w w':World) (o:Option (Tb × Nat)):Prop :=
 Mod S w w'/\∃ ra rn rc ba bn bc vs,match o with
  | some (t,n)=>bD w' S a na ca b nb cb c nc cc ra rn rc ba bn bc vs t n false
  | none=>∃ t n,bD w' S a na ca b nb cb c nc cc ra rn rc ba bn bc vs t n true
section
variable {w:World} {S:Nat} {a:Option Addr} {na ca:Nat} {b:Option Addr} {nb cb:Nat} {c:Option Addr} {nc cc:Nat} {ra:Option Addr} {rc:Nat} {ba:Option Addr} {bc:Nat} {vs:List Value} {t:Tb} {n:Nat}
set_option maxHeartbeats 8000000 in
theorem lz {N m:Nat} {T0:Nat->Nat->Rat} (h:bD w S a na ca b nb cb c nc cc ra m rc ba m bc vs t n false) (hT:TInv N m T0 t) (hN:N<=1000) (hm:m<=1000) (hn:n<=1000) {r k:Nat} (hr:r<m) (hk:k<N) :
 Calls Tryz.prog 270 #[.pointer (some ⟨S,0,none⟩),.int .i64 (r:Int),.int .i64 (k:Int)] w fun e w'=>e=.returned (.tuple #[])/\ez S a na ca b nb cb c nc cc w w' (pivS t n (r:Int) (k:Int)):=by
 have hlt:=lt_of_block h.box;obtain ⟨l0,l1,l2,c0,c1,c2,c3,c4,cf⟩:=h.cells;have H:=ae h;rw [hT.cols] at c2;by_cases hn0:n=1000
 ·subst hn0;have HP:=ae (show pivS t 1000 (r:Int) (k:Int)=none by unfold pivS;rw [if_pos rfl]);clear h hT;go_enter Tryz.func270,Tryz.ntmps270
  go_wp2_with fail;refine bodyPost_ret (results_none rfl _ _ _) rfl ⟨rfl,Mod.set _ _ _ _,?_⟩;rw [HP.out];exact ⟨_,_,_,_,_,_,_,_,_,H.out.fail⟩
 ·have hnn:¬ (n:Int) ≥ 1000:=by omega
  have hn1:n<1000:=by omega
  have HPV:=ae (kD h.tb.tbc hT hN hm hr hk);have HP:=ae (show pivS t n (r:Int) (k:Int)=(aQ t (r:Int) (k:Int)).map fun t'=>(t',n+1) by unfold pivS;rw [if_neg hn0]);have HCO:=ae hT.cols;clear h hT hn0;unfold PivR bE at HPV;obtain ⟨o,ho⟩:∃ o,o=aQ t (r:Int) (k:Int):=⟨_,rfl⟩
  have HPC:=ae (show (o.getD t).cols=(N:Int) by
   cases o with
   | none=>exact HCO.out
   | some t' =>
      have h1:=ho.symm;unfold aQ at h1;split at h1
      ·unfold et at h1;cases hd:divL (t.row (Int.toNat (r:Int))) (t.at (Int.toNat (r:Int)) (Int.toNat (k:Int))) with
       | none=>rw [hd] at h1;cases h1
       | some mm=>rw [hd,Option.bind_some,Option.map_eq_some_iff] at h1;obtain ⟨rs,_,rfl⟩:=h1;exact HCO.out
      ·cases h1)
  rw [<-ho] at HPV HP;clear ho;go_enter Tryz.func270,Tryz.ntmps270
  go_wp2_with fail;refine HPV.out.mono ?_;rintro e w1 ⟨⟨va,vb,vs1,rfl,ho⟩,hx⟩;obtain ⟨a7,n7,c7,rfl,HN7⟩:=ho.a.var;obtain ⟨a8,n8,c8,rfl,HN8⟩:=ho.b.var;rw [HPC.out];obtain ⟨E1,hE1⟩:∃ E1,E1=w1.alloc (.cells #[.slice a7 n7 c7,.slice a8 n8 c8,.int .i64 (N:Int)] 83):=⟨_,rfl⟩;obtain ⟨gE,hgE⟩:∃ g,g=w1.heap.size:=⟨_,rfl⟩;have X1:=ae (show Ext w E1 by rw [hE1];exact hx.trans (Ext.alloc _ _));have HO:=ae (show OwnT E1 0 (.slice a7 n7 c7) (.slice a8 n8 c8) vs1 (o.getD t) by rw [hE1];exact (ho.ext (Ext.alloc _ _)).mono (Nat.zero_le _));have HBX:=ae (show E1.heap[gE]?=some (.cells #[.slice a7 n7 c7,.slice a8 n8 c8,.int .i64 (N:Int)] 83 (0,0)) by rw [hE1,hgE];exact aj _ _ _ rfl);have HS:=ae (H.out.ext X1.out);go_upto_region 3 with fail;rw [<-hE1,<-hgE];clear hE1 hgE ho hx l0 l1 l2 c0 c1 c2 c3 c4 cf;obtain ⟨l0,l1,l2,c0,c1,c2,c3,c4,cf⟩:=HS.out.cells;rw [HCO.out] at c2;have b0:=al HBX.out;have b1:=am HBX.out;have b2:=ap HBX.out;have hlt2:=lt_of_block HBX.out;have hne:gE ≠ S:=fun e=>gG HBX.out HS.out.box (by decide) e
  have HST:=ae (fun f'=>HS.out.step HO.out f');rw [HPC.out] at HST;cases o with
  | none =>
    go_wp2_with fail;refine bodyPost_end (results_none rfl _ _ _) rfl ⟨rfl,(Mod.of X1.out).trans (((((Mod.set _ _ _ _).trans (Mod.set _ _ _ _)).trans (Mod.set _ _ _ _)).trans (Mod.set _ _ _ _)).trans (Mod.set _ _ _ _)),?_⟩;rw [HP.out];exact ⟨_,_,_,_,_,_,_,_,_,HST.out true⟩
  | some t' =>
    go_wp2_with fail;refine bodyPost_end (results_none rfl _ _ _) rfl ⟨rfl,(Mod.of X1.out).trans (((((Mod.set _ _ _ _).trans (Mod.set _ _ _ _)).trans (Mod.set _ _ _ _)).trans (Mod.set _ _ _ _)).trans (Mod.set _ _ _ _)),?_⟩;rw [HP.out];exact ⟨_,_,_,_,_,_,_,HST.out false⟩
end
end Go.Proofs.YthjjfkeacobikaaGreat
namespace Go.Proofs.YthjjfkeacobikaaGreat
set_option maxRecDepth 100000
open Go.RowKit
def RunW (S:Nat) (a:Option Addr) (na ca:Nat) (b:Option Addr) (nb cb:Nat) (c:Option Addr) (nc cc:Nat) (w:World) (e:Ending) (w':World) (o:Option Ph):Prop :=
 Mod S w w'/\∃ ra rn rc ba bn bc vs,match o with
  | some p=>∃ v,e=.returned (.tuple #[v,.int .i64 p.col])/\OwnR w' w.heap.size v p.costs/\bD w' S a na ca b nb cb c nc cc ra rn rc ba bn bc vs p.t (1000-p.left) false
  | none=>∃ v col t n,e=.returned (.tuple #[v,.int .i64 col])/\bD w' S a na ca b nb cb c nc cc ra rn rc ba bn bc vs t n true
section
variable {w:World} {S:Nat} {a:Option Addr} {na ca:Nat} {b:Option Addr} {nb cb:Nat} {c:Option Addr} {nc cc:Nat}
structure HeadW (w wr:World) (S:Nat) (a:Option Addr) (na ca:Nat) (b:Option Addr) (nb cb:Nat) (c:Option Addr) (nc cc:Nat) (N m:Nat) (T0:Nat->Nat->Rat) (cost:List (Int × Int)) (o:Option Ph) (gk:Nat) (nn:Nat) (tt:Tb) (ra:Option Addr) (rc:Nat) (ba:Option Addr) (bc:Nat) (vs:List Value):Prop where
 meas:gk=1000-nn
 mod:Mod S w wr
 st:bD wr S a na ca b nb cb c nc cc ra m rc ba m bc vs tt nn false
 inv:TInv N m T0 tt
 le:nn<=1000
 go:aO cost (1000-nn) tt=o
theorem bD.same {ra:Option Addr} {rn rc:Nat} {ba:Option Addr} {bn bc:Nat} {vs:List Value} {t:Tb} {n:Nat} {f:Bool} {N m:Nat} {T0:Nat->Nat->Rat} (h:bD w S a na ca b nb cb c nc cc ra rn rc ba bn bc vs t n f) (hT:TInv N m T0 t):rn=m/\bn=m:=hT.sizes h.tb.tbc
set_option maxHeartbeats 16000000 in
theorem lw {ra:Option Addr} {rc:Nat} {ba:Option Addr} {bc:Nat} {vs:List Value} {t:Tb} {n:Nat} {N m:Nat} {T0:Nat->Nat->Rat} (h:bD w S a na ca b nb cb c nc cc ra m rc ba m bc vs t n false) (hT:TInv N m T0 t) (hN:N<=1000) (hm:m<=1000) (hn:n<=1000) {ka:Option Addr} {kn kc b0:Nat} {cost:List (Int × Int)} (hc:OwnR w b0 (.slice ka kn kc) cost) (hkl:kn=N+m) (hv:allV cost=true) :
 Calls Tryz.prog 223 #[.pointer (some ⟨S,0,none⟩),.slice ka kn kc] w fun e w'=>RunW S a na ca b nb cb c nc cc w e w' (aO cost (1000-n) t):=by
 obtain ⟨o,ho⟩:∃ o,o=aO cost (1000-n) t:=⟨_,rfl⟩;rw [<-ho];have H0:=ae (show HeadW w w S a na ca b nb cb c nc cc N m T0 cost o (1000-n) n t ra rc ba bc vs from ⟨rfl,Mod.refl _ _,h,hT,hn,ho.symm⟩);have HC:=ae hc;have HBX:=ae h.box;have HKL:=ae hkl;have HAV:=ae hv;have hlt:=lt_of_block h.box;clear h hT ho hc hkl hv;go_enter Tryz.func223,Tryz.ntmps223
 go_wp2_with fail
 go_loopg [6] (1000-n) (fun gk s6 wr=>∃ (nn:Nat) (tt:Tb) (ra:Option Addr) (rc:Nat) (ba:Option Addr) (bc:Nat) (vs:List Value),Hid (HeadW w wr S a na ca b nb cb c nc cc N m T0 cost o gk nn tt ra rc ba bc vs))
 case atStart=>exact ⟨n,t,_,_,_,_,_,H0⟩
 case round =>
  obtain ⟨g1,h_g1⟩:∃ x,x=gk:=⟨_,rfl⟩;subst h_g1;obtain ⟨wr1,h_wr1⟩:∃ x,x=wr:=⟨_,rfl⟩;subst h_wr1;obtain ⟨nn,tt,ra,rc,ba,bc,vs,HH⟩:=hrel;clear H0;obtain ⟨l0,l1,l2,c0,c1,c2,c3,c4,cf⟩:=HH.out.st.cells;have hl1:=lt_of_block HH.out.st.box;have hs1:=HH.out.mod.size;have HT:=ae HH.out.inv;have hn1:=HH.out.le;have HPH:=ae HH.out.go;have HCO:=ae HH.out.inv.cols;rw [HCO.out] at c2;have HCR:=ae (qd HH.out.st.tb.tbc HT.out hN hm (HC.out.modW HH.out.mod HBX.out).rats HKL.out HAV.out);cases hcs:bX tt cost with
  | none =>
    have HO:=ae (show o=none by rw [<-HPH.out];exact jR _ hcs);rw [hcs] at HCR;go_wp2_with fail;refine HCR.out.mono ?_;simp only [Option.getD_none,Option.isSome_none];rintro e w2 ⟨⟨v2,rfl,ho2⟩,hx⟩;have HS:=ae (HH.out.st.ext hx);have HM:=ae (HH.out.mod.trans (Mod.of hx));clear ho2 hx l0 l1 l2 c0 c1 c2 c3 c4 cf hcs;obtain ⟨l0,l1,l2,c0,c1,c2,c3,c4,cf⟩:=HS.out.cells;go_wp2_with fail
    go_ret2
    refine ⟨HM.out.trans (Mod.set _ _ _ _),?_⟩;rw [HO.out];exact ⟨_,_,_,_,_,_,_,_,_,_,_,rfl,HS.out.fail⟩
  | some cs =>
    rw [hcs] at HCR;have HCS:=ae hcs;go_wp2_with fail;refine HCR.out.mono ?_;simp only [Option.getD_some,Option.isSome_some];rintro e w2 ⟨⟨v2,rfl,ho2⟩,hx⟩;obtain ⟨a2,n2,p2,rfl,HN2⟩:=ho2.var;have HS:=ae (HH.out.st.ext hx);have HM:=ae (HH.out.mod.trans (Mod.of hx));have HO2:=ae (show OwnR w2 w.heap.size (.slice a2 n2 p2) cs from OwnR.mono ho2 hs1);have hn2:N<=n2:=by have h1:=HN2.out;rw [(dE HT.out HCS.out).1.1] at h1;omega
    clear ho2 hx l0 l1 l2 c0 c1 c2 c3 c4 cf hcs;obtain ⟨l0,l1,l2,c0,c1,c2,c3,c4,cf⟩:=HS.out.cells;rw [HCO.out] at c2;obtain ⟨col,hcol⟩:∃ c,c=aZ cs (N:Int):=⟨_,rfl⟩;have HCL:=ae hcol;have HCE:=ae (show aZ cs tt.cols=col by rw [HCO.out,hcol]);have hrng:=fK cs N;rw [<-hcol] at hrng;clear hcol;go_upto_region 5 with fail;have hk2:Ext w2 w2.drew:=Ext.drew w2;have hka:=hk2;have HKEEP:=ae (fun (w':World) (h:Ext w2 w')=>(⟨h.cellSome c0,h.cellSome c1,h.cellSome c2,h⟩:w'.cell? ⟨S,3,none⟩=some (.slice ra m rc)/\w'.cell? ⟨S,4,none⟩=some (.slice ba m bc)/\w'.cell? ⟨S,5,none⟩=some (.int .i64 (N:Int))/\Ext w2 w'))
    go_region_held3 (fun w'=>w'.cell? ⟨S,3,none⟩=some (.slice ra m rc)/\w'.cell? ⟨S,4,none⟩=some (.slice ba m bc)/\w'.cell? ⟨S,5,none⟩=some (.int .i64 (N:Int))/\Ext w2 w')
     (with_reducible exact HKEEP.out _ hk2)
     (first
       | (go_at_call 268
          (with_reducible refine (jo (ra:=ra) (rn:=m) (rc:=rc) (ba:=ba) (bn:=m) (bc:=bc) (x:=(N:Int)) (HO2.out.rats.ext (by first|with_reducible exact hk2|with_reducible exact hka|with_reducible exact hk2.trans (Ext.alloc _ _))) N hn2).mono ?_)
          rw [<-HCL.out];rintro e w3 ⟨rfl,hx_w3⟩;have hk2:Ext w2 w3:=hk2.trans hx_w3
          have hs_w3:=hk2.size)
       | fail)
    clear HKEEP hka;have HS3:=ae (HS.out.ext hk2);have HM3:=ae (HM.out.trans (Mod.of hk2));have HO3:=ae (HO2.out.ext hk2);clear hk2 l0 l1 l2 c0 c1 c2 c3 c4 cf
    rcases hrng with hc0|⟨cN,hcN,hcn⟩
    ·subst hc0;have HO:=ae (show o=some ⟨tt,1000-nn,cs,-1⟩ by rw [<-HPH.out];exact iT _ HCS.out (by rw [HCE.out];omega));go_wp2_with fail
     go_ret2
     refine ⟨HM3.out,?_⟩;rw [HO.out];exact ⟨_,_,_,_,_,_,_,_,rfl,HO3.out,by rw [show 1000-(1000-nn)=nn by omega];exact HS3.out⟩
    ·subst hcN;obtain ⟨l0,l1,l2,c0,c1,c2,c3,c4,cf⟩:=HS3.out.cells;rw [HCO.out] at c2;have HLV:=ae (mD HS3.out.tb.tbc HT.out hN hm hcn);obtain ⟨row,hrow⟩:∃ r,r=cj tt (cN:Int):=⟨_,rfl⟩;have HRW:=ae (show cj tt (aZ cs tt.cols)=row by rw [HCE.out,hrow]);have hrb:row=-1 ∨ (0<=row/\row<m):=by
      rw [hrow];unfold cj;split
      ·have:=gj tt (Int.toNat (cN:Int)) tt.rows.length;rw [HT.out.len] at this ⊢;exact this
      ·exact Or.inl rfl
     rw [<-hrow] at HLV;have hcn0:¬ (cN:Int)<0:=by omega
     clear hrow;go_wp2_with fail;refine HLV.out.mono ?_;rintro e w4 ⟨rfl,hx⟩;have HS4:=ae (HS3.out.ext hx);have HM4:=ae (HM3.out.trans (Mod.of hx));have HO4:=ae (HO3.out.ext hx);clear hx l0 l1 l2 c0 c1 c2 c3 c4 cf
     rcases hrb with hr0|⟨hr0,hr1⟩
     ·subst hr0
      have HO:=ae (show o=some ⟨tt,1000-nn,cs,(cN:Int)⟩ by
       rw [<-HPH.out,iU _ HCS.out (by rw [HCE.out];omega) (by rw [HRW.out];omega),HCE.out])
      go_wp2_with fail
      go_ret2
      refine ⟨HM4.out,?_⟩;rw [HO.out];exact ⟨_,_,_,_,_,_,_,_,rfl,HO4.out,by rw [show 1000-(1000-nn)=nn by omega];exact HS4.out⟩
     ·obtain ⟨rN,hrN⟩:∃ k:Nat,row=k:=⟨row.toNat,by omega⟩;subst hrN;have hrn:rN<m:=by omega
      have hrn0:¬ (rN:Int)<0:=by omega
      have HOP:=ae (show o=(pivS tt nn (rN:Int) (cN:Int)).bind fun s=>aO cost (1000-s.2) s.1 by
       rw [<-HPH.out,iV hn1 HCS.out (by rw [HCE.out];omega) (by rw [HRW.out];omega),HRW.out,HCE.out])
      have HPV:=ae (lz HS4.out HT.out hN hm hn1 hrn hcn);have HME:=ae (show g1=1000-nn from HH.out.meas);go_wp2_with fail;refine HPV.out.mono ?_;rintro e w5 ⟨rfl,hm5,ra5,rn5,rc5,ba5,bn5,bc5,vs5,hleft⟩;cases hps:pivS tt nn (rN:Int) (cN:Int) with
      | none =>
        rw [hps] at hleft;obtain ⟨t5,n5,hs5⟩:=hleft;have HO:=ae (show o=none by rw [HOP.out,hps];rfl);have HS5:=ae hs5;have HM5:=ae (HM4.out.trans hm5);clear hs5 hps hm5;obtain ⟨l0,l1,l2,c0,c1,c2,c3,c4,cf⟩:=HS5.out.cells;go_wp2_with fail
        go_ret2
        refine ⟨HM5.out,?_⟩;rw [HO.out];exact ⟨_,_,_,_,_,_,_,_,_,_,_,rfl,HS5.out⟩
      | some st =>
        obtain ⟨t5,n5⟩:=st;rw [hps] at hleft;have hn5:n5=nn+1/\nn<1000/\aQ tt (rN:Int) (cN:Int)=some t5:=by
         unfold pivS at hps
         split at hps
         ·cases hps
         ·rw [Option.map_eq_some_iff] at hps;obtain ⟨t6,h6,h7⟩:=hps;simp only [Prod.mk.injEq] at h7;obtain ⟨rfl,rfl⟩:=h7;exact ⟨rfl,by omega,h6⟩
        obtain ⟨rfl,hlt5,hpt⟩:=hn5;have HO:=ae (show aO cost (1000-(nn+1)) t5=o by rw [HOP.out,hps];rfl);have hT5:=dQ HT.out hpt;obtain ⟨e1,e2⟩:=bD.same hleft hT5;have e1':=e1.symm;have e2':=e2.symm;clear e1 e2;subst e1';subst e2';have HH5:=ae (show HeadW w w5 S a na ca b nb cb c nc cc N m T0 cost o (1000-(nn+1)) (nn+1) t5 ra5 rc5 ba5 bc5 vs5 from ⟨rfl,HM4.out.trans hm5,hleft,hT5,by omega,HO.out⟩);obtain ⟨l0,l1,l2,c0,c1,c2,c3,c4,cf⟩:=bD.cells hleft;clear hleft hps hm5 hpt hT5;go_wp2_with fail
        go_roundg (1000-(nn+1))
        case measure=>have:=HME.out;omega
        case rel=>exact ⟨nn+1,t5,_,_,_,_,_,HH5⟩
end
section
variable {w:World} {a:Option Addr} {na ca:Nat} {b:Option Addr} {nb cb:Nat} {c:Option Addr} {nc cc:Nat} {A:List (List Int)} {B:List Int} {C:List (Int × Int)}
def fc (first:Bool) (C:List (Int × Int)) (m:Nat):List (Int × Int):=if first=true then dm C.length m else bU C m
set_option maxHeartbeats 8000000 in
theorem lv (h:LpC w a na ca b nb cb c nc cc A B C) (first:Bool) (h1:nc<=1000) (h2:na<=1000) :
 Calls Tryz.prog 224 #[lpW a na ca b nb cb c nc cc,.bool first] w fun e w'=>(∃ v,e=.returned v/\OwnR w' w.heap.size v (fc first C na))/\Ext w w':=by
 have hx0:=Ext.alloc w (bm a na ca b nb cb c nc cc);have HX0:=ae hx0;have HTB:=ae (show (w.alloc (bm a na ca b nb cb c nc cc)).heap[w.heap.size]?=some (.cells #[.slice a na ca,.slice b nb cb,.slice c nc cc] 109 (0,0)) from aj _ _ _ rfl);obtain ⟨W,hW⟩:∃ x,x=w.alloc (bm a na ca b nb cb c nc cc):=⟨_,rfl⟩;have H:=ae (h.ext hx0);rw [<-hW] at hx0 HX0 HTB H;have hc1:=h.c.hcap;have hc2:=h.c.hmax;have ha1:=h.a.hcap;have ha2:=h.a.hmax;have HL:=ae h.c.hlen;have hsw:W.heap.size=w.heap.size+1:=by rw [hW];simp
 have HO:=ae (OwnR.made W (w.heap.size+1) (by omega));have X0:=ae (Ext.alloc W (.cells #[] 43));rw [hsw] at HO;clear h hx0;go_enter Tryz.func224,Tryz.ntmps224
 go_upto_region 1 with fail;rw [<-hW];clear hW;obtain ⟨D,hD⟩:∃ D,D=if first=true then List.replicate nc ((0:Int),(1:Int)) else C:=⟨_,rfl⟩
 have HD:=ae hD;have HDL:=ae (show D.length=nc by rw [hD];cases first <;> simp [HL.out])
 have HCB:=ae (show fc first C na=D++List.replicate na (bitI first,1) by
  unfold fc dm bU;rw [hD,HL.out];cases first <;> rfl)
 clear hD;go_wp2_with fail
 go_loopg [5,6] nc (fun gk oo ii wr=>∃ (k:Nat) (a1:Option Addr) (n1 p1:Nat),Hid (gk+k=nc)/\ii=.int .i64 (k:Int)/\oo=.slice a1 n1 p1/\Hid (OwnR wr (w.heap.size+1) (.slice a1 n1 p1) (D.take k))/\Hid (Ext W wr))
 case atStart=>exact ⟨0,_,_,_,ae (by omega),rfl,rfl,HO,X0⟩
 case round =>
  obtain ⟨g1,h_g1⟩:∃ x,x=gk:=⟨_,rfl⟩;subst h_g1;obtain ⟨wr1,h_wr1⟩:∃ x,x=wr:=⟨_,rfl⟩;subst h_wr1;obtain ⟨k,a1,n1,q1,HK,rfl,rfl,HO1,HX⟩:=hrel;have p2:=ap (HX.out.blk HTB.out);have hsz:=HX.out.size;by_cases hlt:k<nc
  ·have HLL:=ae (show (D.take k).length=k by rw [List.length_take,HDL.out];omega);have HSN:=ae (fun (p:Int × Int) (hp:D[k]?.getD (0,0)=p)=>show D.take k++[p]=D.take (k+1) by rw [eo (by rw [HDL.out];exact hlt),hp]);cases first
   ·obtain ⟨eb,eoff,ex,ey,hea,hev,he0,he1⟩:=(H.out.ext HX.out).c.at hlt;subst hea;have HS2:=ae (HSN.out (ex,ey) (by rw [HD.out];exact hev));clear hev
    go_wp2_with (first
     | (at_builtin;refine aJ rfl _ _ rfl (w.heap.size+1) (.slice a1 n1 q1) _ rfl (HO1.out.ext (Ext.alloc _ _)) _ 1 _ [(ex,ey)] rfl (Rats.one' _ _ _ _ _ (by simp)) (by rw [HLL.out];omega) (by simp;omega) ?_;intro v5 w5 ho hg hnear;have X5:=ae (aq (HX.out.trans (Ext.alloc _ _)) hg (fun j hj=>by have:=(HO1.out.lt j hj).1;omega));obtain ⟨a5,n5,p5,rfl,HN5⟩:=ho.var;have HO5:=ae ho;clear ho hg hnear))
    go_roundg (g1-1)
    case measure=>have:=HK.out;omega
    case rel=>exact ⟨k+1,a5,n5,p5,ae (by have:=HK.out;omega),by go_num,rfl,ae (by rw [<-HS2.out];exact HO5.out),X5⟩
   ·have HS2:=ae (HSN.out (0,1) (by rw [HD.out];exact mw hlt));go_wp2_with fail;refine (ce 0 _).mono ?_;rintro e w3 ⟨rfl,hx⟩;have X3:=ae (HX.out.trans hx);have HO3:=ae (HO1.out.ext hx);have hs3:=X3.out.size;clear hx p2
    go_wp2_with (first
     | (at_builtin;refine aJ rfl _ _ rfl (w.heap.size+1) (.slice a1 n1 q1) _ rfl (HO3.out.ext (Ext.alloc _ _)) _ 1 _ [(0,1)] rfl (Rats.one' _ _ _ _ _ (by simp)) (by rw [HLL.out];omega) (by simp;omega) ?_;intro v5 w5 ho hg hnear;have X5:=ae (aq (X3.out.trans (Ext.alloc _ _)) hg (fun j hj=>by have:=(HO3.out.lt j hj).1;omega));obtain ⟨a5,n5,p5,rfl,HN5⟩:=ho.var;have HO5:=ae ho;clear ho hg hnear))
    go_roundg (g1-1)
    case measure=>have:=HK.out;omega
    case rel=>exact ⟨k+1,a5,n5,p5,ae (by have:=HK.out;omega),by go_num,rfl,ae (by rw [<-HS2.out];exact HO5.out),X5⟩
  ·have hkm:k=nc:=by have:=HK.out;omega
   have HO2:=ae (show OwnR wr1 (w.heap.size+1) (.slice a1 n1 q1) (D++List.replicate 0 (bitI first,1)) by
    have:=HO1.out;rw [List.take_of_length_le (by rw [HDL.out];omega)] at this;simpa using this)
   clear hkm;go_wp2_with fail;clear p2
   go_loopg [5,7] na (fun gk oo ii wr=>∃ (k:Nat) (a1:Option Addr) (n1 p1:Nat),Hid (gk+k=na)/\ii=.int .i64 (k:Int)/\oo=.slice a1 n1 p1/\Hid (OwnR wr (w.heap.size+1) (.slice a1 n1 p1) (D++List.replicate k (bitI first,1)))/\Hid (Ext W wr))
   case atStart=>exact ⟨0,_,_,_,ae (by omega),rfl,rfl,HO2,HX⟩
   case round =>
    obtain ⟨g2,h_g2⟩:∃ x,x=gk:=⟨_,rfl⟩;subst h_g2;obtain ⟨wr2,h_wr2⟩:∃ x,x=wr:=⟨_,rfl⟩;subst h_wr2;obtain ⟨j,a2,n2,q2,HJ,rfl,rfl,HO4,HX4⟩:=hrel;have p0:=al (HX4.out.blk HTB.out);have hsz4:=HX4.out.size;by_cases hjl:j<na
    ·have HLL:=ae (show (D++List.replicate j (bitI first,(1:Int))).length=nc+j by rw [List.length_append,HDL.out,List.length_replicate]);have HBT:=ae (fun w'=>eE first w');go_wp2_with (first|(go_at_call 74;refine (HBT.out _).mono ?_;rintro e w2 ⟨rfl,rfl⟩));refine (ce (bitI first) _).mono ?_;rintro e w3 ⟨rfl,hx⟩;have X3:=ae (HX4.out.trans hx);have HO3:=ae (HO4.out.ext hx);have hs3:=X3.out.size;clear hx p0
     go_wp2_with (first
      | (at_builtin;refine aJ rfl _ _ rfl (w.heap.size+1) (.slice a2 n2 q2) _ rfl (HO3.out.ext (Ext.alloc _ _)) _ 1 _ [(bitI first,1)] rfl (Rats.one' _ _ _ _ _ (by simp)) (by rw [HLL.out];omega) (by simp;omega) ?_;intro v5 w5 ho hg hnear;have X5:=ae (aq (X3.out.trans (Ext.alloc _ _)) hg (fun j hj=>by have:=(HO3.out.lt j hj).1;omega));obtain ⟨a5,n5,p5,rfl,HN5⟩:=ho.var;have HO5:=ae ho;clear ho hg hnear))
     go_roundg (g2-1)
     case measure=>have:=HJ.out;omega
     case rel=>exact ⟨j+1,a5,n5,p5,ae (by have:=HJ.out;omega),by go_num,rfl,ae (by have:=HO5.out;rw [List.append_assoc,<-List.replicate_succ'] at this;exact this),X5⟩
    ·have hjm:na=j:=by have:=HJ.out;omega
     subst hjm;go_wp2_with fail;go_ret;exact ⟨⟨_,rfl,by rw [HCB.out];exact HO4.out.mono (by omega)⟩,HX0.out.trans HX4.out⟩
end
end Go.Proofs.YthjjfkeacobikaaGreat
namespace Go.Proofs.YthjjfkeacobikaaGreat
set_option maxRecDepth 100000
open Go.RowKit
theorem subR_bdS (a b:Int × Int):-1000000000<=(subR a b).1.1/\(subR a b).1.1<=1000000000:=by
 cases h:(subR a b).2
 ·rw [lC h];simp
 ·have:=bh (kI h).2.2.1;omega
theorem ah.put0 {w W:World} {g:Nat} {p q:Int} (h:ah w W g p q) (p':Int):ah w (W.setCell ⟨g,0,none⟩ (.int .i64 p')) g p' q :=
 ⟨h.ext.setCell (p:=⟨g,0,none⟩) h.ge (.int .i64 p'),h.ge,by rw [heap_setCell_same _ _ _ _ _ _ h.cell];rfl⟩
section
variable {w:World} {S:Nat} {a:Option Addr} {na ca:Nat} {b:Option Addr} {nb cb:Nat} {c:Option Addr} {nc cc:Nat} {ra:Option Addr} {rn rc:Nat} {ba:Option Addr} {bn bc:Nat} {vs:List Value} {t:Tb} {n:Nat} {f:Bool}
set_option maxHeartbeats 8000000 in
theorem mL {N:Nat} (h:bD w S a na ca b na cb c nc cc ra rn rc ba bn bc vs t n f) (hcols:t.cols=N) {B:List Int} (hB:Ints w b na cb B) (hca1:na<=ca) (hca2:ca<=9223372036854775807) {ka:Option Addr} {kn kc:Nat} {cs:List (Int × Int)} (hK:Rats w ka kn kc cs) (hkn:N+na<=kn) (hbig:kn<=100000) (base:Int) :
 Calls Tryz.prog 226 #[.pointer (some ⟨S,0,none⟩),.slice ka kn kc,.int .i64 base] w fun e w'=>(∃ v,e=.returned v/\OwnR w' w.heap.size v ((List.range na).map (cO B (base,1) cs N)))/\Ext w w':=by
 have H:=ae h;have hlt:=lt_of_block h.box;have HB:=ae hB;have HK':=ae hK;have hb1:=hB.hcap;have hb2:=hB.hmax;have hk1:=hK.hcap;have hk2':=hK.hmax;have HCO:=ae hcols;have HO:=ae (OwnR.made w w.heap.size (Nat.le_refl _));have X0:=ae (Ext.alloc w (.cells #[] 43));clear h hB hK hcols;go_enter Tryz.func226,Tryz.ntmps226
 go_wp2_with fail
 go_loopg [7,8] na (fun gk oo ii wr=>∃ (k:Nat) (a1:Option Addr) (n1 p1:Nat),Hid (gk+k=na)/\ii=.int .i64 (k:Int)/\oo=.slice a1 n1 p1/\Hid (OwnR wr w.heap.size (.slice a1 n1 p1) ((List.range k).map (cO B (base,1) cs N)))/\Hid (Ext w wr))
 case atStart=>exact ⟨0,_,_,_,ae (by omega),rfl,rfl,HO,X0⟩
 case round =>
  obtain ⟨g1,h_g1⟩:∃ x,x=gk:=⟨_,rfl⟩;subst h_g1;obtain ⟨wr1,h_wr1⟩:∃ x,x=wr:=⟨_,rfl⟩;subst h_wr1;obtain ⟨k,a1,n1,q1,HKK,rfl,rfl,HO1,HX⟩:=hrel;have hsz:=HX.out.size;obtain ⟨l0,l1,l2,c0,c1,c2,c3,c4,cf⟩:=(H.out.ext HX.out).cells;rw [HCO.out] at c2;by_cases hlt2:k<na
  ·obtain ⟨z,hz⟩:∃ z,z=N+k:=⟨_,rfl⟩;have hzu:z<kn:=by omega
   obtain ⟨zb,zoff,ex,ey,hza,hev,he0,he1⟩:=(HK'.out.ext HX.out).at hzu;subst hza;obtain ⟨d1,d2,dok,hdd⟩:∃ x y ok,subR (base,1) (ex,ey)=((x,y),ok):=⟨_,_,_,rfl⟩;have HDD:=ae hdd;have hdb:=subR_bdS (base,1) (ex,ey);rw [hdd] at hdb;have hwn:IntKind.i64.wrap (-d1)=-d1:=by rw [IntKind.wrap_i64];simp only at hdb;omega
   obtain ⟨bb,boff,hba,hb0⟩:=(HB.out.ext HX.out).at hlt2;subst hba;obtain ⟨bi,hbi⟩:∃ x,x=B[k]?.getD 0:=⟨_,rfl⟩;rw [<-hbi] at hb0;have HB0:=ae hb0;have HDF:=ae (show cO B (base,1) cs N k=sgnR bi (d1,d2) by unfold cO;rw [<-hz,hev,hdd,hbi]);have hwr:IntKind.i64.wrap ((N:Int)+(k:Int))=(z:Int):=by rw [IntKind.wrap_i64];omega
   have hz0':(0:Int)<=(z:Int):=by omega
   have hz1':(z:Int)<(kn:Int):=by omega
   clear hev hdd hbi hz hdb;go_upto_region 5 with fail;go_upto_region 5 with fail
   go_cut [9,10] (fun sx so wx=>∃ g:Nat,sx=.pointer (some ⟨g,0,none⟩)/\so=.bool dok/\Hid (ah wr1 wx g d1 d2))
   case first =>
    have hk2:Ext wr1 wr1.drew:=Ext.drew wr1;have hka:Ext wr1 (wr1.alloc (.cells #[.int .i64 0,.int .i64 0] 43)).drew:=(Ext.alloc _ _).trans (Ext.drew _);have HKEEP:=ae (fun (w':World) (h:Ext wr1 w')=>(⟨h.cellSome c2,h.cellSome he0,h.cellSome he1,h⟩:w'.cell? ⟨S,5,none⟩=some (.int .i64 (N:Int))/\w'.cell? ⟨zb,zoff+z*2,none⟩=some (.int .i64 ex)/\w'.cell? ⟨zb,zoff+z*2+1,none⟩=some (.int .i64 ey)/\Ext wr1 w'))
    go_region_held3 (fun w'=>w'.cell? ⟨S,5,none⟩=some (.int .i64 (N:Int))/\w'.cell? ⟨zb,zoff+z*2,none⟩=some (.int .i64 ex)/\w'.cell? ⟨zb,zoff+z*2+1,none⟩=some (.int .i64 ey)/\Ext wr1 w')
     (first
       | with_reducible exact HKEEP.out _ hk2
       | with_reducible exact HKEEP.out _ hka
       | with_reducible exact HKEEP.out _ ((hk2.setCell (by first|(simp;done)|(simp;omega)) _).setCell (by first|(simp;done)|(simp;omega)) _)
       | with_reducible exact HKEEP.out _ (hk2.trans (Ext.alloc _ _))
       | with_reducible exact HKEEP.out _ (hBB.put _ _).ext)
     (first
       | (go_at_call 86
          (with_reducible refine (ce base _).mono ?_)
          rintro e w7 ⟨rfl,hx_w7⟩
          first|(with_reducible have hBB:=ah.grow hBB hx_w7)|(with_reducible have hBB:=ah.firstD hx_w7)|(with_reducible have hBB:=ah.laterD hk2 hx_w7)|skip
          first|(have b0_:=hBB.c0;have b1_:=hBB.c1;have fb_:=hBB.free)|skip
          have hk2:Ext wr1 w7:=by first|with_reducible exact hk2.trans hx_w7|with_reducible exact hka.trans hx_w7|with_reducible exact (hk2.trans (Ext.alloc _ _)).trans hx_w7
          have hk2s:=hk2.size)
       | (go_at_call 184
          (with_reducible refine (mH base 1 ex ey _).mono ?_)
          rw [HDD.out];rintro e w8 ⟨rfl,hx_w8⟩
          first|(with_reducible have hBB:=ah.grow hBB hx_w8)|(with_reducible have hBB:=ah.firstD hx_w8)|(with_reducible have hBB:=ah.laterD hk2 hx_w8)|skip
          first|(have b0_:=hBB.c0;have b1_:=hBB.c1;have fb_:=hBB.free)|skip
          have hk2:Ext wr1 w8:=by first|with_reducible exact hk2.trans hx_w8|with_reducible exact hka.trans hx_w8|with_reducible exact (hk2.trans (Ext.alloc _ _)).trans hx_w8
          have hk2s:=hk2.size)
       | fail)
    all_goals (go_wp2_with fail;go_meet;first|exact ⟨_,rfl,rfl,ae (hBB.put _ _)⟩|exact ⟨_,rfl,rfl,ae (ah.new hk2 _ _)⟩|exact ⟨_,rfl,rfl,ae (ah.new' hk2 _ _ (by simp))⟩)
   obtain ⟨g,rfl,rfl,HB1⟩:=hcut;have XWC:=ae (HX.out.trans HB1.out.ext);clear hwr hz0' hz1' he0 he1 l0 l1 l2 c0 c1 c2 c3 c4 cf hb0;obtain ⟨l0,l1,l2,c0,c1,c2,c3,c4,cf⟩:=(H.out.ext XWC.out).cells;have hb0:=HB1.out.ext.cellSome HB0.out;have HO2:=ae (HO1.out.ext HB1.out.ext);obtain ⟨e1,hsg⟩:∃ e1,sgnR bi (d1,d2)=(e1,d2):=by unfold sgnR negR;split <;> exact ⟨_,rfl⟩
   have HSG:=ae hsg;clear hsg
   go_upto_if 46 with fail
   go_cut [8] (fun s8 wx=>s8=.int .i64 (k:Int)/\Hid (ah wr1 wx g e1 d2))
   case first =>
    have g0:=HB1.out.c0;have g1':=HB1.out.c1;have gf:=HB1.out.free;by_cases hbn:bi<0
    ·have he1:-d1=e1:=by have:=HSG.out;unfold sgnR negR at this;rw [if_pos hbn] at this;exact congrArg Prod.fst this
     rw [show decide (bi<0)=true from decide_eq_true hbn];have HBN:=ae (HB1.out.put0 e1);rw [he1] at hwn;clear hbn;go_wp2_with fail;go_meet;exact ⟨rfl,by first|exact HBN|(rw [he1];exact HBN)⟩
    ·have he1:e1=d1:=by have:=HSG.out;unfold sgnR at this;rw [if_neg (by omega)] at this;exact (congrArg Prod.fst this).symm
     subst he1;rw [show decide (bi<0)=false from decide_eq_false (by omega)];go_wp2_with fail;go_meet;exact ⟨rfl,HB1⟩
   obtain ⟨rfl,HB3⟩:=hcut;have HO3:=ae (HO1.out.ext HB3.out.ext);have HX3:=ae (HX.out.trans HB3.out.ext);have g0:=HB3.out.c0;have g1':=HB3.out.c1;have hgl:=HB3.out.lt;have hs3:=HX3.out.size;have HYL:=ae (show ((List.range k).map (cO B (base,1) cs N)).length=k by simp);have HSN:=ae (show (List.range k).map (cO B (base,1) cs N)++[(e1,d2)]=(List.range (k+1)).map (cO B (base,1) cs N) by rw [<-HSG.out,<-HDF.out];exact cK _ _);clear l0 l1 l2 c0 c1 c2 c3 c4 cf hb0 hwn
   go_wp2_with (first
    | (at_builtin;refine aJ rfl _ _ rfl w.heap.size (.slice a1 n1 q1) _ rfl (HO3.out.ext (Ext.alloc _ _)) _ 1 _ [(e1,d2)] rfl (Rats.one' _ _ _ _ _ (by simp)) (by rw [HYL.out];omega) (by simp;omega) ?_;intro v5 w5 ho hg hnear;have X5:=ae (aq (HX3.out.trans (Ext.alloc _ _)) hg (fun j hj=>(HO3.out.lt j hj).1));obtain ⟨a5,n5,p5,rfl,HN5⟩:=ho.var;have HO5:=ae ho;clear ho hg hnear))
   go_roundg (g1-1)
   case measure=>have:=HKK.out;omega
   case rel=>exact ⟨k+1,a5,n5,p5,ae (by have:=HKK.out;omega),by go_num,rfl,ae (by rw [<-HSN.out];exact HO5.out),X5⟩
  ·have hkn2:na=k:=by have:=HKK.out;omega
   subst hkn2;go_wp2_with fail;go_ret;exact ⟨⟨_,rfl,HO1.out⟩,HX.out⟩
end
section
variable {w:World} {S:Nat} {a:Option Addr} {na ca:Nat} {b:Option Addr} {nb cb:Nat} {c:Option Addr} {nc cc:Nat} {ra:Option Addr} {rc:Nat} {ba:Option Addr} {bc:Nat} {vs:List Value} {t:Tb} {n:Nat} {N m:Nat} {T0:Nat->Nat->Rat}
set_option maxHeartbeats 8000000 in
theorem s_l7Ray (h:bD w S a na ca b nb cb c nc cc ra m rc ba m bc vs t n false) (hT:TInv N m T0 t) (hN:N<=1000) (hm:m<=1000) {jc:Nat} (hjc:jc<N) :
 Calls Tryz.prog 229 #[.pointer (some ⟨S,0,none⟩),.int .i64 (jc:Int)] w fun e w'=>(∃ v,e=.returned v/\OwnR w' w.heap.size v (rayN t N jc m))/\Ext w w':=by
 have H:=ae h;have hlt:=lt_of_block h.box;have HT:=ae hT;have HCO:=ae hT.cols;have hr1:=h.tb.tbc.rows.hcap;have hr2:=h.tb.tbc.rows.hmax;have hb1:=h.tb.tbc.basis.hcap;have hb2:=h.tb.tbc.basis.hmax;have HO:=ae (OwnR.made w w.heap.size (Nat.le_refl _));have X0:=ae (Ext.alloc w (.cells #[] 43));clear h hT;go_enter Tryz.func229,Tryz.ntmps229
 go_wp2_with fail
 go_loopg [5,6] N (fun gk oo ii wr=>∃ (k:Nat) (a1:Option Addr) (n1 p1:Nat),Hid (gk+k=N)/\ii=.int .i64 (k:Int)/\oo=.slice a1 n1 p1/\Hid (OwnR wr w.heap.size (.slice a1 n1 p1) ((List.range k).map fun i=>if i=jc then ((1:Int),(1:Int)) else (0,1)))/\Hid (Ext w wr))
 case atStart=>exact ⟨0,_,_,_,ae (by omega),rfl,rfl,HO,X0⟩
 case round =>
  obtain ⟨g1,h_g1⟩:∃ x,x=gk:=⟨_,rfl⟩;subst h_g1;obtain ⟨wr1,h_wr1⟩:∃ x,x=wr:=⟨_,rfl⟩;subst h_wr1;obtain ⟨k,a1,n1,q1,HKK,rfl,rfl,HO1,HX⟩:=hrel;have hsz:=HX.out.size;obtain ⟨l0,l1,l2,c0,c1,c2,c3,c4,cf⟩:=(H.out.ext HX.out).cells;rw [HCO.out] at c2;by_cases hlt2:k<N
  ·have HLL:=ae (show ((List.range k).map fun i=>if i=jc then ((1:Int),(1:Int)) else (0,1)).length=k by simp);obtain ⟨un,hun⟩:∃ u:Int,u=if k=jc then 1 else 0:=⟨_,rfl⟩
   have HSN:=ae (show (List.range k).map (fun i=>if i=jc then ((1:Int),(1:Int)) else (0,1))++[(un,1)]=(List.range (k+1)).map fun i=>if i=jc then ((1:Int),(1:Int)) else (0,1) by
    rw [<-cK,hun];congr 2;split <;> rfl)
   have hik:((k:Int) == (jc:Int))=decide (k=jc):=by by_cases h:k=jc <;> simp [h] <;> omega
   have HUN:=ae (show bitI (decide (k=jc))=un by rw [hun];by_cases h:k=jc <;> simp [h,bitI]);have HBT:=ae (fun w'=>eE (decide (k=jc)) w');rw [HUN.out] at HBT;clear hun;go_wp2_with (first|(go_at_call 74;refine (HBT.out _).mono ?_;rintro e w2 ⟨rfl,rfl⟩));clear hik;refine (ce un _).mono ?_;rintro e w3 ⟨rfl,hx⟩;have X3:=ae (HX.out.trans hx);have HO3:=ae (HO1.out.ext hx);have hs3:=X3.out.size;clear hx l0 l1 l2 c0 c1 c2 c3 c4 cf
   go_wp2_with (first
    | (at_builtin;refine aJ rfl _ _ rfl w.heap.size (.slice a1 n1 q1) _ rfl (HO3.out.ext (Ext.alloc _ _)) _ 1 _ [(un,1)] rfl (Rats.one' _ _ _ _ _ (by simp)) (by rw [HLL.out];omega) (by simp;omega) ?_;intro v5 w5 ho hg hnear;have X5:=ae (aq (X3.out.trans (Ext.alloc _ _)) hg (fun j hj=>(HO3.out.lt j hj).1));obtain ⟨a5,n5,p5,rfl,HN5⟩:=ho.var;have HO5:=ae ho;clear ho hg hnear))
   go_roundg (g1-1)
   case measure=>have:=HKK.out;omega
   case rel=>exact ⟨k+1,a5,n5,p5,ae (by have:=HKK.out;omega),by go_num,rfl,ae (by rw [<-HSN.out];exact HO5.out),X5⟩
  ·have hkn2:N=k:=by have:=HKK.out;omega
   have HOR:=ae (show OwnR wr1 w.heap.size (.slice a1 n1 q1) (rayN t N jc 0) by rw [hkn2];exact HO1.out);obtain rfl:N=n1:=by have h1:=HOR.out.rats.hlen;rw [fQ] at h1;exact h1
   clear hkn2;go_wp2_with fail;clear l0 l1 l2 c0 c1 c2 c3 c4 cf
   go_loopg [7] m (fun gk ii wr=>∃ i:Nat,Hid (gk+i=m)/\ii=.int .i64 (i:Int)/\Hid (OwnR wr w.heap.size (.slice a1 N q1) (rayN t N jc i))/\Hid (Ext w wr))
   case atStart=>exact ⟨0,ae (by omega),rfl,HOR,HX⟩
   case round =>
    obtain ⟨g2,h_g2⟩:∃ x,x=gk:=⟨_,rfl⟩;subst h_g2;obtain ⟨wr2,h_wr2⟩:∃ x,x=wr:=⟨_,rfl⟩;subst h_wr2;obtain ⟨i,HI,rfl,HR,HXR⟩:=hrel;have HS2:=ae (H.out.ext HXR.out);obtain ⟨l0,l1,l2,c0,c1,c2,c3,c4,cf⟩:=HS2.out.cells;rw [HCO.out] at c2;have hs2:=HXR.out.size;by_cases hil:i<m
    ·obtain ⟨eb,eoff,hea,he0⟩:=HS2.out.tb.tbc.basis.at hil;subst hea;obtain ⟨bb,hbb⟩:∃ b,b=t.basis[i]?.getD 0:=⟨_,rfl⟩;rw [<-hbb] at he0;have HBB:=ae hbb;have hbr:0<=bb/\bb<N+m:=by
      rw [hbb,List.getElem?_eq_getElem (by rw [HT.out.blen];exact hil)];exact HT.out.bas _ (List.getElem_mem _)
     have hi0:(0:Int)<=(i:Int):=by omega
     have hi1:(i:Int)<(m:Int):=by omega
     clear hbb;go_upto_region 9 with fail;have hk2:Ext wr2 wr2.drew:=Ext.drew wr2;have HKEEP:=ae (fun (w':World) (h:Ext wr2 w')=>(⟨h.cellSome c1,h.cellSome c2,h.cellSome he0,h⟩:w'.cell? ⟨S,4,none⟩=some (.slice (some ⟨eb,eoff,none⟩) m bc)/\w'.cell? ⟨S,5,none⟩=some (.int .i64 (N:Int))/\w'.cell? ⟨eb,eoff+i,none⟩=some (.int .i64 bb)/\Ext wr2 w'));refine wp_region_held_drew (S:=(fun w'=>w'.cell? ⟨S,4,none⟩=some (.slice (some ⟨eb,eoff,none⟩) m bc)/\w'.cell? ⟨S,5,none⟩=some (.int .i64 (N:Int))/\w'.cell? ⟨eb,eoff+i,none⟩=some (.int .i64 bb)/\Ext wr2 w')) (by kernel_rfl) ?_ (fun hHeld=>?_)
     ·exact HKEEP.out _ hk2
     refine tk 0 ?_;refine tk 1 ?_;refine tk 2 ?_;refine tk 3 ?_;refine tk 4 ?_;refine tk 5 ?_;refine tk 6 ?_;refine tk 7 ?_;refine tk 8 ?_;refine tk 9 ?_;refine tk 10 ?_;refine tk 11 ?_;refine tk 12 ?_;refine tk 13 ?_;refine wpAnyH_done (by kernel_rfl) ?_ _;have HX3:=ae (HXR.out.trans hk2);have HR3:=ae (HR.out.ext hk2);have hw3:∃ x,x=wr2.drew:=⟨_,rfl⟩;obtain ⟨w3,hw3⟩:=hw3;rw [<-hw3] at HX3 HR3;rw [<-hw3];clear hk2 l0 l1 l2 c0 c1 c2 c3 c4 cf he0 hw3 HKEEP hHeld;by_cases hbc:bb<(N:Int)
     ·obtain ⟨bN,hbN⟩:∃ n:Nat,bb=n:=⟨bb.toNat,by omega⟩;subst hbN;have hbN2:bN<N:=by omega
      obtain ⟨l0,l1,l2,c0,c1,c2,c3,c4,cf⟩:=H.out.cells;obtain ⟨eb',eoff',hea',he0⟩:=H.out.tb.tbc.basis.at hil;simp only [Option.some.injEq,Addr.mk.injEq,and_true] at hea';obtain ⟨rfl,rfl⟩:=hea';rw [<-HBB.out] at he0;obtain ⟨zb1,zoff1,ya,yn,yc,hza1,hz0,hrow⟩:=H.out.tb.tbc.rows.at hil;subst hza1;have hyn:yn=N+m+1:=by rw [<-hrow.hlen];exact (HT.out.row i hil).1
      have hy1:=hrow.hcap;have hy2:=hrow.hmax;obtain ⟨yb,yoff,p,q,hya,hpq,hy0c,hy1c⟩:=hrow.at (show jc<yn by omega);subst hya;have hjy:(jc:Int)<(yn:Int):=by omega
      have hj0:(0:Int)<=(jc:Int):=by omega
      have hbI:(bN:Int)<(N:Int):=by omega
      have hbI0:(0:Int)<=(bN:Int):=by omega
      have HPQ:=ae (show t.at i jc=(p,q) from hpq);have hp0:-9223372036854775807<=p:=by have:=(HT.out.bounds.2 i jc).1;rw [HPQ.out] at this;exact this
      have hp1:p<=9223372036854775807:=by have:=(HT.out.bounds.2 i jc).2;rw [HPQ.out] at this;exact this
      have HP0:=ae hp0;clear hpq hrow hyn hbr;obtain ⟨G,hG,hbG,_,_⟩:=HR3.out.block (k:=bN) hbN2;subst hG;go_upto_region 10 with fail;have hk2:Ext w3 w3.drew:=Ext.drew w3;have HKEEP:=ae (fun (w':World) (h:Ext w w')=>(⟨h.cellSome c0,h.cellSome c1,h.cellSome he0,h.cellSome hz0,h.cellSome hy0c,h.cellSome hy1c,h⟩:w'.cell? ⟨S,3,none⟩=some (.slice (some ⟨zb1,zoff1,none⟩) m rc)/\w'.cell? ⟨S,4,none⟩=some (.slice (some ⟨eb,eoff,none⟩) m bc)/\w'.cell? ⟨eb,eoff+i,none⟩=some (.int .i64 (bN:Int))/\w'.cell? ⟨zb1,zoff1+i,none⟩=some (.slice (some ⟨yb,yoff,none⟩) yn yc)/\w'.cell? ⟨yb,yoff+jc*2,none⟩=some (.int .i64 p)/\w'.cell? ⟨yb,yoff+jc*2+1,none⟩=some (.int .i64 q)/\Ext w w'));refine wp_region_held_drew (S:=(fun w'=>w'.cell? ⟨S,3,none⟩=some (.slice (some ⟨zb1,zoff1,none⟩) m rc)/\w'.cell? ⟨S,4,none⟩=some (.slice (some ⟨eb,eoff,none⟩) m bc)/\w'.cell? ⟨eb,eoff+i,none⟩=some (.int .i64 (bN:Int))/\w'.cell? ⟨zb1,zoff1+i,none⟩=some (.slice (some ⟨yb,yoff,none⟩) yn yc)/\w'.cell? ⟨yb,yoff+jc*2,none⟩=some (.int .i64 p)/\w'.cell? ⟨yb,yoff+jc*2+1,none⟩=some (.int .i64 q)/\Ext w w')) (by kernel_rfl) ?_ (fun hHeld=>?_)
      ·exact HKEEP.out _ (HX3.out.trans hk2)
      refine tk 0 ?_;refine tk 1 ?_;refine tk 2 ?_;refine tk 3 ?_;refine tk 4 ?_;refine tk 5 ?_;refine tk 6 ?_;refine tk 7 ?_;refine tk 8 ?_;refine tk 9 ?_;refine tk 10 ?_;refine tk 11 ?_;refine tk 12 ?_;refine tk 13 ?_;refine tk 14 ?_;refine tk 15 ?_;refine tk 16 ?_;refine tk 17 ?_;refine tk 18 ?_;refine tk 19 ?_;refine rd (i:=20) (h:=fun K hK=>?_);go_simp
      (go_at_call 88;refine (eu p q _ hp0 hp1).mono ?_;rintro e w12 ⟨rfl,hx12⟩;have hk2:=hk2.trans hx12;have HR12:=ae (HR3.out.ext hk2);obtain ⟨G',goff',g1v,g2v,hG',hgv,hg0,hg1⟩:=HR12.out.rats.at hbN2;simp only [Option.some.injEq,Addr.mk.injEq,and_true] at hG';obtain ⟨rfl,rfl⟩:=hG';rw [Nat.zero_add] at hg0 hg1;obtain ⟨G2,hG2,hbG2,hfr2,hGl2⟩:=HR12.out.block (k:=bN) hbN2;simp only [Option.some.injEq,Addr.mk.injEq,and_true] at hG2;subst hG2;clear hgv)
      go_wp2_with fail;refine hK.out _ _ ?_ (fun hHeld=>?_)
      ·exact HKEEP.out _ (HX3.out.trans hk2)
      clear hK K
      try simp only [Act.put,sA,sB,sC]
      refine tk 21 ?_;have HXN:=ae (((HX3.out.trans hk2).setCell (p:=⟨G,bN*2,none⟩) hbG (.int .i64 (-p))).setCell (p:=⟨G,bN*2+1,none⟩) hbG (.int .i64 q));refine rd (i:=22) (h:=fun K hK=>?_);go_simp;refine hK.out _ _ ?_ (fun hHeld=>?_)
      ·exact HKEEP.out _ HXN.out
      clear hK K
      try simp only [Act.put,sA,sB,sC]
      refine wpAnyH_done (by kernel_rfl) ?_ _
      have HRN:=ae (show OwnR ((w12.setCell ⟨G,bN*2,none⟩ (.int .i64 (-p))).setCell ⟨G,bN*2+1,none⟩ (.int .i64 q)) w.heap.size (.slice (some ⟨G,0,none⟩) N q1) (rayN t N jc (i+1)) by
       rw [jk (by rw [<-HBB.out];omega),<-HBB.out,Int.toNat_natCast,HPQ.out]
       exact HR12.out.set (k:=bN) (by rw [fQ];exact hbN2) (-p) q)
      go_wp2_with fail
      go_roundg (g2-1)
      case measure=>have:=HI.out;omega
      case rel=>exact ⟨i+1,ae (by have:=HI.out;omega),by go_num,HRN,HXN⟩
     ·have HRN:=ae (show OwnR w3 w.heap.size (.slice a1 N q1) (rayN t N jc (i+1)) by rw [kB (by rw [<-HBB.out];omega)];exact HR3.out);clear hbr;go_wp2_with fail
      go_roundg (g2-1)
      case measure=>have:=HI.out;omega
      case rel=>exact ⟨i+1,ae (by have:=HI.out;omega),by go_num,HRN,HX3⟩
    ·have hin:m=i:=by have:=HI.out;omega
     subst hin;go_wp2_with fail;go_ret;exact ⟨⟨_,rfl,HR.out⟩,HXR.out⟩
end
end Go.Proofs.YthjjfkeacobikaaGreat
