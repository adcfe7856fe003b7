import Derived.Test.YthjjfkeacobikaaGreatLeAllG19
import Derived.Test.YthjjfkeacobikaaGreatLeAllG15
import Derived.Test.YthjjfkeacobikaaGreatLeAllG16
import Derived.Test.YthjjfkeacobikaaGreatLeAllG17
set_option linter.unusedVariables false
set_option linter.unusedSimpArgs false
namespace Go.Proofs.YthjjfkeacobikaaGreat
set_option maxRecDepth 100000
open Go.RowKit
structure Mod (S:Nat) (w w':World):Prop where
 os:w'.os=w.os
 tape:w'.tape=w.tape
 output:w'.output=w.output
 size:w.heap.size<=w'.heap.size
 block:∀ k,k<w.heap.size->k ≠ S->w'.heap[k]?=w.heap[k]?
theorem Mod.refl (S:Nat) (w:World):Mod S w w:=⟨rfl,rfl,rfl,Nat.le_refl _,fun _ _ _=>rfl⟩
theorem Mod.of {S:Nat} {w w':World} (h:Ext w w'):Mod S w w':=⟨h.os,h.tape,h.output,h.size,fun k hk _=>h.block k hk⟩
theorem Mod.trans {S:Nat} {a b c:World} (h:Mod S a b) (k:Mod S b c):Mod S a c :=
 ⟨k.os.trans h.os,k.tape.trans h.tape,k.output.trans h.output,Nat.le_trans h.size k.size,fun i hi hn=>(k.block i (Nat.lt_of_lt_of_le hi h.size) hn).trans (h.block i hi hn)⟩
theorem Mod.set (S:Nat) (w:World) (k:Nat) (v:Value):Mod S w (w.setCell ⟨S,k,none⟩ v):=by
 have h:=(Below.refl S w).setCell (p:=⟨S,k,none⟩) (Nat.le_refl S) v;exact ⟨h.os,h.tape,h.output,h.size,fun i _ hn=>heap_setCell_other _ _ _ _ hn⟩
theorem Mod.ext {S:Nat} {w0 w w':World} (h:Mod S w w') (hx:Ext w0 w) (hs:w0.heap.size<=S):Ext w0 w' :=
 ⟨h.os.trans hx.os,h.tape.trans hx.tape,h.output.trans hx.output,Nat.le_trans hx.size h.size,fun k hk=>(h.block k (Nat.lt_of_lt_of_le hk hx.size) (by omega)).trans (hx.block k hk)⟩
structure di (w:World) (S:Nat) (ra:Option Addr) (rn rc:Nat) (ba:Option Addr) (bn bc:Nat) (vs:List Value) (t:Tb) (n:Nat) (f:Bool):Prop where
 box:w.heap[S]?=some (.cells #[.slice ra rn rc,.slice ba bn bc,.int .i64 t.cols,.int .i64 (n:Int),.bool f] 215 (0,0))
 tb:OwnT w 0 (.slice ra rn rc) (.slice ba bn bc) vs t
theorem OwnT.setS {w:World} {base S k:Nat} {va vb:Value} {vs:List Value} {t:Tb} {c:Array Value} {z:Nat × Nat} {v:Value} (h:OwnT w base va vb vs t) (hb:w.heap[S]?=some (.cells c 215 z)):OwnT (w.setCell ⟨S,k,none⟩ v) base va vb vs t :=
 ⟨ci h.a hb (by decide),⟨h.rows.len,fun i hi=>ci (h.rows.row i hi) hb (by decide),h.rows.apart⟩,ci h.b hb (by decide)⟩
section
variable {w:World} {S:Nat} {ra:Option Addr} {rn rc:Nat} {ba:Option Addr} {bn bc:Nat} {vs:List Value} {t:Tb} {n:Nat} {f:Bool}
theorem di.ext {w':World} (h:di w S ra rn rc ba bn bc vs t n f) (hx:Ext w w'):di w' S ra rn rc ba bn bc vs t n f:=⟨(hx.block _ (lt_of_block h.box)).trans h.box,h.tb.ext hx⟩
theorem di.cells (h:di w S ra rn rc ba bn bc vs t n f):w.cell? ⟨S,0,none⟩=some (.slice ra rn rc)/\w.cell? ⟨S,1,none⟩=some (.slice ba bn bc)/\w.cell? ⟨S,2,none⟩=some (.int .i64 t.cols)/\w.cell? ⟨S,3,none⟩=some (.int .i64 (n:Int))/\w.cell? ⟨S,4,none⟩=some (.bool f)/\∀ k,w.frozen? ⟨S,k,none⟩=false:=by
 have hb:=h.box;refine ⟨?_,?_,?_,?_,?_,fun k=>frozen_of_row w S k _ _ hb⟩ <;> rw [cell_of_row w S _ _ _ _ hb] <;> rfl
theorem di.fail (h:di w S ra rn rc ba bn bc vs t n f):di (w.setCell ⟨S,4,none⟩ (.bool true)) S ra rn rc ba bn bc vs t n true :=
 ⟨heap_setCell_same w S 4 _ _ (.bool true) h.box,h.tb.setS h.box⟩
theorem di.step (h:di w S ra rn rc ba bn bc vs t n f) {ra':Option Addr} {rn' rc':Nat} {ba':Option Addr} {bn' bc':Nat} {vs':List Value} {t':Tb} (ho:OwnT w 0 (.slice ra' rn' rc') (.slice ba' bn' bc') vs' t') :
 di ((((w.setCell ⟨S,0,none⟩ (.slice ra' rn' rc')).setCell ⟨S,1,none⟩ (.slice ba' bn' bc')).setCell ⟨S,2,none⟩ (.int .i64 t'.cols)).setCell ⟨S,3,none⟩ (.int .i64 ((n:Int)+1))) S ra' rn' rc' ba' bn' bc' vs' t' (n+1) f:=by
 have b1:=heap_setCell_same w S 0 _ _ (.slice ra' rn' rc') h.box;have b2:=heap_setCell_same _ S 1 _ _ (.slice ba' bn' bc') b1;have b3:=heap_setCell_same _ S 2 _ _ (.int .i64 t'.cols) b2;have b4:=heap_setCell_same _ S 3 _ _ (.int .i64 ((n:Int)+1)) b3;refine ⟨?_,(((ho.setS h.box).setS b1).setS b2).setS b3⟩;rw [b4];have:((n+1:Nat):Int)=(n:Int)+1:=by simp
 rw [this];rfl
end
theorem OwnR.mod {w w':World} {S b:Nat} {v:Value} {l:List (Int × Int)} (h:OwnR w b v l) (hm:Mod S w w') {c:Array Value} {z:Nat × Nat} (hb:w.heap[S]?=some (.cells c 215 z)):OwnR w' b v l :=
 h.keep fun k hk=>hm.block k (h.lt k hk).2 fun e=>(ap h hb (by decide)) (by rw [hk,e])
def Left (S:Nat) (w w':World) (o:Option (Tb × Nat)):Prop :=
 Mod S w w'/\∃ ra rn rc ba bn bc vs,match o with
  | some (t,n)=>di w' S ra rn rc ba bn bc vs t n false
  | none=>∃ t n,di w' S ra rn rc ba bn bc vs t n true
def pivS (t:Tb) (n:Nat) (row col:Int):Option (Tb × Nat):=if n=1000 then none else (bu t row col).map fun t'=>(t',n+1)
theorem TInv.bounds {n m:Nat} {T0:Nat->Nat->Rat} {t:Tb} (h:TInv n m T0 t):(∀ i,i<m->(t.row i).length=n+m+1)/\∀ i j,-9223372036854775807<=(t.at i j).1/\(t.at i j).1<=9223372036854775807:=by
 refine ⟨fun i hi=>(h.row i hi).1,fun i j=>?_⟩;by_cases hi:i<m
 ·by_cases hj:j<n+m+1
  ·have:=aU ((h.row i hi).2 j hj);unfold Tb.at
   omega
  ·unfold Tb.at
   rw [List.getElem?_eq_none (by rw [(h.row i hi).1];omega)];simp
 ·unfold Tb.at Tb.row;rw [List.getElem?_eq_none (l:=t.rows) (by rw [h.len];omega)];simp
section
variable {w:World} {S:Nat} {ra:Option Addr} {rn rc:Nat} {ba:Option Addr} {bn bc:Nat} {vs:List Value} {t:Tb} {n:Nat}
set_option maxHeartbeats 8000000 in
theorem qq (h:di w S ra rn rc ba bn bc vs t n false) {N m:Nat} {T0:Nat->Nat->Rat} (hT:TInv N m T0 t) (hN:N<=1000) (hm:m<=1000) (hn:n<=1000) (row col:Int) :
 Calls Tryz.prog 251 #[.pointer (some ⟨S,0,none⟩),.int .i64 row,.int .i64 col] w fun e w'=>e=.returned (.tuple #[])/\Left S w w' (pivS t n row col):=by
 have hlt:=lt_of_block h.box;obtain ⟨c0,c1,c2,c3,c4,cf⟩:=h.cells;have H:=ae h;by_cases hn0:n=1000
 ·subst hn0;have HP:=ae (show pivS t 1000 row col=none by unfold pivS;rw [if_pos rfl]);clear h;go_enter Tryz.func251,Tryz.ntmps251
  go_wp2_with fail;refine bodyPost_ret (results_none rfl _ _ _) rfl ⟨rfl,Mod.set _ _ _ _,?_⟩;rw [HP.out];exact ⟨_,_,_,_,_,_,_,_,_,H.out.fail⟩
 ·have hnn:((n:Int) == 1000)=false:=by simp;omega
  have hn1:n<1000:=by omega
  have HB:=ae hT.bounds;have HTB:=ae h.tb.tbc;have hrn:rn=m:=by rw [<-h.tb.tbc.rows.hlen,hT.len]
  have hbn:bn=m:=by rw [<-h.tb.tbc.basis.hlen,hT.blen]
  have HPV:=ae (mj h.tb.tbc (by omega) (by omega) (fun i hi=>by rw [hT.bounds.1 i (by omega)];omega) hT.bounds.2 row col);have HP:=ae (show pivS t n row col=(bu t row col).map fun t'=>(t',n+1) by unfold pivS;rw [if_neg hn0]);clear h hT hn0 hrn hbn;unfold PivR dl at HPV;cases hp:bu t row col with
  | none =>
    rw [hp] at HPV HP;go_enter Tryz.func251,Tryz.ntmps251
    go_wp2_with fail;refine HPV.out.mono ?_;simp only [Option.getD_none,Option.isSome_none];rintro e w1 ⟨⟨va,vb,vs1,rfl,ho⟩,hx⟩;obtain ⟨a7,n7,c7,rfl,HN7⟩:=ho.a.var;obtain ⟨a8,n8,c8,rfl,HN8⟩:=ho.b.var;obtain ⟨E1,hE1⟩:∃ E1,E1=w1.alloc (.cells #[.slice a7 n7 c7,.slice a8 n8 c8,.int .i64 t.cols] 83):=⟨_,rfl⟩;have X1:=ae (show Ext w E1 by rw [hE1];exact hx.trans (Ext.alloc _ _));have HO:=ae (show OwnT E1 0 (.slice a7 n7 c7) (.slice a8 n8 c8) vs1 t by rw [hE1];exact (ho.ext (Ext.alloc _ _)).mono (Nat.zero_le _));have HBX:=ae (show E1.heap[w1.heap.size]?=some (.cells #[.slice a7 n7 c7,.slice a8 n8 c8,.int .i64 t.cols] 83 (0,0)) by rw [hE1];exact aj _ _ _ rfl);have HS:=ae (H.out.ext X1.out);go_upto_region 3 with fail;rw [<-hE1];clear hE1 ho hx c0 c1 c2 c3 c4 cf;obtain ⟨c0,c1,c2,c3,c4,cf⟩:=HS.out.cells;have b0:=aq HBX.out;have b1:=aw HBX.out;have b2:=az HBX.out;have hlt2:=lt_of_block HBX.out;have hne:w1.heap.size ≠ S:=fun e=>iu HBX.out HS.out.box (by decide) e
    go_wp2_with fail;refine bodyPost_ret (results_none rfl _ _ _) rfl ⟨rfl,(Mod.of X1.out).trans (Mod.set _ _ _ _),?_⟩;rw [HP.out];exact ⟨_,_,_,_,_,_,_,_,_,HS.out.fail⟩
  | some t' =>
    rw [hp] at HPV HP;go_enter Tryz.func251,Tryz.ntmps251
    go_wp2_with fail;refine HPV.out.mono ?_;simp only [Option.getD_some,Option.isSome_some];rintro e w1 ⟨⟨va,vb,vs1,rfl,ho⟩,hx⟩;obtain ⟨a7,n7,c7,rfl,HN7⟩:=ho.a.var;obtain ⟨a8,n8,c8,rfl,HN8⟩:=ho.b.var;obtain ⟨E1,hE1⟩:∃ E1,E1=w1.alloc (.cells #[.slice a7 n7 c7,.slice a8 n8 c8,.int .i64 t'.cols] 83):=⟨_,rfl⟩;have X1:=ae (show Ext w E1 by rw [hE1];exact hx.trans (Ext.alloc _ _));have HO:=ae (show OwnT E1 0 (.slice a7 n7 c7) (.slice a8 n8 c8) vs1 t' by rw [hE1];exact (ho.ext (Ext.alloc _ _)).mono (Nat.zero_le _));have HBX:=ae (show E1.heap[w1.heap.size]?=some (.cells #[.slice a7 n7 c7,.slice a8 n8 c8,.int .i64 t'.cols] 83 (0,0)) by rw [hE1];exact aj _ _ _ rfl);have HS:=ae (H.out.ext X1.out);go_upto_region 3 with fail;rw [<-hE1];clear hE1 ho hx c0 c1 c2 c3 c4 cf;obtain ⟨c0,c1,c2,c3,c4,cf⟩:=HS.out.cells;have b0:=aq HBX.out;have b1:=aw HBX.out;have b2:=az HBX.out;have hlt2:=lt_of_block HBX.out;have hne:w1.heap.size ≠ S:=fun e=>iu HBX.out HS.out.box (by decide) e
    go_wp2_with fail;refine bodyPost_end (results_none rfl _ _ _) rfl ⟨rfl,(Mod.of X1.out).trans ((((Mod.set _ _ _ _).trans (Mod.set _ _ _ _)).trans (Mod.set _ _ _ _)).trans (Mod.set _ _ _ _)),?_⟩;rw [HP.out];exact ⟨_,_,_,_,_,_,_,HS.out.step HO.out⟩
end
end Go.Proofs.YthjjfkeacobikaaGreat
namespace Go.Proofs.YthjjfkeacobikaaGreat
set_option maxRecDepth 100000
open Go.RowKit
theorem lF {cost:List (Int × Int)} {t:Tb} (f:Nat) (h:ce t cost=none):aV cost f t=none:=by unfold aV;rw [h]
theorem kg {cost cs:List (Int × Int)} {t:Tb} (f:Nat) (h:ce t cost=some cs) (he:bp cs t.cols<0):aV cost f t=some ⟨t,f,cs,-1⟩:=by unfold aV;rw [h];simp only [he,if_true]
theorem kh {cost cs:List (Int × Int)} {t:Tb} (f:Nat) (h:ce t cost=some cs) (he:¬ bp cs t.cols<0) (hl:cq t (bp cs t.cols)<0):aV cost f t=some ⟨t,f,cs,bp cs t.cols⟩:=by
 unfold aV;rw [h];simp only [he,hl,if_true,if_false]
theorem ki {cost cs:List (Int × Int)} {t:Tb} {n:Nat} (hn:n<=1000) (h:ce t cost=some cs) (he:¬ bp cs t.cols<0) (hl:¬ cq t (bp cs t.cols)<0) :
 aV cost (1000-n) t=(pivS t n (cq t (bp cs t.cols)) (bp cs t.cols)).bind fun s=>aV cost (1000-s.2) s.1:=by
 unfold pivS;by_cases hn0:n=1000
 ·subst hn0;unfold aV;rw [h];simp only [he,hl,if_false,if_true];rfl
 ·rw [if_neg hn0];obtain ⟨f,hf⟩:∃ f,1000-n=f+1:=⟨999-n,by omega⟩;rw [hf];have e:1000-(n+1)=f:=by omega
  conv=>lhs;unfold aV
  rw [h];simp only [he,hl,if_false];cases bu t (cq t (bp cs t.cols)) (bp cs t.cols) with
  | none=>rfl
  | some t'=>simp only [Option.map_some,Option.bind_some,e]
def RunP (S:Nat) (w:World) (e:Ending) (w':World) (o:Option Ph):Prop :=
 Mod S w w'/\∃ ra rn rc ba bn bc vs,match o with
  | some p=>∃ v,e=.returned (.tuple #[v,.int .i64 p.col])/\OwnR w' w.heap.size v p.costs/\di w' S ra rn rc ba bn bc vs p.t (1000-p.left) false
  | none=>∃ v col t n,e=.returned (.tuple #[v,.int .i64 col])/\di w' S ra rn rc ba bn bc vs t n true
structure Head (w wr:World) (S:Nat) (N m:Nat) (T0:Nat->Nat->Rat) (cost:List (Int × Int)) (o:Option Ph) (gk:Nat) (nn:Nat) (f:Bool) (tt:Tb) (ra:Option Addr) (rn rc:Nat) (ba:Option Addr) (bn bc:Nat) (vs:List Value):Prop where
 meas:gk=if f=true then 0 else 2*(1000-nn)+1
 mod:Mod S w wr
 st:di wr S ra rn rc ba bn bc vs tt nn f
 go:f=false->TInv N m T0 tt/\nn<=1000/\aV cost (1000-nn) tt=o
 no:f=true->o=none
section
variable {w:World} {S:Nat} {ra:Option Addr} {rn rc:Nat} {ba:Option Addr} {bn bc:Nat} {vs:List Value} {t:Tb} {n:Nat}
set_option maxHeartbeats 16000000 in
theorem i_run (h:di w S ra rn rc ba bn bc vs t n false) {N m:Nat} {T0:Nat->Nat->Rat} (hT:TInv N m T0 t) (hN:N<=1000) (hm:m<=1000) (hn:n<=1000) {ka:Option Addr} {kn kc b0:Nat} {cost:List (Int × Int)} (hc:OwnR w b0 (.slice ka kn kc) cost) :
 Calls Tryz.prog 249 #[.pointer (some ⟨S,0,none⟩),.slice ka kn kc] w fun e w'=>RunP S w e w' (aV cost (1000-n) t):=by
 obtain ⟨o,ho⟩:∃ o,o=aV cost (1000-n) t:=⟨_,rfl⟩;rw [<-ho];have H0:=ae (show Head w w S N m T0 cost o (2*(1000-n)+1) n false t ra rn rc ba bn bc vs from ⟨by simp,Mod.refl _ _,h,fun _=>⟨hT,hn,ho.symm⟩,fun e=>by cases e⟩);have HC:=ae hc;have HBX:=ae h.box;have hlt:=lt_of_block h.box;clear h hT ho hc;go_enter Tryz.func249,Tryz.ntmps249
 go_wp2_with fail
 go_loopg [8] (2*(1000-n)+1) (fun gk s8 wr=>∃ (nn:Nat) (f:Bool) (tt:Tb) (ra:Option Addr) (rn rc:Nat) (ba:Option Addr) (bn bc:Nat) (vs:List Value),Hid (Head w wr S N m T0 cost o gk nn f tt ra rn rc ba bn bc vs))
 case atStart=>exact ⟨n,false,t,_,_,_,_,_,_,_,H0⟩
 case round =>
  obtain ⟨g1,h_g1⟩:∃ x,x=gk:=⟨_,rfl⟩;subst h_g1;obtain ⟨wr1,h_wr1⟩:∃ x,x=wr:=⟨_,rfl⟩;subst h_wr1;obtain ⟨nn,f,tt,ra,rn,rc,ba,bn,bc,vs,HH⟩:=hrel;clear H0;obtain ⟨c0,c1,c2,c3,c4,cf⟩:=HH.out.st.cells;have hl1:=lt_of_block HH.out.st.box;have hs1:=HH.out.mod.size;cases f
  ·obtain ⟨hT,hn1,hph⟩:=HH.out.go rfl;have HT:=ae hT;have HPH:=ae hph;have hcols:=hT.cols;have HCR:=ae (sM HH.out.st.tb.tbc (by rw [<-HH.out.st.tb.tbc.rows.hlen,hT.len];omega) ((HC.out.mod HH.out.mod HBX.out).rats));rw [hcols] at c2 HCR;have HCO:=ae hcols;clear hT hph hcols;cases hcs:ce tt cost with
   | none =>
     have HO:=ae (show o=none by rw [<-HPH.out];exact lF _ hcs);rw [hcs] at HCR;go_wp2_with fail;refine HCR.out.mono ?_;simp only [Option.getD_none,Option.isSome_none];rintro e w2 ⟨⟨v2,rfl,ho2⟩,hx⟩;have HS:=ae (HH.out.st.ext hx);have HM:=ae (HH.out.mod.trans (Mod.of hx));clear ho2 hx c0 c1 c2 c3 c4 cf hcs;obtain ⟨c0,c1,c2,c3,c4,cf⟩:=HS.out.cells;go_wp2_with fail
     go_ret2
     refine ⟨HM.out.trans (Mod.set _ _ _ _),?_⟩;rw [HO.out];exact ⟨_,_,_,_,_,_,_,_,_,_,_,rfl,HS.out.fail⟩
   | some cs =>
     rw [hcs] at HCR;have HCS:=ae hcs;go_wp2_with fail;refine HCR.out.mono ?_;simp only [Option.getD_some,Option.isSome_some];rintro e w2 ⟨⟨v2,rfl,ho2⟩,hx⟩;obtain ⟨a2,n2,p2,rfl,HN2⟩:=ho2.var;have HS:=ae (HH.out.st.ext hx);have HM:=ae (HH.out.mod.trans (Mod.of hx));have HO2:=ae (show OwnR w2 w.heap.size (.slice a2 n2 p2) cs from OwnR.mono ho2 hs1);clear ho2 hx c0 c1 c2 c3 c4 cf hcs;obtain ⟨c0,c1,c2,c3,c4,cf⟩:=HS.out.cells;rw [HCO.out] at c2;obtain ⟨col,hcol⟩:∃ c,c=bp cs (N:Int):=⟨_,rfl⟩;have HCL:=ae hcol;clear hcol;go_upto_region 5 with fail;have hk2:Ext w2 w2.drew:=Ext.drew w2;have hka:=hk2;have HKEEP:=ae (fun (w':World) (h:Ext w2 w')=>(⟨h.cellSome c0,h.cellSome c1,h.cellSome c2,h⟩:w'.cell? ⟨S,0,none⟩=some (.slice ra rn rc)/\w'.cell? ⟨S,1,none⟩=some (.slice ba bn bc)/\w'.cell? ⟨S,2,none⟩=some (.int .i64 (N:Int))/\Ext w2 w'))
     go_region_held3 (fun w'=>w'.cell? ⟨S,0,none⟩=some (.slice ra rn rc)/\w'.cell? ⟨S,1,none⟩=some (.slice ba bn bc)/\w'.cell? ⟨S,2,none⟩=some (.int .i64 (N:Int))/\Ext w2 w')
      (with_reducible exact HKEEP.out _ hk2)
      (first
        | (go_at_call 278
           (with_reducible refine (kt (ra:=ra) (rn:=rn) (rc:=rc) (ba:=ba) (bn:=bn) (bc:=bc) (x:=(N:Int)) (HO2.out.rats.ext (by first|with_reducible exact hk2|with_reducible exact hka|with_reducible exact hk2.trans (Ext.alloc _ _))) N (by omega)).mono ?_)
           rw [<-HCL.out];rintro e w3 ⟨rfl,hx_w3⟩;have hk2:Ext w2 w3:=hk2.trans hx_w3
           have hs_w3:=hk2.size)
        | fail)
     clear HKEEP hka;have HS3:=ae (HS.out.ext hk2);have HM3:=ae (HM.out.trans (Mod.of hk2));have HO3:=ae (HO2.out.ext hk2);clear hk2 c0 c1 c2 c3 c4 cf;have HCE:=ae (show bp cs tt.cols=col by rw [HCO.out,HCL.out]);by_cases hc0:col<0
     ·have HO:=ae (show o=some ⟨tt,1000-nn,cs,-1⟩ by rw [<-HPH.out];exact kg _ HCS.out (by rw [HCE.out];exact hc0));go_wp2_with fail
      go_ret2
      refine ⟨HM3.out,?_⟩;rw [HO.out];exact ⟨_,_,_,_,_,_,_,_,rfl,HO3.out,by rw [show 1000-(1000-nn)=nn by omega];exact HS3.out⟩
     ·obtain ⟨c0,c1,c2,c3,c4,cf⟩:=HS3.out.cells;rw [HCO.out] at c2;have HC0:=ae hc0;have HLV:=ae (oz HS3.out.tb.tbc (by rw [<-HS3.out.tb.tbc.rows.hlen,HT.out.len];omega) col);rw [HCO.out] at HLV;obtain ⟨row,hrow⟩:∃ r,r=cq tt col:=⟨_,rfl⟩;have HRW:=ae (show cq tt (bp cs tt.cols)=row by rw [HCE.out,hrow]);rw [<-hrow] at HLV;clear hrow;go_wp2_with fail;refine HLV.out.mono ?_;rintro e w4 ⟨rfl,hx⟩;have HS4:=ae (HS3.out.ext hx);have HM4:=ae (HM3.out.trans (Mod.of hx));have HO4:=ae (HO3.out.ext hx);clear hx c0 c1 c2 c3 c4 cf;by_cases hr0:row<0
      ·have HO:=ae (show o=some ⟨tt,1000-nn,cs,col⟩ by
        rw [<-HPH.out,kh _ HCS.out (by rw [HCE.out];have:=HC0.out;omega) (by rw [HRW.out];exact hr0),HCE.out])
       go_wp2_with fail
       go_ret2
       refine ⟨HM4.out,?_⟩;rw [HO.out];exact ⟨_,_,_,_,_,_,_,_,rfl,HO4.out,by rw [show 1000-(1000-nn)=nn by omega];exact HS4.out⟩
      ·have HOP:=ae (show o=(pivS tt nn row col).bind fun s=>aV cost (1000-s.2) s.1 by
        rw [<-HPH.out,ki hn1 HCS.out (by rw [HCE.out];have:=HC0.out;omega) (by rw [HRW.out];omega),HRW.out,HCE.out])
       have HPV:=ae (qq HS4.out HT.out hN hm hn1 row col);have HME:=ae (show g1=2*(1000-nn)+1 from HH.out.meas);go_wp2_with fail;refine HPV.out.mono ?_;rintro e w5 ⟨rfl,hm5,ra5,rn5,rc5,ba5,bn5,bc5,vs5,hleft⟩;cases hps:pivS tt nn row col with
       | none =>
         rw [hps] at hleft;obtain ⟨t5,n5,hs5⟩:=hleft;have HO:=ae (show o=none by rw [HOP.out,hps];rfl);have HH5:=ae (show Head w w5 S N m T0 cost o 0 n5 true t5 ra5 rn5 rc5 ba5 bn5 bc5 vs5 from ⟨rfl,HM4.out.trans hm5,hs5,fun e=>(by cases e),fun _=>HO.out⟩);clear hs5 hps hm5;go_wp2_with fail
         go_roundg 0
         case measure=>have:=HME.out;omega
         case rel=>exact ⟨n5,true,t5,_,_,_,_,_,_,_,HH5⟩
       | some st =>
         obtain ⟨t5,n5⟩:=st;rw [hps] at hleft;have hn5:n5=nn+1/\nn<1000/\bu tt row col=some t5:=by
          unfold pivS at hps
          split at hps
          ·cases hps
          ·rw [Option.map_eq_some_iff] at hps;obtain ⟨t6,h6,h7⟩:=hps;simp only [Prod.mk.injEq] at h7;obtain ⟨rfl,rfl⟩:=h7;exact ⟨rfl,by omega,h6⟩
         obtain ⟨rfl,hlt5,hpt⟩:=hn5;have HO:=ae (show aV cost (1000-(nn+1)) t5=o by rw [HOP.out,hps];rfl);have HH5:=ae (show Head w w5 S N m T0 cost o (2*(1000-(nn+1))+1) (nn+1) false t5 ra5 rn5 rc5 ba5 bn5 bc5 vs5 from ⟨rfl,HM4.out.trans hm5,hleft,fun _=>⟨eU HT.out hpt,by omega,HO.out⟩,fun e=>(by cases e)⟩);clear hleft hps hm5 hpt;go_wp2_with fail
         go_roundg (2*(1000-(nn+1))+1)
         case measure=>have:=HME.out;omega
         case rel=>exact ⟨nn+1,false,t5,_,_,_,_,_,_,_,HH5⟩
  ·have HO:=ae (HH.out.no rfl);go_wp2_with fail
   go_ret2
   refine ⟨HH.out.mod,?_⟩;rw [HO.out];exact ⟨_,_,_,_,_,_,_,_,_,_,_,rfl,HH.out.st⟩
end
end Go.Proofs.YthjjfkeacobikaaGreat
namespace Go.Proofs.YthjjfkeacobikaaGreat
set_option maxRecDepth 100000
open Go.RowKit
set_option maxHeartbeats 4000000 in
theorem mY {w:World} {a:Option Addr} {n cap:Nat} {front:List (Int × Int)} (h:Rats w a n cap front) (rest:Int) (m:Nat) (hn:n<=100000) (hm:m<=100000) :
 Calls Tryz.prog 250 #[.slice a n cap,.int .i64 rest,.int .i64 (m:Int)] w fun e w'=>(∃ v,e=.returned v/\OwnR w' w.heap.size v (front++List.replicate m (rest,1)))/\Ext w w':=by
 have HL:=ae h.hlen;have hc1:=h.hcap;have hc2:=h.hmax;have HI:=ae (h.ext (Ext.alloc w (.cells #[] 43)));have HO:=ae (OwnR.made w w.heap.size (Nat.le_refl _));clear h;go_enter Tryz.func250,Tryz.ntmps250
 go_wp2_with (first
  | (at_builtin;refine aG rfl _ _ rfl w.heap.size (.slice (some ⟨w.heap.size,0,none⟩) 0 0) [] rfl HO.out a n cap front rfl HI.out (by simp;omega) (by simp) ?_;intro v5 w5 ho hg hnear;have X5:=ae (ak (Ext.alloc w (.cells #[] 43)) hg (fun j hj=>Nat.le_of_eq (Option.some.inj (show some w.heap.size=some j from hj))));obtain ⟨a5,n5,p5,rfl,HN5⟩:=ho.var;have HO5:=ae ho;clear ho hg hnear))
 go_loopg [7,12] m (fun gk oo ii wr=>∃ (k:Nat) (a1:Option Addr) (n1 p1:Nat),Hid (gk+k=m)/\ii=.int .i64 (k:Int)/\oo=.slice a1 n1 p1/\Hid (OwnR wr w.heap.size (.slice a1 n1 p1) (front++List.replicate k (rest,1)))/\Hid (Ext w wr))
 case atStart=>exact ⟨0,_,_,_,ae (by omega),rfl,rfl,ae (by have:=HO5.out;simpa using this),X5⟩
 case round =>
  obtain ⟨g1,h_g1⟩:∃ x,x=gk:=⟨_,rfl⟩;subst h_g1;obtain ⟨wr1,h_wr1⟩:∃ x,x=wr:=⟨_,rfl⟩;subst h_wr1;obtain ⟨k,a1,n1,p1,HK,rfl,rfl,HO1,HX⟩:=hrel;by_cases hlt:k<m
  ·have HLL:=ae (show (front++List.replicate k (rest,(1:Int))).length=n+k by simp [HL.out]);go_wp2_with fail;refine (cK rest _).mono ?_;rintro e w3 ⟨rfl,hx⟩;have X3:=ae (HX.out.trans hx);have HO3:=ae (HO1.out.ext hx);have hs3:=X3.out.size;clear hx
   go_wp2_with (first
    | (at_builtin;refine aG rfl _ _ rfl w.heap.size (.slice a1 n1 p1) _ rfl (HO3.out.ext (Ext.alloc _ _)) _ 1 _ [(rest,1)] rfl (Rats.one' _ _ _ _ _ (by simp)) (by rw [HLL.out];omega) (by simp;omega) ?_;intro v5 w5 ho hg hnear;have X5:=ae (ak (X3.out.trans (Ext.alloc _ _)) hg (fun j hj=>(HO3.out.lt j hj).1));obtain ⟨a5,n5,p5,rfl,HN5⟩:=ho.var;have HO5:=ae ho;clear ho hg hnear))
   go_roundg (g1-1)
   case measure=>have:=HK.out;omega
   case rel=>exact ⟨k+1,a5,n5,p5,ae (by have:=HK.out;omega),by go_num,rfl,ae (by have:=HO5.out;rw [List.append_assoc,<-List.replicate_succ'] at this;exact this),X5⟩
  ·have hkm:m=k:=by have:=HK.out;omega
   subst hkm;go_wp2_with fail;go_ret;exact ⟨⟨_,rfl,HO1.out⟩,HX.out⟩
theorem ia (t:Tb):∀ k,(solN t k).length=t.cols.toNat+t.rows.length
 | 0=>by simp [solN]
 | k+1=>by simp only [solN,List.length_set];exact ia t k
set_option maxHeartbeats 8000000 in
theorem oB {w:World} {ra:Option Addr} {rn rc:Nat} {ba:Option Addr} {bn bc:Nat} {t:Tb} (h:TbC w ra rn rc ba bn bc t) (hrn:rn<=100000) (hok:tbOk t=true) :
 Calls Tryz.prog 252 #[tbW ra rn rc ba bn bc t.cols] w fun e w'=>(∃ v,e=.returned v/\OwnR w' w.heap.size v (solT t))/\Ext w w':=by
 have hx0:=Ext.alloc w (bQ ra rn rc ba bn bc t.cols);have HX0:=ae hx0;have H:=ae (h.ext hx0);have HF:=ae (gZ H.out (by omega));rw [hok] at HF;obtain ⟨m,hxm,hm,hbr,hrl0,hbs0⟩:=fK h hok;subst hbr;have hr1:=h.rows.hcap;have hr2:=h.rows.hmax;have HLR:=ae h.rows.hlen;have HSO:=ae (show solT t=solN t bn by unfold solT;rw [if_pos hok,h.rows.hlen]);have HS0:=ae (show solN t 0=List.replicate (m+bn) (0,1) by simp only [solN];rw [hxm,h.rows.hlen];rfl);have HSL:=ae (fun k=>show (solN t k).length=m+bn by rw [ia,hxm,h.rows.hlen];simp);have HRL:=ae hrl0;have HBS:=ae hbs0;have HCM:=ae hxm;rw [hxm] at HF hx0 HX0 H;rw [hxm];have HO:=ae (fun (W:World)=>OwnR.made W W.heap.size (Nat.le_refl _));clear h hx0 hrl0 hbs0 hok hxm;go_enter Tryz.func252,Tryz.ntmps252
 go_wp2_with fail;refine HF.out.mono ?_;rintro e w1 ⟨rfl,hx⟩;have X1:=ae hx;have H1:=ae (H.out.ext hx);have c0:w1.cell? ⟨w.heap.size,0,none⟩=some (.slice ra bn rc):=hx.cellSome (by simp);have c2:w1.cell? ⟨w.heap.size,2,none⟩=some (.int .i64 (m:Int)):=hx.cellSome (by simp);have hs1:w.heap.size+1<=w1.heap.size:=by have:=hx.size;simpa using this
 have hs1':w.heap.size<w1.heap.size:=hs1;have HO1:=ae (HO.out w1);clear hx;go_wp2_with fail
 go_loopg [3,16] (m+bn) (fun gk oo ii wr=>∃ (k:Nat) (a1:Option Addr) (n1 p1:Nat),Hid (gk+k=m+bn)/\ii=.int .i64 (k:Int)/\oo=.slice a1 n1 p1/\Hid (OwnR wr w1.heap.size (.slice a1 n1 p1) (List.replicate k (0,1)))/\Hid (Ext w1 wr))
 case atStart=>exact ⟨0,_,_,_,ae (by omega),rfl,rfl,HO1,ae (Ext.alloc _ _)⟩
 case round =>
  obtain ⟨g1,h_g1⟩:∃ x,x=gk:=⟨_,rfl⟩;subst h_g1;obtain ⟨wr1,h_wr1⟩:∃ x,x=wr:=⟨_,rfl⟩;subst h_wr1;obtain ⟨k,a1,n1,p1,HK,rfl,rfl,HO1,HX⟩:=hrel;clear c0 c2;by_cases hlt:k<m+bn
  ·have HLL:=ae (show (List.replicate k ((0:Int),(1:Int))).length=k by simp);have hltI:(k:Int)<(m:Int)+(bn:Int):=by omega
   go_wp2_with fail;refine (cK 0 _).mono ?_;rintro e w3 ⟨rfl,hx⟩;have X3:=ae (HX.out.trans hx);have HO3:=ae (HO1.out.ext hx);have hs3:=X3.out.size;clear hx
   go_wp2_with (first
    | (at_builtin;refine aG rfl _ _ rfl w1.heap.size (.slice a1 n1 p1) _ rfl (HO3.out.ext (Ext.alloc _ _)) _ 1 _ [(0,1)] rfl (Rats.one' _ _ _ _ _ (by simp)) (by rw [HLL.out];omega) (by simp;omega) ?_;intro v5 w5 ho hg hnear;have X5:=ae (ak (X3.out.trans (Ext.alloc _ _)) hg (fun j hj=>(HO3.out.lt j hj).1));obtain ⟨a5,n5,p5,rfl,HN5⟩:=ho.var;have HO5:=ae ho;clear ho hg hnear))
   go_roundg (g1-1)
   case measure=>have:=HK.out;omega
   case rel=>exact ⟨k+1,a5,n5,p5,ae (by have:=HK.out;omega),by go_num,rfl,ae (by have:=HO5.out;rw [<-List.replicate_succ'] at this;exact this),X5⟩
  ·have hkm:k=m+bn:=by have:=HK.out;omega
   have hltI:¬ (k:Int)<(m:Int)+(bn:Int):=by omega
   have HKM:=ae hkm;have HO2:=ae (show OwnR wr1 w1.heap.size (.slice a1 n1 p1) (solN t 0) by rw [HS0.out,<-hkm];exact HO1.out);have c0:wr1.cell? ⟨w.heap.size,0,none⟩=some (.slice ra bn rc):=(X1.out.trans HX.out).cellSome (by simp);clear hkm;go_wp2_with fail
   go_loopg [26] bn (fun gk ii wr=>∃ (k:Nat),Hid (gk+k=bn)/\ii=.int .i64 (k:Int)/\Hid (OwnR wr w1.heap.size (.slice a1 n1 p1) (solN t k))/\Hid (Ext w1 wr))
   case atStart=>exact ⟨0,ae (by omega),rfl,HO2,HX⟩
   case round =>
    obtain ⟨g2,h_g2⟩:∃ x,x=gk:=⟨_,rfl⟩;subst h_g2;obtain ⟨wr2,h_wr2⟩:∃ x,x=wr:=⟨_,rfl⟩;subst h_wr2;obtain ⟨j,HJ,rfl,HO4,HX4⟩:=hrel;clear c0;by_cases hjl:j<bn
    ·obtain ⟨zb,zoff,ya,yn,yc,hza,hz0,hrow⟩:=(H1.out.ext HX4.out).rows.at hjl;subst hza;obtain ⟨u,hu⟩:∃ u,u=m+bn:=⟨_,rfl⟩;have hyn:yn=u+1:=by rw [<-hrow.hlen,hu];exact HRL.out j hjl
     have HYN:=ae hyn;have hy1:=hrow.hcap;have hy2:=hrow.hmax;have hub:u<=200000:=by omega
     obtain ⟨yb,yoff,p,q,hya,hpq,hy0c,hy1c⟩:=hrow.at (show u<yn by omega);subst hya;have HPQ:=ae (show t.at j u=(p,q) from hpq);obtain ⟨b,hb,hbl⟩:=HBS.out j hjl;have HB:=ae hb;obtain ⟨eb,eoff,hea,he0⟩:=(H1.out.ext HX4.out).basis.at hjl;subst hea;rw [hb] at he0;have hn1:n1=u:=by have:=HO4.out.rats.hlen;rw [HSL.out] at this;omega
     subst hn1;obtain ⟨G,hG,hbG,hfr,hGl⟩:=HO4.out.block (k:=b) (by omega);subst hG;obtain ⟨G',goff',g1v,g2v,hG',hgv,hg0,hg1⟩:=HO4.out.rats.at (show b<n1 by omega);simp only [Option.some.injEq,Addr.mk.injEq,and_true] at hG';obtain ⟨rfl,rfl⟩:=hG';rw [Nat.zero_add] at hg0 hg1;have c1:wr2.cell? ⟨w.heap.size,1,none⟩=some (.slice (some ⟨eb,eoff,none⟩) bn bc):=(X1.out.trans HX4.out).cellSome (by simp);have hwr:IntKind.i64.wrap ((yn:Int)-1)=(n1:Int):=by have:=HYN.out;rw [IntKind.wrap_i64];omega
     have hu1:(n1:Int)<(yn:Int):=by have:=HYN.out;omega
     have hu0:(0:Int)<=(n1:Int):=by omega
     have hb0:(0:Int)<=(b:Int):=by omega
     have hb1:(b:Int)<(n1:Int):=by omega
     have hj0:(0:Int)<=(j:Int):=by omega
     have hj1:(j:Int)<(bn:Int):=by omega
     have HU:=ae hu;clear hpq hrow hyn hb hgv hu;go_upto_region 11 with fail
     go_still_tail 13,(by kernel_rfl)
     have HO5:=ae (show OwnR ((wr2.drew.setCell ⟨G,b*2,none⟩ (.int .i64 p)).setCell ⟨G,b*2+1,none⟩ (.int .i64 q)) w1.heap.size (.slice (some ⟨G,0,none⟩) n1 p1) (solN t (j+1)) by
      have h1:=(HO4.out.ext (Ext.drew wr2)).set (k:=b) (by rw [HSL.out,<-HU.out];omega) p q;have h2:solN t (j+1)=(solN t j).set b (p,q):=by
       simp only [solN];rw [HB.out,Int.toNat_natCast,HCM.out,Int.toNat_natCast,HLR.out,<-HU.out,HPQ.out]
      rw [h2];exact h1)
     have HX5:=ae (((HX4.out.trans (Ext.drew wr2)).setCell (p:=⟨G,b*2,none⟩) hbG (.int .i64 p)).setCell (p:=⟨G,b*2+1,none⟩) hbG (.int .i64 q));clear hwr;go_wp2_with fail
     go_roundg (g2-1)
     case measure=>have:=HJ.out;omega
     case rel=>exact ⟨j+1,ae (by have:=HJ.out;omega),by go_num,HO5,HX5⟩
    ·have hjm:bn=j:=by have:=HJ.out;omega
     subst hjm;go_wp2_with fail;go_ret;exact ⟨⟨_,rfl,by rw [HSO.out];exact HO4.out.mono (by omega)⟩,(HX0.out.trans X1.out).trans HX4.out⟩
theorem qM {V:List Int} {n k:Nat} {v:Int} (hn:V.length=n) (h:k+1<n) (hv:V[k+1]?.getD 0=v):(dH V).take k++[(-v,1)]=(dH V).take (k+1):=by
 have h1:k+1<V.length:=by omega
 have h2:(dH V)[k]?=some (-v,1):=by
  unfold dH;rw [List.getElem?_eq_getElem h1,Option.getD_some] at hv;rw [List.getElem?_map,List.getElem?_drop,Nat.add_comm 1 k,List.getElem?_eq_getElem h1,hv];rfl
 have h3:k<(dH V).length:=(List.getElem?_eq_some_iff.1 h2).1;rw [List.take_succ_eq_append_getElem h3,(List.getElem?_eq_some_iff.1 h2).2]
set_option maxHeartbeats 4000000 in
theorem re {w:World} {a:Option Addr} {n cap:Nat} {Y:List (Int × Int)} (h:Rats w a n cap Y) (hn:n<=100000) (hY:∀ k:Nat,-9223372036854775807<=(Y[k]?.getD (0,0)).1/\(Y[k]?.getD (0,0)).1<=9223372036854775807) :
 Calls Tryz.prog 135 #[.slice a n cap] w fun e w'=>(∃ v,e=.returned v/\OwnR w' w.heap.size v (Y.map negR))/\Ext w w':=by
 have HL:=ae h.hlen;have hc1:=h.hcap;have hc2:=h.hmax;have HI:=ae h;have HB:=ae hY;have HO:=ae (OwnR.made w w.heap.size (Nat.le_refl _));clear h hY;go_enter Tryz.func135,Tryz.ntmps135
 go_wp2_with fail
 go_loopg [3,9] n (fun gk oo ii wr=>∃ (k:Nat) (a1:Option Addr) (n1 p1:Nat),Hid (gk+k=n)/\ii=.int .i64 (k:Int)/\oo=.slice a1 n1 p1/\Hid (OwnR wr w.heap.size (.slice a1 n1 p1) ((Y.take k).map negR))/\Hid (Ext w wr))
 case atStart=>exact ⟨0,_,_,_,ae (by omega),rfl,rfl,HO,ae (Ext.alloc _ _)⟩
 case round =>
  obtain ⟨g1,h_g1⟩:∃ x,x=gk:=⟨_,rfl⟩;subst h_g1;obtain ⟨wr1,h_wr1⟩:∃ x,x=wr:=⟨_,rfl⟩;subst h_wr1;obtain ⟨k,a1,n1,p1,HK,rfl,rfl,HO1,HX⟩:=hrel;have hsz:=HX.out.size;by_cases hlt:k<n
  ·obtain ⟨eb,eoff,x,y,hea,hxy,he0,he1⟩:=(HI.out.ext HX.out).at hlt;subst hea;have hb:=HB.out k;rw [hxy] at hb
   have HSN:=ae (show (Y.take k).map negR++[(-x,y)]=(Y.take (k+1)).map negR by
    have h1:k<Y.length:=by rw [HL.out];exact hlt
    rw [List.take_succ_eq_append_getElem h1,List.map_append,List.map_singleton];rw [List.getElem?_eq_getElem h1,Option.getD_some] at hxy
    rw [hxy];rfl)
   have hk0:(0:Int)<=(k:Int):=by omega
   have hk1:(k:Int)<(n:Int):=by omega
   have HTL:=ae (show ((Y.take k).map negR).length=k by rw [List.length_map,List.length_take,HL.out];omega);have HM:=ae (fun w'=>el x y w' hb.1 hb.2);clear hxy hb;go_wp2_with fail;refine (HM.out _).mono ?_;rintro e w3 ⟨rfl,hx⟩;have X3:=ae ((HX.out.trans (Ext.alloc _ _)).trans hx);have HO3:=ae ((HO1.out.ext (Ext.alloc _ _)).ext hx);have hs3:=X3.out.size;clear hx
   go_wp2_with (first
    | (at_builtin;refine aG rfl _ _ rfl w.heap.size (.slice a1 n1 p1) _ rfl (HO3.out.ext (Ext.alloc _ _)) _ 1 _ [(-x,y)] rfl (Rats.one' _ _ _ _ _ (by simp)) (by rw [HTL.out];omega) (by simp;omega) ?_;intro v5 w5 ho hg hnear;have X5:=ae (ak (X3.out.trans (Ext.alloc _ _)) hg (fun j hj=>(HO3.out.lt j hj).1));obtain ⟨a5,n5,p5,rfl,HN5⟩:=ho.var;have HO5:=ae ho;clear ho hg hnear))
   go_roundg (g1-1)
   case measure=>have:=HK.out;omega
   case rel=>exact ⟨k+1,a5,n5,p5,ae (by have:=HK.out;omega),by go_num,rfl,ae (by rw [<-HSN.out];exact HO5.out),X5⟩
  ·have HT:=ae (show Y.take k=Y from List.take_of_length_le (by rw [HL.out];omega));rw [HT.out] at HO1;go_wp2_with fail;go_ret;exact ⟨⟨_,rfl,HO1.out⟩,HX.out⟩
end Go.Proofs.YthjjfkeacobikaaGreat
