import Derived.Test.YtdadoignenffgaaGreatDoorSvAllG2
import Derived.Test.YtdadoignenffgaaGreatDoorSvAllG3
import Derived.Deep.RegionWith
set_option linter.unusedVariables false
set_option linter.unusedSimpArgs false
namespace Go.Proofs.YtdadoignenffgaaGreatDoor
set_option maxHeartbeats 16000000
open Go.RowKit
def Cj(s:Int)(m:Nat):List Nat:=(List.range m).filter fun(k:Nat)=>bit s k
def Br(s:Int)(m:Nat):j7:=(Cj s m).map fun(k:Nat)=>(k:Int)
theorem nv(s:Int)(m:Nat):Br s (m+1)=Br s m++(if bit s m then [(m:Int)] else []):=by
 unfold Br Cj;cases h:bit s m<;>simp[List.range_succ,h]
theorem pz(s:Int)(m:Nat):(Br s m).length<=m:=by
 unfold Br Cj
 simpa using List.length_filter_le (fun(k:Nat)=>bit s k) (List.range m)
theorem MD(s:Int)(i:Nat)(h:i<(Br s 5).length):∃k:Nat,(Br s 5)[i]?.getD 0=(k:Int)/\k<5/\bit s k=true/\(Cj s 5)[i]?=some k:=by
 have h':i<(Cj s 5).length:=by simpa[Br]using h
 refine⟨(Cj s 5)[i],?_,?_⟩
 ·simp[Br,h']
 ·have hm:(Cj s 5)[i]∈Cj s 5:=List.getElem_mem h';have h2:=List.mem_filter.1 hm;exact⟨List.mem_range.1 h2.1,h2.2,by simp[h']⟩
theorem qJ(s:Nat)(hs:s<32)(w:World):
 Calls Tryz.prog 153 #[.int .i64 (s:Int)] w fun e w'=>∃v,e=.returned v/\o5 w' w.heap.size v (Br (s:Int) 5)/\Ext w w':=by
 have wq:r' (s:Int) 0 31=true:=by unfold r';simp;omega
 have HO:=ae (o5.made w w.heap.size (Nat.le_refl _));go_enter Tryz.func153,Tryz.ntmps153
 go_wp2_with (first|(go_at_call 61;refine(aJ _ _ _ _).mono ?_;rintro e w' ⟨rfl,rfl⟩))
 go_loopw [9,3] (fun i o wr=>∃(k:Nat) (a1:j6) (E c1:Nat),k<=5/\i=.int .i64 (k:Int)/\o=.slice a1 E c1/\b7 (o5 wr w.heap.size (.slice a1 E c1) (Br (s:Int) k))/\b7 (Ext w wr)) (fun i _ _=>5-(intOf i).toNat)
 case atStart=>exact⟨0,_,_,_,Nat.zero_le _,rfl,rfl,HO,ae (Ext.alloc _ _)⟩
 case round =>
  obtain⟨k,a1,E,c1,hk,rfl,rfl,vw,vh⟩:=hrel;have hsz:=vh.o.size;by_cases hlt:k<5
  ·have HB:=ae (gR (s:Int) k e7 e7);cases hbit:bit (s:Int) k
   ·rw[hbit]at HB;have HS:=ae hbit;clear hbit;go_wp2_with (first|(go_at_call 133;refine(fH _ _ _ e7).mono ?_;rw[HB.o];rintro e w3 ⟨rfl,rfl⟩))
    go_roundw
    case rel=>exact⟨k+1,a1,E,c1,by omega,by go_num,rfl,ae (by rw[nv,HS.o];simpa using vw.o),vh⟩
    case measure=>simp[intOf];omega
   ·rw[hbit]at HB;have HS:=ae hbit;clear hbit
    go_wp2_with (first
     | (go_at_call 133;refine(fH _ _ _ e7).mono ?_;rw[HB.o];rintro e w3 ⟨rfl,rfl⟩)
     | (at_builtin;refine bv rfl _ _ rfl w.heap.size (.slice a1 E c1) _ rfl (vw.o.ext (Ext.alloc _ _)) _ 1 _ [(k:Int)] rfl (Ints.one _ _ _) (j1 (pz (s:Int) k)) (by simp;omega) ?_;intro v2 w3 ho hg l7;obtain⟨a2,I,c2,rfl,ED⟩:=ho.var;have G:=ae ho;have K:=ae hg;clear ho hg l7))
    go_roundw
    case rel =>
     refine⟨k+1,a2,I,c2,by omega,by go_num,rfl,ae ?_,ae ?_⟩
     ·rw[nv,HS.o];exact G.o
     ·exact ak (vh.o.trans (Ext.alloc _ _)) K.o (fun j hj=>(vw.o.lt j hj).1)
    case measure=>simp[intOf];omega
  ·have J:k=5:=by omega
   subst J
   go_wp2
   go_ret;exact⟨_,rfl,vw.o,vh.o⟩
set_option maxRecDepth 100000
theorem uG(s:Int)(w:World):Calls Tryz.prog 157 #[.int .i64 s] w fun e w'=>e=.returned (.bool (r' s 0 31))/\w=w':=by
 go_enter Tryz.func157,Tryz.ntmps157
 go_wp2_with (first|(go_at_call 45;refine(bm _ _ _ _).mono ?_;rintro e w' ⟨rfl,rfl⟩));go_ret;exact⟨rfl,rfl⟩
def zW(s:Int)(m:Nat):List UInt8:=(Cj s m).map fun k=>UInt8.ofNat (97+k)
theorem bL(l:List UInt8):(bs l).toList=l:=ByteArray.toList_mk l
theorem tY(s:Int)(m:Nat):zW s (m+1)=zW s m++(if bit s m then [UInt8.ofNat (97+m)] else []):=by
 unfold zW Cj;rw[List.range_succ,List.filter_append,List.map_append];cases hb:bit s m
 ·simp[List.filter_cons,hb]
 ·simp[List.filter_cons,hb]
theorem ps(s:Int)(m:Nat):(zW s m).length<=m:=by
 unfold zW Cj;rw[List.length_map];exact Nat.le_trans (List.length_filter_le _ _) e8
def cg(s:Int):List UInt8:=if zW s 5=[] then [45] else zW s 5
theorem jg(s:Int):(cg s).length<=5:=by
 unfold cg
 split
 ·simp
 ·exact ps s 5
theorem fV{w:World}(s:Nat)(hs:s<32):
 Calls Tryz.prog 93 #[.int .i64 (s:Int)] w fun e w'=>e=.returned (.string (bs (cg (s:Int))))/\Ext w w':=by
 have wq:r' (s:Int) 0 31=true:=by unfold r';simp;omega
 have HG:=ae (fun w'=>uG (s:Int) w');rw[wq]at HG;clear wq;go_enter Tryz.func93,Tryz.ntmps93
 go_wp2_with fail;refine(HG.o _).mono ?_;rintro e w1 ⟨rfl,rfl⟩;go_wp2_with fail
 go_loopg [3,4] 5 (fun gk oo kk wr=>∃(k:Nat),b7 (gk+k=5)/\kk=.int .i64 (k:Int)/\oo=.string (bs (zW (s:Int) k))/\b7 (Ext w wr))
 case atStart=>exact⟨0,ae rfl,rfl,rfl,ae (Ext.refl _)⟩
 case round =>
  obtain⟨g1,K⟩:=b9 gk;subst K;obtain⟨wr,J⟩:=b9 wr;subst J;obtain⟨k,G,rfl,rfl,HX⟩:=hrel;have xg:=ae (ps (s:Int) k);by_cases hlt:k<5
  ·have HP:=ae (eg (s:Int) (k:Int) wr e7);have HB:=ae (gR (s:Int) k e7 e7);have HS:=ae (tY (s:Int) k);cases hb:bit (s:Int) k
   ·rw[HB.o,hb]at HP;rw[hb]at HS;clear hb;go_wp2_with fail;refine HP.o.mono ?_;rintro e w' ⟨rfl,rfl⟩;go_wp2_with fail
    go_roundg (g1-1)
    case measure=>have:=G.o;omega
    case rel=>exact⟨k+1,ae (j1 G.o),by go_num,by rw[HS.o];simp,HX⟩
   ·rw[HB.o,hb]at HP;rw[hb]at HS;clear hb;go_wp2_with fail;refine HP.o.mono ?_;rintro e w' ⟨rfl,rfl⟩;have O:k=0∨k=1∨k=2∨k=3∨k=4:=by omega
    obtain⟨I,E⟩:=b9 (bs (zW (s:Int) k));have HT:=ae E;rw[<-E];clear E;have F6:¬9223372036854775807<I.size+1:=by rw[HT.o,aQ];have:=xg.o;omega
    rcases O with rfl|rfl|rfl|rfl|rfl
    all_goals
     go_wp2_with fail
     go_roundg (g1-1)
     case measure=>have:=G.o;omega
     case rel =>
      refine⟨_+1,ae (j1 G.o),rfl,?_,HX⟩;rw[HS.o,if_pos trivial,<-bG,<-HT.o]
      rfl
  ·have Q:k=5:=by have:=G.o;omega
   subst Q;obtain⟨I,E⟩:=b9 (bs (zW (s:Int) 5));have HT:=ae E;rw[<-E];clear E;go_wp2_with fail
   ·rename_i h
    go_ret;refine⟨bS ?_,HX.o⟩;have h2:zW (s:Int) 5=[]:=by rw[HT.o,bL]at h;exact List.isEmpty_iff.1 h
    unfold cg;rw[if_pos h2]
    rfl
   ·rename_i h
    go_ret;refine⟨bS ?_,HX.o⟩;have h2:zW (s:Int) 5≠[]:=fun e=>by rw[HT.o,bL,e]at h;exact absurd h (by decide)
    unfold cg;rw[if_neg h2];exact HT.o
theorem fU{w:World}(s:Nat)(hs:s<32):
 Calls Tryz.prog 90 #[.int .i64 (s:Int)] w fun e w'=>e=.returned (.string (bs (cg (s:Int))))/\Ext w w':=by
 have wq:r' (s:Int) 0 31=true:=by unfold r';simp;omega
 have HM:=ae (qJ s hs w);obtain⟨L,I⟩:=b9 (Br (s:Int) 5)
 have IC:=ae (show zW (s:Int) 5=L.map (fun k=>UInt8.ofNat (97+k.toNat))by
  rw[I];unfold Br zW;rw[List.map_map];rfl)
 have xg:=ae (show L.length<=5 by rw[I];exact pz _ _)
 have xi:=ae (show∀i,i<L.length->∃k:Nat,L[i]?.getD 0=(k:Int)/\k<5 from fun i hi=>by
  rw[I]at hi⊢;obtain⟨k,h1,h2,_⟩:=MD (s:Int) i hi
  exact⟨k,h1,h2⟩)
 rw[<-I]at HM;clear I;go_enter Tryz.func90,Tryz.ntmps90
 go_wp2_with (first|(go_at_call 61;refine(aJ _ _ _ _).mono ?_;rw[wq];rintro e w' ⟨rfl,rfl⟩));refine HM.o.mono ?_;rintro e w1 ⟨v,rfl,K,hx⟩;obtain⟨a1,E,c1,rfl,HN⟩:=K.var;have HI:=ae K.ints;have OB:E<=5:=by have:=HN.o;have:=xg.o;omega
 have vh:=ae hx;clear K hx;go_wp2_with fail
 go_loopg [3,12] E (fun gk oo kk wr=>∃(k:Nat),b7 (gk+k=E)/\kk=.int .i64 (k:Int)/\oo=.string (bs ((L.map (fun k=>UInt8.ofNat (97+k.toNat))).take k))/\b7 (Ext w1 wr))
 case atStart=>exact⟨0,ae e7,rfl,rfl,ae (Ext.refl _)⟩
 case round =>
  obtain⟨g1,o6⟩:=b9 gk;subst o6;obtain⟨wr,U⟩:=b9 wr;subst U;obtain⟨k,O,rfl,rfl,HX⟩:=hrel;by_cases hlt:k<E
  ·obtain⟨b,off,rfl,hc⟩:=(HI.o.ext HX.o).at hlt;obtain⟨j,J,hj5⟩:=xi.o k (by rw[HN.o];exact hlt);rw[J]at hc;have Aq:(k:Int)<(E:Int):=by omega
   have BU:(0:Int)<=(k:Int):=by omega
   obtain⟨x,hx⟩:=b9 (UInt8.ofNat (97+j));obtain⟨M,G⟩:=b9 (L.map (fun k=>UInt8.ofNat (97+k.toNat)))
   have Ur:=ae (show M.take (k+1)=M.take k++[x]by
    have Ab:k<M.length:=by rw[G,List.length_map,HN.o];exact hlt
    rw[List.take_succ_eq_append_getElem Ab];have XS:k<L.length:=by rw[HN.o];exact hlt
    have h1:L[k]=(j:Int):=by rw[List.getElem?_eq_getElem XS,Option.getD_some]at J;exact J
    simp only[G,List.getElem_map,h1,hx,Int.toNat_natCast])
   have FV:IntKind.u8.wrap (97+(j:Int))=97+(j:Int):=by rw[IntKind.wrap_u8];omega
   have Cn:IntKind.i64.wrap (97+(j:Int))=97+(j:Int):=by rw[IntKind.wrap_i64];omega
   have hcv:=gL (w:=wr) x (y:=97+(j:Int)) (by rw[hx,UInt8.toNat_ofNat'];omega);have F6:¬9223372036854775807<(bs (M.take k)).size+(bs [x]).size:=by
    rw[aQ,aQ];have:(M.take k).length<=k:=by rw[List.length_take];omega
    simp;omega
   rw[<-G];have HA:=ae (bG (M.take k) [x]);have Fl:=ae G;clear hx J G;go_wp2_with fail;rw[HA.o]
   go_roundg (g1-1)
   case measure=>have:=O.o;omega
   case rel=>exact⟨k+1,ae (j1 O.o),by go_num,by rw[<-Fl.o,Ur.o],ae (HX.o.trans (Ext.alloc _ _))⟩
  ·have W:E=k:=by have:=O.o;omega
   subst W;obtain⟨Z,Q⟩:=b9 (bs ((L.map (fun k=>UInt8.ofNat (97+k.toNat))).take E));have HT:=ae (show Z=bs (zW (s:Int) 5)by rw[Q,IC.o,List.take_of_length_le (by rw[List.length_map,HN.o];omega)]);rw[<-Q];clear Q;go_wp2_with fail
   ·rename_i h
    go_ret;refine⟨bS ?_,vh.o.trans HX.o⟩;have h2:zW (s:Int) 5=[]:=by rw[HT.o,bL]at h;exact List.isEmpty_iff.1 h
    unfold cg;rw[if_pos h2]
    rfl
   ·rename_i h
    go_ret;refine⟨bS ?_,vh.o.trans HX.o⟩;have h2:zW (s:Int) 5≠[]:=fun e=>by rw[HT.o,bL,e]at h;exact absurd h (by decide)
    unfold cg;rw[if_neg h2];exact HT.o
end Go.Proofs.YtdadoignenffgaaGreatDoor
