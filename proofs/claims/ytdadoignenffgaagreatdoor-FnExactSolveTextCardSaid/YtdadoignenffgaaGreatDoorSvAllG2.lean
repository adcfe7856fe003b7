import Derived.Test.YtdadoignenffgaaGreatDoorSvAllG0
import Derived.Test.YtdadoignenffgaaGreatDoorSvAllG1
import Derived.Deep.DeepCutAuto
import Derived.Deep.Cut
import Derived.Deep.RegionHeld3
import Derived.Outline
import Derived.Laws.IdiomStrings
import Derived.Lib.AppendIntMem
import Derived.Lib.ItoaLen
set_option linter.unusedVariables false
set_option linter.unusedSimpArgs false
namespace Go.Proofs.YtdadoignenffgaaGreatDoor
variable{w:World}
set_option maxHeartbeats 16000000
set_option maxRecDepth 100000
open Go.RowKit
def bs(l:List UInt8):ByteArray:=⟨l.toArray⟩
theorem bG(l E:List UInt8):bs l++bs E=bs (l++E):=by
 unfold bs
 apply ByteArray.ext
 simp
theorem aQ(l:List UInt8):(bs l).size=l.length:=by
 show(l.toArray).size=_;simp
def zK(m:Nat):List UInt8:=if m=0 then [] else Lib.decDigits m
theorem ji{m:Nat}(h:m≠0):zK m=zK (m/10)++[UInt8.ofNat (48+m % 10)]:=by
 unfold zK;rw[if_neg h,Lib.decDigits]
 split
 ·rename_i h1
  rw[if_pos e7,Nat.mod_eq_of_lt h1];rfl
 ·rw[if_neg e7]
theorem eS{w':World}{name:String}{k:IntKind}{zs:j7}(h:Lib.TabIs Tryz.prog w name k zs)(hx:Ext w w'):Lib.TabIs Tryz.prog w' name k zs:=Lib.tabBelow_of_tabIs h w' hx
theorem qH {w: World}(n : Nat)(hn : n <= 1000000)(ht : Lib.TabIs Tryz.prog w "internal/strconv.uint64pow10" .u64 Lib.pow10Tab) :
 Calls Tryz.prog 23 #[.int .i64 (n:Int)] w fun e w'=>e=.returned (.string (bs (Lib.decDigits n)))/\Ext w w':=by
 have HC:=ae (Any.strconv_Itoa ph (n:Int) e7 e7 w ht);go_enter Tryz.func23,Tryz.ntmps23
 go_wp2_with fail;refine HC.o.mono ?_;rintro e w' ⟨rfl,k,os,rfl⟩;have HX:=ae (show Ext w _ from Lib.below_grow _ w (Nat.le_refl _) k os);rw[Lib.itoa_nonneg];obtain⟨W,hW⟩:=b9 (Sort.grow (w.drewN k) os);rw[<-hW]at HX;rw[<-hW];clear hW;go_wp2_with fail;go_ret;exact⟨rfl,HX.o⟩
theorem bS{a b:ByteArray}(h:a=b):Ending.returned (.string a)=Ending.returned (.string b):=by rw[h]
theorem gL(x:UInt8){y:Int}(hy:(x.toNat:Int)=y):(convert 26 9 (.slice (some ⟨w.heap.size,0,none⟩) 1 1)).run Tryz.prog (w.alloc (.cells #[.int .u8 y] 5))=.ok (.string (bs [x])) (w.alloc (.cells #[.int .u8 y] 5)):=by
 subst hy
 exact run_convert_bytes_back (P:=Tryz.prog) (w.alloc (.cells #[.int .u8 (x.toNat:Int)] 5)) 26 9 5 ⟨w.heap.size,0,none⟩ 1 [x] Tryz.underlying26 Tryz.underlying5 Tryz.underlying9 (fun j hj=>by
  obtain rfl:j=0:=by simp at hj;omega
  simp[Addr.add])
theorem qR(n:Nat)(hn:n<=1000000):
 Calls Tryz.prog 16 #[.int .i64 (n:Int)] w fun e w'=>e=.returned (.string (bs (Lib.decDigits n)))/\Ext w w':=by
 by_cases h0:n=0
 ·subst h0;have HZ:=ae (show bs (Lib.decDigits 0)={ data:=#[48] } by rw[Lib.decDigits_one e7];rfl);go_enter Tryz.func16,Tryz.ntmps16
  go_wp2_with fail;go_ret;exact⟨bS HZ.o.symm,Ext.refl _⟩
 have hz:((n:Int) == 0)=false:=by simp;omega
 have P3:¬(n:Int)<0:=by omega
 have hlen:(Lib.decDigits n).length<=21:=by
  have:=Lib.itoa_length_le (n:Int) e7 e7
  rwa [Lib.itoa_nonneg]at this
 have HL:=ae hlen;have HD:=ae (show zK n++[]=Lib.decDigits n by unfold zK;rw[if_neg h0,List.append_nil]);clear hlen;go_enter Tryz.func16,Tryz.ntmps16
 go_wp2_with fail
 go_loopg [0,4] n (fun gk nn oo wr=>∃(m:Nat) (l:List UInt8),b7 (m<=gk)/\nn=.int .i64 (m:Int)/\oo=.string (bs l)/\b7 (zK m++l=Lib.decDigits n)/\b7 (Ext w wr)/\b7 (m<=1000000))
 case atStart=>exact⟨n,[],ae (Nat.le_refl _),rfl,rfl,HD,ae (Ext.refl _),ae hn⟩
 case round =>
  obtain⟨g1,I⟩:=b9 gk;subst I;obtain⟨wr,G⟩:=b9 wr;subst G;obtain⟨m,l,HM,rfl,rfl,E,HX,J⟩:=hrel;by_cases Cu:m=0
  ·subst Cu;have HF:=ae (show bs l=bs (Lib.decDigits n)by rw[<-E.o];rfl);go_wp2_with fail;go_ret;exact⟨bS HF.o,HX.o⟩
  ·have M4:((m:Int) != 0)=true:=by simp;omega
   have hm6:m<=1000000:=J.o;have K:Int.tmod (m:Int) 10=((m % 10:Nat):Int):=by rw[Int.tmod_eq_emod_of_nonneg e7];omega
   have hdiv:Int.tdiv (m:Int) 10=((m/10:Nat):Int):=by rw[Int.tdiv_eq_ediv_of_nonneg e7];omega
   obtain⟨d,hd⟩:=b9 (m % 10);obtain⟨q,hq⟩:=b9 (m/10);rw[<-hd]at K;rw[<-hq]at hdiv;have TB:d<10:=by omega
   obtain⟨x,hx⟩:=b9 (UInt8.ofNat (48+d));have HS:=ae (show zK m=zK q++[x]by rw[hx,hd,hq];exact ji Cu);have hqm:q<m:=by omega
   have RK:l.length<=21:=by
    have h1:=HL.o;rw[<-E.o,List.length_append]at h1;omega
   have Ni:¬(d:Int)<0:=by omega
   have FV:IntKind.u8.wrap (48+(d:Int))=48+(d:Int):=by rw[IntKind.wrap_u8];omega
   have Cn:IntKind.i64.wrap (48+(d:Int))=48+(d:Int):=by rw[IntKind.wrap_i64];omega
   have hwq:IntKind.i64.wrap (q:Int)=(q:Int):=by rw[IntKind.wrap_i64];omega
   have hcv:=gL (w:=wr) x (y:=48+(d:Int)) (by rw[hx,UInt8.toNat_ofNat'];omega);have F6:¬9223372036854775807<(bs [x]).size+(bs l).size:=by rw[aQ,aQ];simp;omega
   have HA:=ae (bG [x] l);clear hd hq hx;clear Cu;go_wp2_with fail;rw[HA.o]
   go_roundg (g1-1)
   case measure=>have:=HM.o;omega
   case rel=>exact⟨q,[x]++l,ae (j1 HM.o),rfl,rfl,ae (by rw[<-List.append_assoc,<-HS.o];exact E.o),ae (HX.o.trans (Ext.alloc _ _)),ae e7⟩
structure dV(w:World)(a:j6)(n cap:Nat)(L:j5):Prop where
 hlen:L.length=n
 l8:n<=cap
 o0:cap<=9223372036854775807
 cell:∀k,k<n->∃b off,a=some ⟨b,off,none⟩/\∀k,k<n->∃a' n' c',w.cell? ⟨b,off+k,none⟩=some (.slice a' n' c')/\Ints w a' n' c' (L[k]?.getD [])
theorem dV.ext{w':World}{a:j6}{n cap:Nat}{L:j5}(h:dV w a n cap L)(hx:Ext w w'):dV w' a n cap L :=
 ⟨h.hlen,h.l8,h.o0,fun k hk=>let⟨b,off,e,hc⟩:=h.cell k hk;⟨b,off,e,fun k hk=>let⟨I,E,G,h1,h2⟩:=hc k hk;⟨I,E,G,hx.j9 h1,h2.ext hx⟩⟩⟩
theorem dV.at{a:j6}{n cap:Nat}{L:j5}(h:dV w a n cap L){k:Nat}(hk:k<n):
 ∃b off a' n' c',a=some ⟨b,off,none⟩/\w.cell? ⟨b,off+k,none⟩=some (.slice a' n' c')/\Ints w a' n' c' (L[k]?.getD []) :=
 let⟨b,off,e,hc⟩:=h.cell k hk;let⟨a',n',c',h1,h2⟩:=hc k hk;⟨b,off,a',n',c',e,h1,h2⟩
theorem eT{α:Type}{L:List (List α)}{k:Nat}(h:k<L.length):L.take (k+1)=L.take k++[L[k]?.getD []]:=by
 rw[List.take_succ_eq_append_getElem h];simp[h]
theorem Tryz.JB:(Tryz.prog.info? 30).map (fun i=>(i.zero,i.size,i.bytes))=some (some (.slice none 0 0),1,24):=by kernel_rfl
def Filled(w:World)(B:Nat)(vs:List Value)(L:j5)(k:Nat):Prop :=
 ∀j,j<k->∃b m,vs[j]?=some (.slice (some ⟨b,0,none⟩) m m)/\B<b/\(L[j]?.getD []).length=m/\Row w b 3 (L[j]?.getD [])
end Go.Proofs.YtdadoignenffgaaGreatDoor
