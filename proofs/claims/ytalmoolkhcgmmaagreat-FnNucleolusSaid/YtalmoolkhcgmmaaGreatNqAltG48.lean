import Derived.Test.YtalmoolkhcgmmaaGreatNqAltG10
import Derived.Shelf.SlSortCmp.NoneTotal
import Derived.Test.YtalmoolkhcgmmaaGreatProg
import Derived.Test.YtalmoolkhcgmmaaGreatNqAltG34
import Derived.Test.YtalmoolkhcgmmaaGreatNqAltG6
import Derived.Test.YtalmoolkhcgmmaaGreatNqAltG4
import Derived.Test.YtalmoolkhcgmmaaGreatNqAltG15
import Derived.Lib.SliceRun
set_option linter.unusedVariables false
set_option linter.unusedSimpArgs false
namespace Go.Proofs.YtalmoolkhcgmmaaGreat
variable{w:World}{l:j6}{base g n:Nat}
set_option maxHeartbeats 16000000
set_option maxRecDepth 100000
open Go.RowKit
structure FY(w w':World):Prop where
 ext:Ext w w'
 dr:w.drawn<=w'.drawn
theorem FY.trans{a b c:World}(h:FY a b)(k:FY b c):FY a c:=⟨h.ext.trans k.ext,Nat.le_trans h.dr k.dr⟩
theorem FY.alloc(w:World)(o:Obj):FY w (w.alloc o):=⟨Ext.alloc w o,Nat.le_refl _⟩
theorem yd.Z4{w':World}(h:yd w w'):FY w w':=⟨h.ext,by obtain⟨m,rfl⟩:=h;exact Nat.le_add_right _ _⟩
theorem eS(x y:Int)(w:World):
 Calls Tryz.prog 103 #[xO x y] w fun e w'=>e=.returned (.bool (o5 (x,y)))/\FY w w':=by
 have HX:=ae (FY.alloc w (.cells #[.int .i64 x,.int .i64 y] 46));cases h1:wJ y 1 1000000000
 ·have H1:=ae h1;clear h1;go_enter Tryz.func103,Tryz.ntmps103
  go_wp2_with fail;refine(aK _ _ _ _).mono ?_;rw[H1.o];rintro e w1 ⟨rfl,rfl⟩
  go_wp2
  go_ret;exact⟨ag (by simp[o5,H1.o]),HX.o⟩
 ·have H1:=ae h1;have hy:xr y:=by simp only[wJ,Bool.and_eq_true,decide_eq_true_eq]at h1;exact⟨by omega,by omega⟩
  clear h1;cases h2:wJ x (-1000000000) 1000000000
  ·have H2:=ae h2;clear h2;go_enter Tryz.func103,Tryz.ntmps103
   go_wp2_with fail;refine(aK _ _ _ _).mono ?_;rw[H1.o];rintro e w1 ⟨rfl,rfl⟩;go_wp2_with fail;refine(aK _ _ _ _).mono ?_;rw[H2.o];rintro e w1 ⟨rfl,rfl⟩
   go_wp2
   go_ret;exact⟨ag (by simp[o5,H2.o]),HX.o⟩
  ·have H2:=ae h2;have hx:xr x:=by simp only[wJ,Bool.and_eq_true,decide_eq_true_eq]at h2;exact⟨by omega,by omega⟩
   clear h2;have HC:=ae (iy x y (w.alloc (.cells #[.int .i64 x,.int .i64 y] 46)) hx hy);go_enter Tryz.func103,Tryz.ntmps103
   go_wp2_with fail;refine(aK _ _ _ _).mono ?_;rw[H1.o];rintro e w1 ⟨rfl,rfl⟩;go_wp2_with fail;refine(aK _ _ _ _).mono ?_;rw[H2.o];rintro e w1 ⟨rfl,rfl⟩;go_wp2_with fail;refine HC.o.mono ?_;rintro e w1 ⟨rfl,hd⟩
   go_wp2
   go_ret;exact⟨ag (by simp only[o5,H1.o,H2.o];by_cases h:gI x y=1<;>simp[h]),HX.o.trans (yd.Z4 hd)⟩
theorem uf(x y u v:Int)(w:World):
 Calls Tryz.prog 98 #[xO x y,xO u v] w fun e w'=>e=.returned (.int .i64 (wU (x,y) (u,v)))/\FY w w':=by
 have HX:=ae (show FY w ((w.alloc (.cells #[.int .i64 x,.int .i64 y] 46)).alloc (.cells #[.int .i64 u,.int .i64 v] 46))from(FY.alloc _ _).trans (FY.alloc _ _));cases ha:o5 (x,y)
 ·have HA:=ae ha;have HR:=ae (show wU (x,y) (u,v)=0 by simp[wU,ha]);clear ha;go_enter Tryz.func98,Tryz.ntmps98
  go_wp2_with fail;refine(eS x y _).mono ?_;rw[HA.o];rintro e w1 ⟨rfl,hx⟩;obtain⟨I,G⟩:=zO hx.ext;obtain⟨a0,a1,J⟩:=ah I;obtain⟨K,b1,fb⟩:=ah G;have X1:=ae hx;clear hx I G
  go_wp2
  go_ret;exact⟨aU HR.o.symm,HX.o.trans X1.o⟩
 cases hb:o5 (u,v)
 ·have HA:=ae ha;have HB:=ae hb;have HR:=ae (show wU (x,y) (u,v)=0 by simp[wU,hb]);clear ha hb;go_enter Tryz.func98,Tryz.ntmps98
  go_wp2_with fail;refine(eS x y _).mono ?_;rw[HA.o];rintro e w1 ⟨rfl,hx⟩;obtain⟨I,G⟩:=zO hx.ext;obtain⟨a0,a1,J⟩:=ah I;obtain⟨K,b1,fb⟩:=ah G;have X1:=ae hx;clear hx I G;go_wp2_with fail;refine(eS u v _).mono ?_;rw[HB.o];rintro e w2 ⟨rfl,hx⟩;clear a0 a1 J K b1 fb;have X2:=ae (X1.o.trans hx);obtain⟨I,G⟩:=zO X2.o.ext;obtain⟨a0,a1,J⟩:=ah I;obtain⟨K,b1,fb⟩:=ah G;clear hx I G
  go_wp2
  go_ret;exact⟨aU HR.o.symm,HX.o.trans X2.o⟩
 have HA:=ae ha;have HB:=ae hb;obtain⟨x1,x2,y1,y2⟩:=de ha;obtain⟨u1,u2,v1,v2⟩:=de hb;have U:xr (x*v):=dw b9 b9;have R:xr (u*y):=dw b9 b9;obtain⟨e1,g1⟩:=bz U;obtain⟨e2,g2⟩:=bz R;have hR:wU (x,y) (u,v)=(if x*v<u*y then -1 else if u*y<x*v then 1 else 0):=by simp[wU,ha,hb]
 obtain⟨P,hP⟩:=b8 (x*v);obtain⟨Q,O⟩:=b8 (u*y);rw[<-hP,<-O]at hR;rw[<-hP]at e1 g1;rw[<-O]at e2 g2;have HR:=ae hR;have hP':=hP.symm;have hQ':=O.symm;clear ha hb hR U R hP O;by_cases h1:P<Q
 ·go_enter Tryz.func98,Tryz.ntmps98
  go_wp2_with fail;refine(eS x y _).mono ?_;rw[HA.o];rintro e w1 ⟨rfl,hx⟩;obtain⟨I,G⟩:=zO hx.ext;obtain⟨a0,a1,J⟩:=ah I;obtain⟨K,b1,fb⟩:=ah G;have X1:=ae hx;clear hx I G;go_wp2_with fail;refine(eS u v _).mono ?_;rw[HB.o];rintro e w2 ⟨rfl,hx⟩;clear a0 a1 J K b1 fb;have X2:=ae (X1.o.trans hx);obtain⟨I,G⟩:=zO X2.o.ext;obtain⟨a0,a1,J⟩:=ah I;obtain⟨K,b1,fb⟩:=ah G;clear hx I G
  go_wp2
  go_quiet (fail)
  go_wp2
  go_ret;exact⟨aU (by rw[HR.o,if_pos b9]),HX.o.trans (X2.o.trans (yd.Z4 ⟨_,rfl⟩))⟩
 by_cases h2:Q<P
 ·go_enter Tryz.func98,Tryz.ntmps98
  go_wp2_with fail;refine(eS x y _).mono ?_;rw[HA.o];rintro e w1 ⟨rfl,hx⟩;obtain⟨I,G⟩:=zO hx.ext;obtain⟨a0,a1,J⟩:=ah I;obtain⟨K,b1,fb⟩:=ah G;have X1:=ae hx;clear hx I G;go_wp2_with fail;refine(eS u v _).mono ?_;rw[HB.o];rintro e w2 ⟨rfl,hx⟩;clear a0 a1 J K b1 fb;have X2:=ae (X1.o.trans hx);obtain⟨I,G⟩:=zO X2.o.ext;obtain⟨a0,a1,J⟩:=ah I;obtain⟨K,b1,fb⟩:=ah G;clear hx I G
  go_wp2
  go_quiet (fail)
  go_wp2
  go_ret;exact⟨aU (by rw[HR.o,if_neg b9,if_pos b9]),HX.o.trans (X2.o.trans (yd.Z4 ⟨_,rfl⟩))⟩
 ·go_enter Tryz.func98,Tryz.ntmps98
  go_wp2_with fail;refine(eS x y _).mono ?_;rw[HA.o];rintro e w1 ⟨rfl,hx⟩;obtain⟨I,G⟩:=zO hx.ext;obtain⟨a0,a1,J⟩:=ah I;obtain⟨K,b1,fb⟩:=ah G;have X1:=ae hx;clear hx I G;go_wp2_with fail;refine(eS u v _).mono ?_;rw[HB.o];rintro e w2 ⟨rfl,hx⟩;clear a0 a1 J K b1 fb;have X2:=ae (X1.o.trans hx);obtain⟨I,G⟩:=zO X2.o.ext;obtain⟨a0,a1,J⟩:=ah I;obtain⟨K,b1,fb⟩:=ah G;clear hx I G
  go_wp2
  go_quiet (fail)
  go_wp2
  go_ret;exact⟨aU (by rw[HR.o,if_neg b9,if_neg b9]),HX.o.trans (X2.o.trans (yd.Z4 ⟨_,rfl⟩))⟩
open Go.Shelf
def LP:Go.Shelf.Ren:=⟨fun|6=>145|15=>166|14=>165|28=>186|29=>187|20=>178|21=>179|22=>180|23=>181|24=>182|25=>183|26=>184|27=>185|46=>191|47=>192|48=>193|49=>194|50=>195|57=>196|n=>n,fun|22=>27|24=>46|25=>118|3=>3|39=>147|0=>0|53=>173|55=>175|4=>4|46=>166|45=>165|50=>170|5=>5|9=>9|66=>178|70=>182|76=>184|77=>185|n=>n,fun|n=>n⟩
theorem layR:Go.Proofs.SlLaysF0.n6 Tryz.prog LP:={
 mixed:=by kernel_rfl
 f6:=⟨Tryz.f145.name,by decide,Tryz.func145.trans (congrArg some e8)⟩
 f14:=⟨Tryz.f165.name,by decide,Tryz.func165.trans (congrArg some e8)⟩
 f15:=Tryz.func166.trans (congrArg some e8)
 f20:=⟨Tryz.f178.name,by decide,Tryz.func178.trans (congrArg some e8)⟩
 f21:=⟨Tryz.f179.name,by decide,Tryz.func179.trans (congrArg some e8)⟩
 f22:=⟨Tryz.f180.name,by decide,Tryz.func180.trans (congrArg some e8)⟩
 f23:=⟨Tryz.f181.name,by decide,Tryz.func181.trans (congrArg some e8)⟩
 f24:=⟨Tryz.f182.name,by decide,Tryz.func182.trans (congrArg some e8)⟩
 f25:=⟨Tryz.f183.name,by decide,Tryz.func183.trans (congrArg some e8)⟩
 f26:=⟨Tryz.f184.name,by decide,Tryz.func184.trans (congrArg some e8)⟩
 f27:=⟨Tryz.f185.name,by decide,Tryz.func185.trans (congrArg some e8)⟩
 f28:=Tryz.func186.trans (congrArg some e8)
 f29:=Tryz.func187.trans (congrArg some e8)
 f46:=⟨Tryz.f191.name,by decide,Tryz.func191.trans (congrArg some e8)⟩
 f47:=Tryz.func192.trans (congrArg some e8)
 f48:=Tryz.func193.trans (congrArg some e8)
 f49:=⟨Tryz.f194.name,by decide,Tryz.func194.trans (congrArg some e8)⟩
 f50:=⟨Tryz.f195.name,by decide,Tryz.func195.trans (congrArg some e8)⟩
 f57:=⟨Tryz.f196.name,by decide,Tryz.func196.trans (congrArg some e8)⟩
 t0:=Tryz.underlying0
 a0:=Tryz.isAgg0
 z0:=Tryz.sizeOf0
 v0:=Tryz.zeroValue0
 t3:=Tryz.underlying3
 a3:=Tryz.isAgg3
 z3:=Tryz.sizeOf3
 v3:=Tryz.zeroValue3
 t4:=Tryz.underlying4
 a4:=Tryz.isAgg4
 z4:=Tryz.sizeOf4
 v4:=Tryz.zeroValue4
 t5:=Tryz.underlying5
 a5:=Tryz.isAgg5
 z5:=Tryz.sizeOf5
 v5:=Tryz.zeroValue5
 t9:=Tryz.underlying9
 a9:=Tryz.isAgg9
 z9:=Tryz.sizeOf9
 v9:=Tryz.zeroValue9
 t22:=Tryz.underlying27
 a22:=Tryz.isAgg27
 z22:=Tryz.sizeOf27
 v22:=Tryz.zeroValue27
 t25:=Tryz.underlying118
 a25:=Tryz.isAgg118
 z25:=Tryz.sizeOf118
 v25:=Tryz.zeroValue118
 t39:=Tryz.underlying147
 a39:=Tryz.isAgg147
 z39:=Tryz.sizeOf147
 v39:=Tryz.zeroValue147
 t45:=Tryz.underlying165
 a45:=Tryz.isAgg165
 z45:=Tryz.sizeOf165
 v45:=Tryz.zeroValue165
 t46:=Tryz.underlying166
 a46:=Tryz.isAgg166
 z46:=Tryz.sizeOf166
 v46:=Tryz.zeroValue166
 t50:=Tryz.underlying170
 a50:=Tryz.isAgg170
 z50:=Tryz.sizeOf170
 v50:=Tryz.zeroValue170
 t53:=Tryz.underlying173
 a53:=Tryz.isAgg173
 z53:=Tryz.sizeOf173
 v53:=Tryz.zeroValue173
 t55:=Tryz.underlying175
 a55:=Tryz.isAgg175
 z55:=Tryz.sizeOf175
 v55:=Tryz.zeroValue175
 t66:=Tryz.underlying178
 a66:=Tryz.isAgg178
 z66:=Tryz.sizeOf178
 v66:=Tryz.zeroValue178
 t70:=Tryz.underlying182
 a70:=Tryz.isAgg182
 z70:=Tryz.sizeOf182
 v70:=Tryz.zeroValue182
 t76:=Tryz.underlying184
 a76:=Tryz.isAgg184
 z76:=Tryz.sizeOf184
 v76:=Tryz.zeroValue184
 t77:=Tryz.underlying185
 a77:=Tryz.isAgg185
 z77:=Tryz.sizeOf185
 v77:=Tryz.zeroValue185 }
abbrev VR:Type:={ r:Int×Int // o5 r=true }
instance:Inhabited VR:=⟨⟨(0,1),by decide⟩⟩
def Dj(x:VR):List Value:=[.int .i64 x.1.1,.int .i64 x.1.2]
def UW(x:k5):VR:=if h:o5 x=true then⟨x,h⟩ else default
theorem tG{x:k5}(h:o5 x=true):(UW x).1=x:=by unfold UW;rw[dif_pos h]
def FM(x y:VR):Int:=wU y.1 x.1
theorem FY.grow{w':World}(h:FY w w'):∃(q:Nat) (os:Array Obj),w'=Sort.grow (w.drewN q) os:=by
 obtain⟨hx,hd⟩:=h;obtain⟨h1,h2,h3,h4,h5⟩:=hx;obtain⟨heap,tape,drawn,os,output⟩:=w;obtain⟨I,tape',G,os',output'⟩:=w';simp only at h1 h2 h3 h4 h5 hd;subst h1 h2 h3;refine⟨G-drawn,I.extract heap.size I.size,?_⟩;have e1:drawn+(G-drawn)=G:=by omega
 have e2:heap++I.extract heap.size I.size=I:=by
  apply Array.ext_getElem?
  intro i;by_cases hi:i<heap.size
  ·rw[Array.getElem?_append_left hi,h5 i hi]
  ·rw[Array.getElem?_append_right b9,Array.getElem?_extract];by_cases hj:i<I.size
   ·rw[if_pos b9];congr 1;omega
   ·rw[if_neg b9,Array.getElem?_eq_none b9]
 unfold Sort.grow World.drewN;simp only[e1,e2]
theorem jM:∀(l:j6) (t:Nat),(yL l)[t]?=(l[t/2]?).map fun p=>if t % 2=0 then Value.int .i64 p.1 else Value.int .i64 p.2
 | [],t=>by simp[yL]
 | p::l,0=>by simp[yL]
 | p::l,1=>by simp[yL]
 | p::l,t+2=>by
   have e:yL (p::l)=Value.int .i64 p.1::Value.int .i64 p.2::yL l:=by simp[yL]
   rw[e,List.getElem?_cons_succ,List.getElem?_cons_succ,jM l t,show(t+2)/2=t/2+1 by omega,List.getElem?_cons_succ,show(t+2) % 2=t % 2 by omega]
theorem lv(l:j6):(yL l).length=l.length*2:=by
 induction l with
 | nil=>rfl
 | cons p l ih =>
   have e:yL (p::l)=Value.int .i64 p.1::Value.int .i64 p.2::yL l:=by simp[yL]
   rw[e,List.length_cons,List.length_cons,List.length_cons,ih];omega
theorem oJ(d:Array VR):(Sort.flatK Dj 2 d).toList=yL (d.toList.map (·.1)):=by
 apply List.ext_getElem?
 intro t;rw[jM];by_cases ht:t<d.size*2
 ·have hk:t/2<d.size:=by omega
  rw[Array.getElem?_toList,Array.getElem?_eq_getElem (by rw[Sort.size_flatK];exact ht),<-getElem!_pos (Sort.flatK Dj 2 d) t (by rw[Sort.size_flatK];exact ht),Sort.get_flatK _ _ _ _ ht];rw[List.getElem?_map,Array.getElem?_toList,Array.getElem?_eq_getElem hk,getElem!_pos d (t/2) hk];simp only[Option.map_some]
  rcases Nat.mod_two_eq_zero_or_one t with h|h
  ·rw[h];rfl
  ·rw[h];rfl
 ·rw[List.getElem?_eq_none (by rw[Array.length_toList,Sort.size_flatK];omega),List.getElem?_eq_none (by rw[List.length_map,Array.length_toList];omega)]
  rfl
theorem VJ:Sort.SWO (ltOf FM):=by
 have hlt:∀x y:VR,ltOf FM x y=!C2 y.1 x.1:=fun x y=>by unfold ltOf FM C2;rw[Bool.not_not]
 refine⟨fun x=>?_,fun x y z h k=>?_,fun x y z h k=>?_⟩
 ·rw[hlt]
  rcases iV x.2 x.2 with h|h<;>rw[h]<;>rfl
 ·rw[hlt,Bool.not_eq_true']at h k⊢;cases hz:C2 z.1 x.1 with
  | false=>rfl
  | true =>
    have h2:C2 x.1 y.1=true:=(iV x.2 y.2).resolve_right (by rw[h];simp);have:=km z.2 x.2 y.2 hz h2;rw[k]at this;cases this
 ·rw[hlt,Bool.not_eq_false']at h k⊢;exact km z.2 y.2 x.2 k h
theorem totV(x y:VR)(h:ltOf FM x y=false)(k:ltOf FM y x=false):x=y:=by
 have hlt:∀x y:VR,ltOf FM x y=!C2 y.1 x.1:=fun x y=>by unfold ltOf FM C2;rw[Bool.not_not]
 rw[hlt,Bool.not_eq_false']at h k;exact Subtype.ext (qr x.2 y.2 k h)
theorem VK(hl:∀y∈l,o5 y=true):(((l.map UW).toArray.toList.mergeSort fun x y=>!(ltOf FM) y x).map (·.1))=Ak l:=by
 have hb:l.map (fun x=>(UW x).1)=l:=by
  conv=>rhs;rw[<-List.map_id l]
  exact List.map_congr_left fun x hx=>tG (hl x hx)
 refine wD hl ?_ ?_
 ·refine((List.mergeSort_perm _ _).map _).trans ?_;rw[List.toList_toArray,List.map_map];exact List.Perm.of_eq hb
 ·rw[List.pairwise_map]
  have:=List.pairwise_mergeSort (le:=fun x y:VR=>!(ltOf FM) y x) (fun a b c h k=>by
   simp only[Bool.not_eq_true']at h k⊢
   exact VJ.ntrans _ _ _ k h) (fun a b=>by
   simp only[Bool.or_eq_true,Bool.not_eq_true'];unfold ltOf FM
   rcases iV a.2 b.2 with h|h
   ·left;unfold C2 at h;simpa using h
   ·right;unfold C2 at h;simpa using h) (l.map UW).toArray.toList
  refine this.imp fun{a b} h=>?_
  unfold ltOf FM at h;unfold C2;exact h
theorem LX(x y:VR)(w:World):
 Calls Tryz.prog 146 #[.agg (Dj x).toArray,.agg (Dj y).toArray] w fun e w'=>e=.returned (.int .i64 (FM x y))/\FY w w':=by
 obtain⟨⟨x1,x2⟩,hx⟩:=x;obtain⟨⟨I,G⟩,hy⟩:=y;have HG:=ae ((FY.alloc w (.cells #[.int .i64 x1,.int .i64 x2] 46)).trans (FY.alloc _ (.cells #[.int .i64 I,.int .i64 G] 46)))
 show Calls Tryz.prog 146 #[.agg #[.int .i64 x1,.int .i64 x2],.agg #[.int .i64 I,.int .i64 G]] w fun e w'=>e=.returned (.int .i64 (wU (I,G) (x1,x2)))/\FY w w'
 clear hx hy;go_enter Tryz.func146,Tryz.ntmps146
 go_wp2_with fail;refine(uf I G x1 x2 _).mono ?_;rintro e w1 ⟨rfl,wO⟩;go_wp2_with fail;go_ret;exact⟨rfl,HG.o.trans wO⟩
theorem lI:IsGo Tryz.prog 146:=isGo Tryz.func146 e8 e8
theorem PA{cap:Nat}(h:l8 w base (.slice (some ⟨g,0,none⟩) n cap) l)(hl:∀y∈l,o5 y=true)(hn:n<=1000000):
 Calls Tryz.prog 145 #[.slice (some ⟨g,0,none⟩) n cap,.func (.func 146) #[] #[]] w fun e w' =>
  e=.returned (.tuple #[])/\l8 w' base (.slice (some ⟨g,0,none⟩) n cap) (Ak l)/\∀W0:World,Ext W0 w->W0.heap.size<=g->Ext W0 w':=by
 have hlen:=h.wK.hlen
 rcases h.2 with⟨he,h0⟩|⟨g',cap',cur,he,hb,hg,h1,h2,hs,ht⟩
 ·cases he
 simp only[Value.slice.injEq,Option.some.injEq,Addr.mk.injEq,and_true]at he;obtain⟨rfl,hnl,rfl⟩:=he;obtain⟨d,hd⟩:∃d:Array VR,d=(l.map UW).toArray:=⟨_,rfl⟩;have K:d.size=n:=by rw[hd];simp[hlen]
 have hdl:d.toList.map (·.1)=l:=by
  rw[hd,List.toList_toArray,List.map_map]
  conv=>rhs;rw[<-List.map_id l]
  exact List.map_congr_left fun x hx=>tG (hl x hx)
 have Fk:(Sort.flatK Dj 2 d).toList=yL l:=by rw[oJ,hdl]
 have hH:Sort.HoldsK Dj 2 w g 0 d:=by
  intro j hj;rw[Sort.size_flatK]at hj;refine⟨?_,by simp[World.frozen?,hg]⟩;have h3:(cur.toList.take (l.length*2))[j]?=(yL l)[j]?:=by rw[ht]
  rw[List.getElem?_take_of_lt b9]at h3;rw[Nat.zero_add,cell_of_row w g j cur _ _ hg,<-Array.getElem?_toList,h3,<-Fk,Array.getElem?_toList,getElem!_pos _ j (by rw[Sort.size_flatK];exact hj),Array.getElem?_eq_getElem]
  rfl
 have Qa:CmpLays Tryz.prog 146 #[] Dj 2 FM g 0 d.size w:=fun m os dk _ x y =>
  (LX x y _).mono fun e w' ⟨he,hw⟩=>⟨he,hw.grow⟩
 have XB:=AnyQ.slices_SortFunc_total layR 2 (fun _=>by kernel_rfl) (fun _=>by kernel_rfl) Dj (fun _=>rfl) (fun x v hv=>by simp[Dj]at hv;rcases hv with rfl|rfl<;>rfl) FM VJ 146 #[] g 0 cap d w lI Qa hH (lt_of_block hg) b9 totV;rw[K]at XB;refine Calls.mono XB ?_;rintro e w' ⟨rfl,q,os,rfl⟩;have G:((d.toList.mergeSort fun x y=>!(ltOf FM) y x)).length=n:=by rw[List.length_mergeSort,Array.length_toList,K]
 have hfl:(Sort.flatK Dj 2 ((d.toList.mergeSort fun x y=>!(ltOf FM) y x)).toArray).toList=yL (Ak l):=by
  rw[oJ,List.toList_toArray,hd,VK hl]
 have D':g<w.heap.size:=lt_of_block hg;have hh:(sortWorldK Dj 2 w g 0 q ((d.toList.mergeSort fun x y=>!(ltOf FM) y x)).toArray os).heap[g]?=some (.cells (Sort.putCells id 0 (Sort.flatK Dj 2 ((d.toList.mergeSort fun x y=>!(ltOf FM) y x)).toArray) cur) 46 (0,0)):=by
  unfold sortWorldK Sort.putRowK;rw[Sort.heap_grow_old _ _ (by simpa using D')];simp[Sort.putRow,Sort.mapBlock,Sort.ahead,Array.getElem?_modify,hg,Sort.onCells]
 refine⟨rfl,⟨by rw[lv,fk,hlen],.inr ⟨g,cap,_,by rw[fk,hlen],hb,hh,by rw[fk];exact h1,h2,by simp[Sort.putCells,hs],?_⟩⟩,fun W0 hx hW=>?_⟩
 ·rw[<-hfl];generalize hF:Sort.flatK Dj 2 ((d.toList.mergeSort fun x y=>!(ltOf FM) y x)).toArray=F;have J:F.size=n*2:=by rw[<-hF,Sort.size_flatK];simp[G]
  rw[fk,hlen]
  apply List.ext_getElem?
  intro j;by_cases hj:j<n*2
  ·rw[List.getElem?_take_of_lt hj,Array.getElem?_toList,Array.getElem?_toList];simp[Sort.putCells,hj,J,show j<cur.size by omega]
  ·rw[List.getElem?_take_eq_none b9,List.getElem?_eq_none (by rw[Array.length_toList];omega)]
 ·refine⟨hx.os,hx.tape,hx.output,?_,fun k hk=>?_⟩
  ·have:=hx.size;unfold sortWorldK Sort.putRowK;refine Nat.le_trans this ?_;simp[Sort.grow,Sort.putRow,Sort.mapBlock,Sort.ahead]
  ·have I:k<w.heap.size:=Nat.lt_of_lt_of_le hk hx.size;unfold sortWorldK Sort.putRowK;rw[Sort.heap_grow_old _ _ (by simpa using I)];have:g≠k:=by omega
   rw[<-hx.block k hk];simp[Sort.putRow,Sort.mapBlock,Sort.ahead,Array.getElem?_modify,this]
theorem pN{P:Program}(w:World)(t e ty:TypeId)(ht:P.underlying t=some (.slice e))(hv:∀w,(zeroValue e).run P w=.ok (.agg #[.int .i64 0,.int .i64 0]) w)(b o n c:Nat)(hn:0<n)
 (hc:∀j,j<n*2->(w.cell? ⟨b,o+j,none⟩).isSome=true) (hf:∀j,j<n*2->w.frozen? ⟨b,o+j,none⟩=false) :
 (Builtin.clear_ #[t] ty #[.slice (some ⟨b,o,none⟩) n c]).run P w=.ok (.tuple #[]) (w.setCells b o (List.replicate (n*2) (.int .i64 0))):=by
 have hzc:(Builtin.zeroCells #[Value.int .i64 0,Value.int .i64 0] n).toList=List.replicate (n*2) (.int .i64 0):=by
  simp only[Builtin.zeroCells]
  apply List.ext_getElem
  ·simp
  ·intro i h1 h2;simp only[Array.toList_map,Array.toList_range,List.getElem_map,List.getElem_range,List.getElem_replicate];have:∀k,k<2->(#[Value.int .i64 0,Value.int .i64 0]:Array Value)[k]! =.int .i64 0:=fun k hk=>by
    rcases k with _|_|k
    ·rfl
    ·rfl
    ·omega
   exact this _ (Nat.mod_lt _ (by decide))
 have hst:=run_storeCells_cells (P:=P) b o (List.replicate (n*2) (.int .i64 0)) 0 w (by simpa using hc) (by simpa using hf) (by intro v hv';rw[List.eq_of_mem_replicate hv'];rfl);simp only[Nat.add_zero]at hst;obtain⟨m,rfl⟩:∃m,n=m+1:=⟨n-1,by omega⟩;have V1:(Value.agg #[.int .i64 0,.int .i64 0]).cells=#[Value.int .i64 0,Value.int .i64 0]:=rfl;simp[Builtin.clear_,run_underlying ht,hv,V1,hzc,hst]
theorem l8.AW{cap:Nat}(h:l8 w base (.slice (some ⟨g,0,none⟩) n cap) l):base<=g/\g<w.heap.size/\(∀j,w.frozen? ⟨g,j,none⟩=false)/\∀k,k<n->w.cell? ⟨g,k*2,none⟩=some (.int .i64 (l[k]?.getD (0,0)).1)/\w.cell? ⟨g,k*2+1,none⟩=some (.int .i64 (l[k]?.getD (0,0)).2):=by
 rcases h.2 with⟨he,h0⟩|⟨g',cap',cur,he,hb,hg,h1,h2,hs,ht⟩
 ·cases he
 ·have I:g'=g:=by simp only[Value.slice.injEq,Option.some.injEq,Addr.mk.injEq,and_true]at he;exact he.1.symm
  subst I;refine⟨hb,lt_of_block hg,fun j=>frozen_of_row w g' j cur _ hg,fun k hk=>?_⟩;obtain⟨xb,xo,x,y,e,G,y5,yq⟩:=h.wK.at hk;simp only[Option.some.injEq,Addr.mk.injEq,and_true]at e;rw[<-e.1,<-e.2,Nat.zero_add]at y5 yq;rw[G];exact⟨y5,yq⟩
theorem l8.zeros{cap:Nat}:∀(m:Nat) {k:Nat} {w:World} {M:j6},k+m<=M.length->l8 w base (.slice (some ⟨g,0,none⟩) n cap) M->∃G,l8 (w.setCells g (k*2) (List.replicate (m*2) (.int .i64 0))) base (.slice (some ⟨g,0,none⟩) n cap) G/\G.take k=M.take k/\G.length=M.length
 | 0,k,w,M,_,h=>⟨M,by simpa[World.setCells]using h,rfl,rfl⟩
 | m+1,k,w,M,hk,h=>by
   obtain⟨G,h1,h2,h3⟩:=l8.zeros m (k:=k+1) (by rw[List.length_set];omega) (h.set (k:=k) b9 0 0);rw[List.length_set]at h3;refine⟨G,?_,?_,h3⟩
   ·rw[show(m+1)*2=m*2+1+1 by omega,List.replicate_succ,List.replicate_succ];simp only[World.setCells];rw[show k*2+1+1=(k+1)*2 by omega];exact h1
   ·have h4:=congrArg (List.take k) h2;rw[List.take_take,List.take_take,Nat.min_eq_left b9]at h4;rw[h4,List.take_set_of_le (Nat.le_refl _)]
theorem l8.KJ{cap:Nat}{M:j6}(h:l8 w base (.slice (some ⟨g,0,none⟩) n cap) M){k:Nat}(hk:k<=n):l8 w base (.slice (some ⟨g,0,none⟩) k cap) (M.take k):=by
 have hlen:=h.wK.hlen
 rcases h.2 with⟨he,h0⟩|⟨g',cap',cur,he,hb,hg,h1,h2,hs,ht⟩
 ·cases he
 ·simp only[Value.slice.injEq,Option.some.injEq,Addr.mk.injEq,and_true]at he;obtain⟨rfl,_,rfl⟩:=he;have hl:(M.take k).length=k:=by rw[List.length_take];omega
  refine⟨by rw[lv],.inr ⟨g,cap,cur,by rw[hl],hb,hg,by omega,h2,hs,?_⟩⟩;rw[hl]
  apply List.ext_getElem?
  intro j;rw[jM];by_cases hj:j<k*2
  ·rw[List.getElem?_take_of_lt hj,List.getElem?_take_of_lt b9,<-jM,<-ht,List.getElem?_take_of_lt b9]
  ·rw[List.getElem?_take_eq_none b9,List.getElem?_eq_none (by rw[List.length_take];omega)]
   rfl
theorem KB(w:World):(zeroValue 46).run Tryz.prog w=.ok (.agg #[.int .i64 0,.int .i64 0]) w:=rfl
theorem M4(l:j6)(k:Nat):∃x y,l[k]?.getD (0,0)=(x,y):=⟨_,_,rfl⟩
theorem tj{x y x' y':Int}(h:((x == x')&&(y == y'))=false):¬(x,y)=(x',y'):=by
 intro e;simp only[Prod.mk.injEq]at e;rw[e.1,e.2]at h;simp at h
theorem ti{x y x' y':Int}(h:((x == x')&&(y == y'))=true):(x,y)=(x',y'):=by
 simp only[Bool.and_eq_true,beq_iff_eq]at h;rw[h.1,h.2]
theorem uj{W0:World}{cap:Nat}(hX:Ext W0 w)(hb:W0.heap.size<=base)(h:l8 w base (.slice (some ⟨g,0,none⟩) n cap) l)(hn:0<n)(hn9:n<=1000000):
 Calls Tryz.prog 96 #[.slice (some ⟨g,0,none⟩) n cap] w fun e w' =>
  (∃m,e=.returned (.slice (some ⟨g,0,none⟩) m cap)/\l8 w' base (.slice (some ⟨g,0,none⟩) m cap) (Af l n))/\Ext W0 w':=by
 have o3:=h.wK.o3;have l9:=h.wK.l9;have HL:=ae h.wK.hlen;have HO:=ae h;have HX:=ae hX;have VD:=ae (Nat.le_trans hb h.AW.1);clear h hX;by_cases Bj:n=1
 ·subst Bj
  have HC:=ae (show Af l 1=l by
   rw[kg (k:=0) (by rw[HL.o];decide) rfl (.inl rfl),List.take_of_length_le (by rw[HL.o];decide)])
  go_enter Tryz.func96,Tryz.ntmps96
  go_wp2_with fail;go_ret;exact⟨⟨1,rfl,by rw[HC.o];exact HO.o⟩,HX.o⟩
 have h2:¬(n:Int)<2:=by omega
 go_enter Tryz.func96,Tryz.ntmps96
 go_wp2_with fail
 go_loopg [3] (n-1) (fun gk kk wr=>∃k:Nat,b7 (gk+k=n)/\kk=.int .i64 (k:Int)/\b7 (0<k)/\b7 (Af l k=l.take k)/\b7 (l8 wr base (.slice (some ⟨g,0,none⟩) n cap) l)/\b7 (Ext W0 wr))
 case atStart=>exact⟨1,ae b9,rfl,ae (by decide),ae (kg (k:=0) (by rw[HL.o];exact hn) rfl (.inl rfl)),HO,HX⟩
 case round =>
  obtain⟨g1,r7⟩:=b8 gk;subst r7;obtain⟨wr,Eg⟩:=b8 wr;subst Eg;obtain⟨k,HK,rfl,HP,HT,xC,xz⟩:=hrel;by_cases hlt:k<n
  ·obtain⟨m,Bf⟩:∃m,k=m+1:=⟨k-1,by have:=HP.o;omega⟩;obtain⟨x,y,W⟩:=M4 l k;obtain⟨x',y',BY⟩:=M4 l m;obtain⟨c0,c1⟩:=xC.o.AW.2.2.2 k hlt;obtain⟨d0,d1⟩:=xC.o.AW.2.2.2 m b9;rw[W]at c0 c1;rw[BY]at d0 d1;have CS:=ae W;have Cn:=ae (show l[k-1]?.getD (0,0)=(x',y')by rw[Bf];exact BY);have W7:m<n:=by omega
   have Kb:¬cap=k:=by omega
   have Ce:IntKind.i64.wrap ((k:Int)-1)=(m:Int):=by rw[IntKind.wrap_i64];omega
   have A7:wrap64 ((k:Int)-1)=(m:Int):=by unfold wrap64;omega
   have AK:(k:Int)-1=(m:Int):=by omega
   have B7:IntKind.i64.wrap (m:Int)=(m:Int):=by rw[IntKind.wrap_i64];omega
   have BZ:wrap64 (m:Int)=(m:Int):=by unfold wrap64;omega
   have k7:Ext wr wr.drew:=Ext.drew wr;have yQ:k<l.length:=by rw[HL.o];exact hlt
   have zD:=ae yQ;clear W BY Bf yQ;cases wO:(x == x')
   all_goals
    cases xM:(y == y')
   all_goals
    have Sc:=ae (And.intro wO xM);go_wp2_with fail
    go_region_held3 (fun w'=>w'.cell? ⟨g,k*2,none⟩=some (.int .i64 x)/\w'.cell? ⟨g,k*2+1,none⟩=some (.int .i64 y)/\w'.cell? ⟨g,m*2,none⟩=some (.int .i64 x')/\w'.cell? ⟨g,m*2+1,none⟩=some (.int .i64 y')/\Ext wr w')
     (exact⟨k7.k6 c0,k7.k6 c1,k7.k6 d0,k7.k6 d1,k7⟩)
     (fail)
    clear Ce A7 AK B7 BZ c0 c1 d0 d1 wO xM;have yE:=ae (xC.o.ext k7);have xZ:=ae (xz.o.trans k7);clear k7
   iterate 3
    ·have Bu:=ae (kg zD.o HT.o (.inr (by rw[CS.o,Cn.o];exact tj (by rw[Sc.o.1,Sc.o.2];rfl))));go_wp2_with fail
     go_roundg (g1-1)
     case measure=>have:=HK.o;omega
     case rel=>exact⟨k+1,ae (j4 HK.o),by go_num,ae b9,Bu,yE,xZ⟩
   ·have VB:=ae (Fe.start HP.o zD.o HT.o (by rw[CS.o,Cn.o];exact ti (by rw[Sc.o.1,Sc.o.2];rfl)));have Z:k<=n:=by omega
    go_wp2_with fail
    go_loopg [3,5] (n-k-1) (fun gk kk jj wr=>∃(i j:Nat) (M:j6),b7 (gk+(k+j)=n)/\kk=.int .i64 (i:Int)/\jj=.int .i64 (j:Int)/\b7 (0<j)/\b7 (Fe l M i (k+j))/\b7 (l8 wr base (.slice (some ⟨g,0,none⟩) n cap) M)/\b7 (Ext W0 wr))
    case atStart=>exact⟨k,1,l,ae b9,rfl,rfl,ae (by decide),VB,yE,xZ⟩
    case round =>
     obtain⟨g2,xK⟩:=b8 gk;subst xK;obtain⟨G,wT⟩:=b8 wr;subst wT;obtain⟨i,j,M,U,rfl,rfl,HJ0,HC,HM,xj⟩:=hrel;have IW:=HC.o.lt;have JD:=HC.o.pos;by_cases yp:k+j<n
     ·obtain⟨q,Oi⟩:∃q,j=q+1:=⟨j-1,by have:=HJ0.o;omega⟩;obtain⟨u,v,R⟩:=M4 l (k+j);obtain⟨u',v',J⟩:=M4 l (k+q);have Xo:=HC.o.hi (k+j) b9;have Vd:=HC.o.hi (k+q) b9;obtain⟨c0,c1⟩:=HM.o.AW.2.2.2 (k+j) yp;obtain⟨d0,d1⟩:=HM.o.AW.2.2.2 (k+q) b9;rw[Xo,R,Nat.add_mul]at c0 c1;rw[Vd,J,Nat.add_mul]at d0 d1;have K:=ae R;have Um:=ae (show l[k+j-1]?.getD (0,0)=(u',v')by rw[Oi,show k+(q+1)-1=k+q by omega];exact J);have xR:i<n:=by clear K Um c0 c1 d0 d1 R J Xo Vd;omega
      have hqn:q<n-k:=by omega
      have Ah:j<n-k:=by omega
      have Ce:IntKind.i64.wrap ((j:Int)-1)=(q:Int):=by rw[IntKind.wrap_i64];omega
      have A7:wrap64 ((j:Int)-1)=(q:Int):=by unfold wrap64;omega
      have AK:(j:Int)-1=(q:Int):=by omega
      have B7:IntKind.i64.wrap (q:Int)=(q:Int):=by rw[IntKind.wrap_i64];omega
      have BZ:wrap64 (q:Int)=(q:Int):=by unfold wrap64;omega
      have k7:Ext G G.drew:=Ext.drew G;have zt:k+j<l.length:=by rw[HL.o];exact yp
      have OQ:=ae zt;clear R J Xo Vd Oi zt;cases wO:(u == u')
      all_goals
       cases xM:(v == v')
      all_goals
       have QQ:=ae (And.intro wO xM);go_wp2_with fail
       go_region_held3 (fun w'=>w'.cell? ⟨g,k*2+j*2,none⟩=some (.int .i64 u)/\w'.cell? ⟨g,k*2+j*2+1,none⟩=some (.int .i64 v)/\w'.cell? ⟨g,k*2+q*2,none⟩=some (.int .i64 u')/\w'.cell? ⟨g,k*2+q*2+1,none⟩=some (.int .i64 v')/\Ext G w')
        (exact⟨k7.k6 c0,k7.k6 c1,k7.k6 d0,k7.k6 d1,k7⟩)
        (fail)
       have Cw:=fun(o:Nat)=>(HM.o.ext k7).AW.2.2.1 o
       obtain⟨wd,I⟩:=b8 G.drew;rw[<-I]at k7 Cw⊢;clear I;have c0:=k7.k6 c0;have c1:=k7.k6 c1;clear Ce A7 AK B7 BZ d0 d1 wO xM;have ID:=ae (HM.o.ext k7);have Ai:=ae (xj.o.trans k7);clear k7
      iterate 3
       ·have O:=ae (HC.o.keep OQ.o (by rw[K.o,Um.o];exact tj (by rw[QQ.o.1,QQ.o.2];rfl)));rw[K.o]at O;obtain⟨e0,e1⟩:=ID.o.AW.2.2.2 i xR;have IY:=Cw (i*2);have MM:=Cw (i*2+1);clear Cw;have Ca:=ae (ID.o.set (k:=i) (by rw[HC.o.len,HL.o];exact xR) u v);have Br:=ae ((Ai.o.store (i*2) VD.o (.int .i64 u)).store (i*2+1) VD.o (.int .i64 v));go_wp2_with fail
        go_roundg (g2-1)
        case measure=>have:=U.o;omega
        case rel=>exact⟨i+1,j+1,_,ae (j4 U.o),by go_num,by go_num,ae b9,O,Ca,Br⟩
      ·have O:=ae (HC.o.drop OQ.o (by rw[K.o,Um.o];exact ti (by rw[QQ.o.1,QQ.o.2];rfl)));go_wp2_with fail
       go_roundg (g2-1)
       case measure=>have:=U.o;omega
       case rel=>exact⟨i,j+1,_,ae (j4 U.o),rfl,by go_num,ae b9,O,ID,Ai⟩
     ·have hkj:k+j=n:=by have:=HC.o.jl;have:=HL.o;omega
      have xR:i<n:=by omega
      have hci:¬cap=i:=by omega
      have GA:i<=n:=by omega
      have hML:M.length=n:=by rw[HC.o.len,HL.o]
      have C5:=ae hML;have EP:∀ty,(Builtin.clear_ #[27] ty #[.slice (some ⟨g,i*2,none⟩) (n-i) (cap-i)]).run Tryz.prog G=.ok (.tuple #[]) (G.setCells g (i*2) (List.replicate ((n-i)*2) (.int .i64 0))):=fun ty=>by
       refine pN G _ 46 ty Tryz.underlying27 KB g (i*2) _ _ b9 (fun t ht=>?_) (fun t _=>HM.o.AW.2.2.1 _)
       rcases Nat.mod_two_eq_zero_or_one t with h0|h0
       ·have:=(HM.o.AW.2.2.2 (i+t/2) b9).1;rw[show(i+t/2)*2=i*2+t by omega]at this;rw[this];rfl
       ·have:=(HM.o.AW.2.2.2 (i+t/2) b9).2;rw[show(i+t/2)*2+1=i*2+t by omega]at this;rw[this];rfl
      obtain⟨M',TJ,MW,_⟩:=l8.zeros (w:=G) (n-i) (k:=i) b9 HM.o;have Bu:=ae (show M'.take i=Af l n by rw[MW,HC.o.lo,hkj]);have YZ:=ae TJ;have Ue:=ae (gj g VD.o (List.replicate ((n-i)*2) (.int .i64 0)) (i*2) xj.o);clear MW TJ hML;go_wp2_with fail;go_ret;exact⟨⟨i,rfl,by rw[<-Bu.o];exact YZ.o.KJ b9⟩,Ue.o⟩
  ·have Z:k=n:=by have:=HK.o;omega
   have Bu:=ae (show Af l n=l by rw[<-Z,HT.o,List.take_of_length_le (by rw[HL.o,Z];exact Nat.le_refl _)]);go_wp2_with fail;go_ret;exact⟨⟨n,rfl,by rw[Bu.o];exact xC.o⟩,xz.o⟩
end Go.Proofs.YtalmoolkhcgmmaaGreat
