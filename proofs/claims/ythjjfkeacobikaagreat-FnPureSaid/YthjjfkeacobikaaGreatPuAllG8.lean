import Derived.Test.YthjjfkeacobikaaGreatPuAllG6
import Derived.Test.YthjjfkeacobikaaGreatPuAllG7
import Derived.Test.YthjjfkeacobikaaGreatPuAllG4
set_option linter.unusedVariables false
set_option linter.unusedSimpArgs false
namespace Go.Proofs.YthjjfkeacobikaaGreat
set_option maxRecDepth 100000
open Go.RowKit
structure LpC (w:World) (a:Option Addr) (na ca:Nat) (b:Option Addr) (nb cb:Nat) (c:Option Addr) (nc cc:Nat) (A:List (List Int)) (B:List Int) (C:List (Int × Int)):Prop where
 a:dD w a na ca A
 b:Ints w b nb cb B
 c:Rats w c nc cc C
theorem LpC.ext {w w':World} {a:Option Addr} {na ca:Nat} {b:Option Addr} {nb cb:Nat} {c:Option Addr} {nc cc:Nat} {A:List (List Int)} {B:List Int} {C:List (Int × Int)} (h:LpC w a na ca b nb cb c nc cc A B C) (hx:Ext w w'):LpC w' a na ca b nb cb c nc cc A B C :=
 ⟨h.a.ext hx,h.b.ext hx,h.c.ext hx⟩
abbrev lpW (a:Option Addr) (na ca:Nat) (b:Option Addr) (nb cb:Nat) (c:Option Addr) (nc cc:Nat):Value:=.agg #[.slice a na ca,.slice b nb cb,.slice c nc cc]
abbrev bm (a:Option Addr) (na ca:Nat) (b:Option Addr) (nb cb:Nat) (c:Option Addr) (nc cc:Nat):Obj:=.cells #[.slice a na ca,.slice b nb cb,.slice c nc cc] 109
theorem kP {A B:List (Int × Int)} {k:Nat} {s:Int × Int} (h:dotN A B k=some s):dotN A B (k+1)=if (mulR (A[k]?.getD (0,0)) (B[k]?.getD (0,0))).2=true/\(addR s (mulR (A[k]?.getD (0,0)) (B[k]?.getD (0,0))).1).2=true
 then some (addR s (mulR (A[k]?.getD (0,0)) (B[k]?.getD (0,0))).1).1 else none:=by simp only [dotN,h,Option.bind_some]
theorem ga {A B:List (Int × Int)} {k:Nat} (h:dotN A B k=none):∀ {n:Nat},k<=n->dotN A B n=none
 | n,hn=>by
   obtain ⟨d,rfl⟩:∃ d,n=k+d:=⟨n-k,by omega⟩;clear hn
   induction d with
   | zero=>exact h
   | succ d ih=>show (dotN A B (k+d)).bind _=none;rw [ih];rfl
def optR (o:Option (Int × Int)):(Int × Int) × Bool:=(o.getD (0,0),o.isSome)
set_option maxHeartbeats 8000000 in
theorem eB {w:World} {a b:Option Addr} {n cap n' cap':Nat} {A B:List (Int × Int)} (h:Rats w a n cap A) (h':Rats w b n' cap' B) :
 Calls Tryz.prog 254 #[.slice a n cap,.slice b n' cap'] w fun e w'=>e=.returned (resR (optR (dotL A B)))/\Ext w w':=by
 have HL:=ae h.hlen;have HL':=ae h'.hlen;have hcap:=h.hcap;have hmax:=h.hmax;have hcap':=h'.hcap;have hmax':=h'.hmax;have hx0:=Ext.alloc w (.cells #[.int .i64 0,.int .i64 0] 43);have HIA:=ae (h.ext hx0);have HIB:=ae (h'.ext hx0);have HX0:=ae hx0;have HRB:=ae (show (w.alloc (.cells #[.int .i64 0,.int .i64 0] 43)).heap[w.heap.size]?=some (.cells #[.int .i64 0,.int .i64 0] 43 (0,0)) from aj _ _ _ rfl);clear h h' hx0;by_cases hne:n=n'
 ·subst hne;have HD:=ae (show dotL A B=dotN A B n by unfold dotL;rw [HL.out,HL'.out,if_pos rfl]);have hnn:((n:Int) != (n:Int))=false:=by simp
  go_enter Tryz.func254,Tryz.ntmps254
  go_wp2_with fail;refine (cz 0 _).mono ?_;rintro e w1 ⟨rfl,hx1⟩;have HX1:=ae hx1;have HB0:=ae (ah.new (Ext.refl w1) 0 1);have HRW:=ae (fun (w':World) (hx:Ext w1 w')=>(hx.block _ (by have:=lt_of_block HRB.out;have:=HX1.out.size;omega)).trans ((HX1.out.block _ (lt_of_block HRB.out)).trans HRB.out));have HXW:=ae (HX0.out.trans HX1.out);have hsw1:w.heap.size<w1.heap.size:=by have:=lt_of_block HRB.out;have:=HX1.out.size;omega
  clear hx1;go_wp2_with fail
  go_loopg [21] n (fun gk ii wr=>∃ (k:Nat) (p q:Int),Hid (gk+k=n)/\ii=.int .i64 (k:Int)/\Hid (ah w1 wr w1.heap.size p q)/\Hid (dotN A B k=some (p,q)))
  case atStart=>exact ⟨0,0,1,ae (by omega),rfl,HB0,ae rfl⟩
  case round =>
   obtain ⟨g1,h_g1⟩:∃ x,x=gk:=⟨_,rfl⟩;subst h_g1;obtain ⟨wr1,h_wr1⟩:∃ x,x=wr:=⟨_,rfl⟩;subst h_wr1;obtain ⟨k,p,q,HK,rfl,HB,HT⟩:=hrel;have hb0:=HB.out.c0;have hb1:=HB.out.c1;have hbl:=HB.out.lt;have hszb:=HB.out.ext.size;by_cases hlt:k<n
   ·obtain ⟨ab,aoff,ax,ay,ha,hax,hac0,hac1⟩:=(HIA.out.ext (HX1.out.trans HB.out.ext)).at hlt;obtain ⟨bb,boff,bx,by',hb,hbx,hbc0,hbc1⟩:=(HIB.out.ext (HX1.out.trans HB.out.ext)).at hlt;subst ha hb;obtain ⟨mx,my,one,hm⟩:∃ x y ok,mulR (ax,ay) (bx,by')=((x,y),ok):=⟨_,_,_,rfl⟩;have HM:=ae hm;obtain ⟨p2,q2,two,hs2⟩:∃ u v ok,addR (p,q) (mx,my)=((u,v),ok):=⟨_,_,_,rfl⟩;have HS2:=ae hs2;have HST:=ae (show dotN A B (k+1)=if one=true/\two=true then some (p2,q2) else none by rw [kP HT.out,hax,hbx,hm];simp only;rw [hs2]);clear hax hbx hm hs2;go_upto_region 7 with fail
    go_cut [8,9] (fun sx so wx=>∃ g:Nat,sx=.pointer (some ⟨g,0,none⟩)/\so=.bool one/\Hid (ah wr1 wx g mx my))
    case first =>
     have hk2:Ext wr1 wr1.drew:=Ext.drew wr1;have hka:Ext wr1 (wr1.alloc (.cells #[.int .i64 0,.int .i64 0] 43)).drew:=(Ext.alloc _ _).trans (Ext.drew _);have HKEEP:=ae (fun (w':World) (h:Ext wr1 w')=>(⟨h.cellSome hac0,h.cellSome hac1,h.cellSome hbc0,h.cellSome hbc1,h⟩:w'.cell? ⟨ab,aoff+k*2,none⟩=some (.int .i64 ax)/\w'.cell? ⟨ab,aoff+k*2+1,none⟩=some (.int .i64 ay)/\w'.cell? ⟨bb,boff+k*2,none⟩=some (.int .i64 bx)/\w'.cell? ⟨bb,boff+k*2+1,none⟩=some (.int .i64 by')/\Ext wr1 w'))
     go_region_held3 (fun w'=>w'.cell? ⟨ab,aoff+k*2,none⟩=some (.int .i64 ax)/\w'.cell? ⟨ab,aoff+k*2+1,none⟩=some (.int .i64 ay)/\w'.cell? ⟨bb,boff+k*2,none⟩=some (.int .i64 bx)/\w'.cell? ⟨bb,boff+k*2+1,none⟩=some (.int .i64 by')/\Ext wr1 w')
      (first
        | with_reducible exact HKEEP.out _ hk2
        | with_reducible exact HKEEP.out _ hka
        | with_reducible exact HKEEP.out _ ((hk2.setCell (by first|(simp;done)|(simp;omega)) _).setCell (by first|(simp;done)|(simp;omega)) _)
        | with_reducible exact HKEEP.out _ (hk2.trans (Ext.alloc _ _))
        | with_reducible exact HKEEP.out _ (hBB.put _ _).ext)
      (first
        | (go_at_call 210
           (with_reducible refine (lU ax ay bx by' _).mono ?_)
           rw [HM.out];rintro e w3 ⟨rfl,hx_w3⟩
           first|(with_reducible have hBB:=ah.grow hBB hx_w3)|(with_reducible have hBB:=ah.firstD hx_w3)|(with_reducible have hBB:=ah.laterD hk2 hx_w3)|skip
           first|(have b0_:=hBB.c0;have b1_:=hBB.c1;have fb_:=hBB.free)|skip
           have hk2:Ext wr1 w3:=by first|with_reducible exact hk2.trans hx_w3|with_reducible exact hka.trans hx_w3|with_reducible exact (hk2.trans (Ext.alloc _ _)).trans hx_w3
           have hk2s:=hk2.size)
        | fail)
     all_goals (go_wp2_with fail;go_meet;first|exact ⟨_,rfl,rfl,ae (hBB.put _ _)⟩|exact ⟨_,rfl,rfl,ae (ah.new hk2 _ _)⟩|exact ⟨_,rfl,rfl,ae (ah.new' hk2 _ _ (by simp))⟩)
    obtain ⟨g,rfl,rfl,HB1⟩:=hcut;have g0:=HB1.out.c0;have g1':=HB1.out.c1;have hB3:=HB.out.grow HB1.out.ext;have hb0':=hB3.c0;have hb1':=hB3.c1;have HB3:=ae hB3;clear hb0 hb1 hac0 hac1 hbc0 hbc1 hB3;go_wp2_with fail;refine (lO p q mx my _).mono ?_;rw [HS2.out];rintro e w4 ⟨rfl,hx4⟩;have HB4:=ae (HB3.out.grow hx4);have HB5:=ae (HB4.out.grow (Ext.alloc _ (.cells #[.int .i64 p2,.int .i64 q2] 43)));have hr:=ai (HRW.out _ HB5.out.ext);obtain ⟨hr0,hr1,hrf⟩:=hr;have HX5:=ae HB5.out.ext;have hbf:=HB5.out.free;have hb5l:=HB4.out.lt;have hw4:=HB4.out.ext.size;have h40:=HB4.out.c0;have h41:=HB4.out.c1;have h4f:=HB4.out.free;clear hx4 g0 g1' hb0' hb1';cases one
    ·have HN:=ae (show dotL A B=none by rw [HD.out];exact ga (k:=k+1) (by rw [HST.out];simp) hlt);go_wp2_with fail;refine bodyPost_ret (v:=.tuple #[.agg #[.int .i64 0,.int .i64 0],.bool false]) (by simp [results,Tryz.results254,go_sem,hr0,hr1]) rfl ⟨by rw [HN.out];rfl,(((HXW.out.trans HX5.out).store 0 (Nat.le_refl _) _).store 1 (Nat.le_refl _) _)⟩
    ·cases two
     ·have HN:=ae (show dotL A B=none by rw [HD.out];exact ga (k:=k+1) (by rw [HST.out];simp) hlt);go_wp2_with fail;refine bodyPost_ret (v:=.tuple #[.agg #[.int .i64 0,.int .i64 0],.bool false]) (by simp [results,Tryz.results254,go_sem,hr0,hr1]) rfl ⟨by rw [HN.out];rfl,(((HXW.out.trans HX5.out).store 0 (Nat.le_refl _) _).store 1 (Nat.le_refl _) _)⟩
     ·have HT2:=ae (show dotN A B (k+1)=some (p2,q2) by rw [HST.out];simp);have HB6:=ae ((HB4.out.put p2 q2).grow (Ext.alloc _ (.cells #[.int .i64 p2,.int .i64 q2] 43)));go_wp2_with fail
      go_roundg (g1-1)
      case measure=>have:=HK.out;omega
      case rel=>exact ⟨k+1,p2,q2,ae (by have:=HK.out;omega),by go_num,HB6,HT2⟩
   ·have hkn:n=k:=by have:=HK.out;omega
    subst hkn;have HY:=ae (show dotL A B=some (p,q) by rw [HD.out];exact HT.out);have hr:=ai (HRW.out wr1 HB.out.ext);obtain ⟨hr0,hr1,hrf⟩:=hr;go_wp2_with fail;refine bodyPost_ret (v:=.tuple #[.agg #[.int .i64 p,.int .i64 q],.bool true]) (by simp [results,Tryz.results254,go_sem,hr0,hr1]) rfl ⟨by rw [HY.out];rfl,(((HXW.out.trans HB.out.ext).store 0 (Nat.le_refl _) _).store 1 (Nat.le_refl _) _)⟩
 ·have HN:=ae (show dotL A B=none by unfold dotL;rw [HL.out,HL'.out,if_neg hne]);have hnn:((n:Int) != (n':Int))=true:=by simp;omega
  have hr:=ai HRB.out;obtain ⟨hr0,hr1,hrf⟩:=hr;go_enter Tryz.func254,Tryz.ntmps254
  go_wp2_with fail;refine bodyPost_ret (v:=.tuple #[.agg #[.int .i64 0,.int .i64 0],.bool false]) (by simp [results,Tryz.results254,go_sem,hr0,hr1]) rfl ⟨by rw [HN.out];rfl,HX0.out⟩
theorem kK {A:List (List Int)} {j k:Nat} (h:k<A.length):colL (A.take k) j++[(A[k]?.getD [])[j]?.getD 0]=colL (A.take (k+1)) j:=by
 rw [dR h];simp [colL]
set_option maxHeartbeats 4000000 in
theorem lX {w:World} {a:Option Addr} {na ca:Nat} {b:Option Addr} {nb cb:Nat} {c:Option Addr} {nc cc:Nat} {A:List (List Int)} (h:dD w a na ca A) {m j:Nat} (hl:∀ i,i<na->(A[i]?.getD []).length=m) (hj:j<m) (hm:m<=1000000) (hbig:na<=1048576) :
 Calls Tryz.prog 255 #[lpW a na ca b nb cb c nc cc,.int .i64 (j:Int)] w fun e w'=>(∃ v,e=.returned v/\OwnI w' w.heap.size v (colL A j))/\Ext w w':=by
 have hcap:=h.hcap;have hmax:=h.hmax;have HL:=ae h.hlen;have hx0:=Ext.alloc w (bm a na ca b nb cb c nc cc);have HX0:=ae hx0;have HI:=ae (h.ext hx0);have HLL:=ae hl;have HO:=ae (OwnI.madeS (w.alloc (bm a na ca b nb cb c nc cc)) (w.heap.size+1) _ rfl (by simp));clear h hx0 hl;go_enter Tryz.func255,Tryz.ntmps255
 go_wp2_with fail
 go_loopg [5,12] na (fun gk o ii wr=>∃ (k:Nat) (a1:Option Addr) (n1 p1:Nat),Hid (gk+k=na)/\ii=.int .i64 (k:Int)/\o=.slice a1 n1 p1/\Hid (OwnI wr (w.heap.size+1) (.slice a1 n1 p1) (colL (A.take k) j))/\Hid (Ext (w.alloc (bm a na ca b nb cb c nc cc)) wr))
 case atStart=>exact ⟨0,_,_,_,ae (by omega),rfl,rfl,ae (by simpa [colL] using HO.out),ae (Ext.alloc _ _)⟩
 case round =>
  obtain ⟨g1,h_g1⟩:∃ x,x=gk:=⟨_,rfl⟩;subst h_g1;obtain ⟨wr1,h_wr1⟩:∃ x,x=wr:=⟨_,rfl⟩;subst h_wr1;obtain ⟨k,a1,n1,p1,HK,rfl,rfl,HO1,HX1⟩:=hrel;have hsz:=HX1.out.size;rw [World.size_alloc] at hsz;by_cases hlt:k<na
  ·obtain ⟨gb,goff,ra,rn,rc,rfl,hgc,hrow⟩:=(HI.out.ext HX1.out).at hlt;have hrn:rn=m:=by rw [<-hrow.hlen];exact HLL.out k hlt
   subst hrn;obtain ⟨eb,eoff,rfl,hec⟩:=hrow.at hj;obtain ⟨x,hx⟩:∃ x,x=(A[k]?.getD [])[j]?.getD 0:=⟨_,rfl⟩;rw [<-hx] at hec;have HS:=ae (show colL (A.take k) j++[x]=colL (A.take (k+1)) j by rw [hx];exact kK (by rw [HL.out];exact hlt));have HLK:=ae (show (colL (A.take k) j).length=k by simp [colL];have:=HL.out;omega);have hrc:=hrow.hcap;have hrm:=hrow.hmax;clear hrow hx
   go_wp2_with (first
    | (at_builtin;refine bw rfl _ _ rfl (w.heap.size+1) (.slice a1 n1 p1) _ rfl (HO1.out.ext (Ext.alloc _ _)) _ 1 _ [x] rfl (Ints.oneS _ _ _ _ (by simp)) (by rw [HLK.out];omega) (by simp;omega) ?_;intro v2 w3 ho hg hnear;have X5:=ae (aq (HX1.out.trans (Ext.alloc _ _)) hg (fun i hi=>by have:=(HO1.out.lt i hi).1;simpa using this));obtain ⟨a2,n2,c2,rfl,HN2⟩:=ho.var;have HO4:=ae ho;clear ho hg hnear))
   go_roundg (g1-1)
   case measure=>have:=HK.out;omega
   case rel=>exact ⟨k+1,a2,n2,c2,ae (by have:=HK.out;omega),by go_num,rfl,ae (by rw [<-HS.out];exact HO4.out),X5⟩
  ·have hkn:na=k:=by have:=HK.out;omega
   subst hkn;have HT:=ae (show A.take na=A from List.take_of_length_le (by rw [HL.out];exact Nat.le_refl _));rw [HT.out] at HO1;go_wp2_with fail;go_ret;exact ⟨⟨_,rfl,HO1.out.mono (Nat.le_succ _)⟩,HX0.out.trans HX1.out⟩
theorem eZ (p:Nat->Bool) (k:Nat):(List.range (k+1)).all p=((List.range k).all p&&p k):=by
 rw [List.range_succ,List.all_append];simp
theorem cM {p:Nat->Bool} {k n:Nat} (h:k<n) (hp:p k=false):(List.range n).all p=false:=by
 rw [List.all_eq_false];exact ⟨k,List.mem_range.2 h,by simp [hp]⟩
theorem lS (x:Int) (w:World):Calls Tryz.prog 247 #[.int .i64 x] w fun e w'=>e=.returned (.bool (!inB x (-5000) 5000))/\w=w':=by
 go_enter Tryz.func247,Tryz.ntmps247
 go_wp2_with (first|(go_at_call 80;refine (aU _ _ _ _).mono ?_;rintro e w' ⟨rfl,rfl⟩));go_ret;exact ⟨rfl,rfl⟩
theorem ia:IsGo Tryz.prog 247:=isGo Tryz.func247 (by kernel_rfl) (by kernel_rfl)
theorem fX (w:World):Asks Tryz.prog w 247 #[] (fun x=>!inB x (-5000) 5000) :=
 fun x w1 _=>(lS x w1).mono fun e w' ⟨he,hw⟩=>⟨he,hw ▸ Ext.refl _⟩
def dp (m:Nat) (r:List Int):Bool:=decide (r.length=m)&&r.all (inB · (-5000) 5000)
theorem km (l:List Int):l.any (fun x=>!inB x (-5000) 5000)=!l.all (inB · (-5000) 5000):=by rw [List.not_all_eq_any_not]
theorem gO (A:List (List Int)) (B:List Int) (C:List (Int × Int)):okLP A B C=(decide (C.length<=70)&&(decide (A.length<=8)&&(decide (B.length=A.length)&&(allV C&&(A.all (dp C.length)&&B.all (inB · (-5000) 5000)))))):=rfl
theorem kJ {p:List Int->Bool} {l:List (List Int)} {k:Nat} (h:k<l.length):(l.take (k+1)).all p=((l.take k).all p&&p (l[k]?.getD [])):=by
 rw [dR h];simp
theorem fo {p:List Int->Bool} {l:List (List Int)} {k:Nat} (h:k<l.length) (hb:p (l[k]?.getD [])=false):l.all p=false:=by
 rw [List.all_eq_false];exact ⟨l[k],List.getElem_mem h,by rw [List.getElem?_eq_getElem h] at hb;simpa using hb⟩
section
variable {w:World} {a:Option Addr} {na ca:Nat} {b:Option Addr} {nb cb:Nat} {c:Option Addr} {nc cc:Nat} {A:List (List Int)} {B:List Int} {C:List (Int × Int)}
set_option maxHeartbeats 8000000 in
theorem dJ (h:LpC w a na ca b nb cb c nc cc A B C) :
 Calls Tryz.prog 197 #[lpW a na ca b nb cb c nc cc] w fun e w'=>e=.returned (.bool (okLP A B C))/\Ext w w':=by
 have hx0:=Ext.alloc w (bm a na ca b nb cb c nc cc);have HX0:=ae hx0;have H:=ae (h.ext hx0);have HE:=ae (gO A B C);have ha1:=h.a.hcap;have ha2:=h.a.hmax;have hb1:=h.b.hcap;have hb2:=h.b.hmax;have hc1:=h.c.hcap;have hc2:=h.c.hmax;have HLA:=ae h.a.hlen;have HLB:=ae h.b.hlen;have HLC:=ae h.c.hlen;clear h hx0;by_cases h1:nc<=70
 ·by_cases h2:na<=8
  ·by_cases h3:nb=na
   ·subst h3;have hbb:((nb:Int) != (nb:Int))=false:=by simp
    have HE2:=ae (show okLP A B C=(allV C&&(A.all (dp nc)&&B.all (inB · (-5000) 5000))) by
     rw [HE.out,HLA.out,HLB.out,HLC.out,decide_eq_true h1,decide_eq_true h2,decide_eq_true rfl];rfl)
    have HV:=ae (jK H.out.c);cases hv:allV C
    ·rw [hv] at HV HE2;clear hv;go_enter Tryz.func197,Tryz.ntmps197
     go_wp2_with fail;refine HV.out.mono ?_;rintro e w1 ⟨rfl,hx⟩;have X1:=ae (HX0.out.trans hx);clear hx;go_wp2_with fail;go_ret;exact ⟨ag HE2.out.symm,X1.out⟩
    ·rw [hv] at HV HE2;clear hv;go_enter Tryz.func197,Tryz.ntmps197
     go_wp2_with fail;refine HV.out.mono ?_;rintro e w1 ⟨rfl,hx⟩;have hc0:w1.cell? ⟨w.heap.size,0,none⟩=some (.slice a nb ca):=hx.cellSome (by simp);have hcb:w1.cell? ⟨w.heap.size,1,none⟩=some (.slice b nb cb):=hx.cellSome (by simp);have hcc:w1.cell? ⟨w.heap.size,2,none⟩=some (.slice c nc cc):=hx.cellSome (by simp);have HC1:=ae hcb;have HC2:=ae hcc;have H1:=ae (H.out.ext hx);have X1:=ae (HX0.out.trans hx);clear hx hcb hcc;go_wp2_with fail
     go_loopg [34] nb (fun gk ii wr=>∃ k:Nat,Hid (gk+k=nb)/\ii=.int .i64 (k:Int)/\Hid ((A.take k).all (dp nc)=true)/\Hid (Ext w1 wr))
     case atStart=>exact ⟨0,ae (by omega),rfl,ae rfl,ae (Ext.refl _)⟩
     case round =>
      obtain ⟨g1,h_g1⟩:∃ x,x=gk:=⟨_,rfl⟩;subst h_g1;obtain ⟨wr1,h_wr1⟩:∃ x,x=wr:=⟨_,rfl⟩;subst h_wr1;obtain ⟨k,HK,rfl,HA,HX⟩:=hrel;clear hc0;by_cases hlt:k<nb
      ·obtain ⟨gb,goff,ra,rn,rc,hga,hgc,hrow⟩:=(H1.out.ext HX.out).a.at hlt;subst hga;have hcc:=HX.out.cellSome HC2.out;have HLR:=ae hrow.hlen;have hrn:=hrow.hcap;have hrm:=hrow.hmax;have HKA:=ae (show k<A.length by rw [HLA.out];exact hlt);have HCF:=ae (dL hrow ia (fX _));clear hrow;cases hl:((rn:Int) != (nc:Int))
       ·cases hr:(A[k]?.getD []).all (inB · (-5000) 5000)
        ·have HF:=ae (show okLP A B C=false by
          rw [HE2.out,fo HKA.out (by unfold dp;rw [hr];simp)];rfl)
         rw [km,hr] at HCF;clear hr;go_wp2_with fail;refine HCF.out.mono ?_;rintro e w2 ⟨rfl,hx2⟩;have X2:=ae ((X1.out.trans HX.out).trans hx2);clear hx2;go_wp2_with fail;go_ret;exact ⟨ag HF.out.symm,X2.out⟩
        ·have HT:=ae (show (A.take (k+1)).all (dp nc)=true by
          rw [kJ HKA.out,HA.out];unfold dp;rw [hr,HLR.out];simp at hl ⊢;omega)
         rw [km,hr] at HCF;clear hr;go_wp2_with fail;refine HCF.out.mono ?_;rintro e w2 ⟨rfl,hx2⟩;have X2:=ae (HX.out.trans hx2);clear hx2;go_wp2_with fail
         go_roundg (g1-1)
         case measure=>have:=HK.out;omega
         case rel=>exact ⟨k+1,ae (by have:=HK.out;omega),by go_num,HT,X2⟩
       ·have HF:=ae (show okLP A B C=false by
         rw [HE2.out,fo HKA.out (by unfold dp;rw [HLR.out,decide_eq_false (by simp at hl;omega)];rfl)];rfl)
        go_wp2_with fail;go_ret;exact ⟨ag HF.out.symm,X1.out.trans HX.out⟩
      ·have hkn:nb=k:=by have:=HK.out;omega
       subst hkn;have HT:=ae (show A.all (dp nc)=true by have:=HA.out;rwa [List.take_of_length_le (by rw [HLA.out];exact Nat.le_refl _)] at this);have hcb:=HX.out.cellSome HC1.out;have HCF:=ae (dL (H1.out.ext HX.out).b ia (fX _));rw [km] at HCF;go_wp2_with fail;refine HCF.out.mono ?_;rintro e w2 ⟨rfl,hx2⟩;have X2:=ae ((X1.out.trans HX.out).trans hx2);clear hx2;go_wp2_with fail;go_ret;exact ⟨ag (by rw [HE2.out,HT.out];simp),X2.out⟩
   ·have HF:=ae (show okLP A B C=false by rw [HE.out,HLA.out,HLB.out,decide_eq_false h3];simp);have hbb:((nb:Int) != (na:Int))=true:=by simp;omega
    go_enter Tryz.func197,Tryz.ntmps197
    go_wp2_with fail;go_ret;exact ⟨ag HF.out.symm,HX0.out⟩
  ·have HF:=ae (show okLP A B C=false by rw [HE.out,HLA.out,decide_eq_false h2];simp);go_enter Tryz.func197,Tryz.ntmps197
   go_wp2_with fail;go_ret;exact ⟨ag HF.out.symm,HX0.out⟩
 ·have HF:=ae (show okLP A B C=false by rw [HE.out,HLC.out,decide_eq_false h1];simp);go_enter Tryz.func197,Tryz.ntmps197
  go_wp2_with fail;go_ret;exact ⟨ag HF.out.symm,HX0.out⟩
end
end Go.Proofs.YthjjfkeacobikaaGreat
namespace Go.Proofs.YthjjfkeacobikaaGreat
set_option maxRecDepth 100000
open Go.RowKit
theorem eD {r:List Int} (h:∀ x ∈ r,-5000<=x/\x<=5000):dC r=aw r:=by
 unfold dC fitL;rw [if_pos];rw [List.all_eq_true];intro x hx;have:=h x hx;simp [inB];omega
def eK (A:List (List Int)) (x:List (Int × Int)) (B:List Int) (i:Nat):Bool:=decide (dotL (aw (A[i]?.getD [])) x=some (B[i]?.getD 0,1))
theorem kS (A:List (List Int)) (x:List (Int × Int)) (B:List Int):cU A x B=(List.range A.length).all (eK A x B):=rfl
set_option maxHeartbeats 8000000 in
theorem nL {w:World} {a:Option Addr} {na ca:Nat} {b:Option Addr} {nb cb:Nat} {c:Option Addr} {nc cc:Nat} {A:List (List Int)} (h:dD w a na ca A) {xa:Option Addr} {xn xcap:Nat} {X:List (Int × Int)} (hX:Rats w xa xn xcap X)
 {da:Option Addr} {dn dcap:Nat} {D:List Int} (hD:Ints w da dn dcap D) (hdn:na<=dn) (hrow:∀ i,i<na->(A[i]?.getD []).length<=70/\∀ x ∈ A[i]?.getD [],-5000<=x/\x<=5000) :
 Calls Tryz.prog 257 #[lpW a na ca b nb cb c nc cc,.slice xa xn xcap,.slice da dn dcap] w fun e w'=>e=.returned (.bool (cU A X D))/\Ext w w':=by
 have hx0:=Ext.alloc w (bm a na ca b nb cb c nc cc);have HX0:=ae hx0;have HI:=ae (h.ext hx0);have HXX:=ae (hX.ext hx0);have HDD:=ae (hD.ext hx0);have HRW:=ae hrow;have ha1:=h.hcap;have ha2:=h.hmax;have hd1:=hD.hcap;have hd2:=hD.hmax;have HLA:=ae h.hlen;have HE:=ae (show cU A X D=(List.range na).all (eK A X D) by rw [kS,HLA.out]);clear h hX hD hx0 hrow;go_enter Tryz.func257,Tryz.ntmps257
 go_wp2_with fail
 go_loopg [14] na (fun gk ii wr=>∃ k:Nat,Hid (gk+k=na)/\ii=.int .i64 (k:Int)/\Hid ((List.range k).all (eK A X D)=true)/\Hid (Ext (w.alloc (bm a na ca b nb cb c nc cc)) wr))
 case atStart=>exact ⟨0,ae (by omega),rfl,ae rfl,ae (Ext.refl _)⟩
 case round =>
  obtain ⟨g1,h_g1⟩:∃ x,x=gk:=⟨_,rfl⟩;subst h_g1;obtain ⟨wr1,h_wr1⟩:∃ x,x=wr:=⟨_,rfl⟩;subst h_wr1;obtain ⟨k,HK,rfl,HA,HX⟩:=hrel;have hsz:=HX.out.size;rw [World.size_alloc] at hsz;by_cases hlt:k<na
  ·obtain ⟨gb,goff,ra,rn,rc,hga,hgc,hrow⟩:=(HI.out.ext HX.out).at hlt;subst hga;have hrn:rn<=70:=by rw [<-hrow.hlen];exact (HRW.out k hlt).1
   have HRT:=ae (fO hrow (by omega));rw [eD (HRW.out k hlt).2] at HRT;clear hrow;go_wp2_with fail;refine HRT.out.mono ?_;rintro e w2 ⟨⟨v2,rfl,ho2⟩,hx2⟩;obtain ⟨a2,n2,c2,rfl,hn2⟩:=ho2.var;have X2:=ae (HX.out.trans hx2);have HD:=ae (eB ho2.rats (HXX.out.ext X2.out));clear ho2 hx2 hn2;obtain ⟨dv,hdv⟩:∃ d,d=dotL (aw (A[k]?.getD [])) X:=⟨_,rfl⟩;have HG:=ae (show eK A X D k=decide (dv=some (D[k]?.getD 0,1)) by rw [hdv];rfl);rw [<-hdv] at HD;clear hdv;obtain ⟨db,doff,hda,hdc⟩:=(HDD.out.ext X2.out).at (show k<dn by omega);subst hda;obtain ⟨d,hd⟩:∃ d,d=D[k]?.getD 0:=⟨_,rfl⟩;rw [<-hd] at HG hdc;clear hd;cases dv with
   | none =>
     rw [show optR none=((0,0),false) from rfl] at HD;have HF:=ae (show cU A X D=false by rw [HE.out];exact cM hlt (by rw [HG.out];rfl));go_wp2_with fail;refine HD.out.mono ?_;rintro e w3 ⟨rfl,hx3⟩;have X3:=ae (X2.out.trans hx3);clear hx3 hdc;obtain ⟨E,hE⟩:∃ E,E=w3.alloc (.cells #[.int .i64 0,.int .i64 0] 43):=⟨_,rfl⟩;have XE:=ae (show Ext w3 E by rw [hE];exact Ext.alloc _ _);go_upto_region 5 with fail;rw [<-hE];clear hE;have hk2:Ext E E.drew:=Ext.drew E;refine wp_region_held_drew (S:=(fun w'=>Ext E w')) (by kernel_rfl) ?_ (fun hHeld=>?_)
     ·exact hk2
     refine tk 0 ?_;refine tk 1 ?_;refine tk 2 ?_;refine sk 3 ?_;refine sk 4 ?_;refine sk 5 ?_;refine sk 6 ?_;refine sk 7 ?_;refine sk 8 ?_;refine sk 9 ?_;refine tk 10 ?_;refine wpAnyH_done (by kernel_rfl) ?_ _;go_wp2_with fail;go_ret;exact ⟨ag HF.out.symm,((HX0.out.trans X3.out).trans XE.out).trans hk2⟩
   | some r =>
     obtain ⟨r1,r2⟩:=r;rw [show optR (some (r1,r2))=((r1,r2),true) from rfl] at HD;go_wp2_with fail;refine HD.out.mono ?_;rintro e w3 ⟨rfl,hx3⟩;replace hdc:=hx3.cellSome hdc;have X3:=ae (X2.out.trans hx3);clear hx3;obtain ⟨E,hE⟩:∃ E,E=w3.alloc (.cells #[.int .i64 r1,.int .i64 r2] 43):=⟨_,rfl⟩;have hxE:Ext w3 E:=by rw [hE];exact Ext.alloc _ _
     have XE:=ae (X3.out.trans hxE);have e0:=hxE.cellSome hdc;have b0:E.cell? ⟨w3.heap.size,0,none⟩=some (.int .i64 r1):=by rw [hE];simp
     have b1:E.cell? ⟨w3.heap.size,1,none⟩=some (.int .i64 r2):=by rw [hE];simp
     go_upto_region 5 with fail;rw [<-hE];clear hE hdc hxE;have hkd:(k:Int)<(dn:Int):=by omega
     have hk0:(0:Int)<=(k:Int):=by omega
     have hk2:Ext E E.drew:=Ext.drew E;have HKEEP:=ae (fun (w':World) (h:Ext E w')=>(⟨h.cellSome e0,h.cellSome b0,h.cellSome b1,h⟩:w'.cell? ⟨db,doff+k,none⟩=some (.int .i64 d)/\w'.cell? ⟨w3.heap.size,0,none⟩=some (.int .i64 r1)/\w'.cell? ⟨w3.heap.size,1,none⟩=some (.int .i64 r2)/\Ext E w'));have HG2:=ae (show eK A X D k=((r1 == d)&&(r2 == 1)) by rw [HG.out,Bool.eq_iff_iff];simp);cases hx1:(r1 == d)
     all_goals
      cases hy1:(r2 == 1)
     all_goals
      have HG3:=ae HG2.out;rw [hx1,hy1] at HG3
      go_region_held3 (fun w'=>w'.cell? ⟨db,doff+k,none⟩=some (.int .i64 d)/\w'.cell? ⟨w3.heap.size,0,none⟩=some (.int .i64 r1)/\w'.cell? ⟨w3.heap.size,1,none⟩=some (.int .i64 r2)/\Ext E w')
       (first
         | with_reducible exact HKEEP.out _ hk2)
       (first
         | (go_at_call 112
            (with_reducible refine (cz _ _).mono ?_)
            rintro e w5 ⟨rfl,hx5⟩
            have hk2:Ext E w5:=hk2.trans hx5)
         | fail)
      have X5:=ae (XE.out.trans hk2);clear hk2
     all_goals try (
      have HF:=ae (show cU A X D=false by rw [HE.out];exact cM hlt (by rw [HG3.out];rfl));go_wp2_with fail;go_ret
      exact ⟨ag HF.out.symm,HX0.out.trans X5.out⟩)
     have HT:=ae (show (List.range (k+1)).all (eK A X D)=true by rw [eZ,HA.out,HG3.out];rfl);go_wp2_with fail
     go_roundg (g1-1)
     case measure=>have:=HK.out;omega
     case rel=>exact ⟨k+1,ae (by have:=HK.out;omega),by go_num,HT,X5⟩
  ·have hkn:na=k:=by have:=HK.out;omega
   subst hkn;go_wp2_with fail;go_ret;exact ⟨ag (by rw [HE.out,HA.out]),HX0.out.trans HX.out⟩
structure TbC (w:World) (ra:Option Addr) (rn rc:Nat) (ba:Option Addr) (bn bc:Nat) (t:Tb):Prop where
 rows:eW w ra rn rc t.rows
 basis:Ints w ba bn bc t.basis
theorem TbC.ext {w w':World} {ra:Option Addr} {rn rc:Nat} {ba:Option Addr} {bn bc:Nat} {t:Tb} (h:TbC w ra rn rc ba bn bc t) (hx:Ext w w'):TbC w' ra rn rc ba bn bc t:=⟨h.rows.ext hx,h.basis.ext hx⟩
abbrev tbW (ra:Option Addr) (rn rc:Nat) (ba:Option Addr) (bn bc:Nat) (x:Int):Value:=.agg #[.slice ra rn rc,.slice ba bn bc,.int .i64 x]
abbrev bp (ra:Option Addr) (rn rc:Nat) (ba:Option Addr) (bn bc:Nat) (x:Int):Obj:=.cells #[.slice ra rn rc,.slice ba bn bc,.int .i64 x] 83
structure TbO (w:World) (base g:Nat) (va vb:Value) (x:Int) (vs:List Value) (M:List (List (Int × Int))) (l:List Int):Prop where
 box:w.heap[g]?=some (.cells #[va,vb,.int .i64 x] 83 (0,0))
 hg:base<=g
 a:OwnW w base va vs
 rows:cI w base vs M
 b:OwnI w base vb l
section
variable {w:World} {base g:Nat} {va vb:Value} {x:Int} {vs:List Value} {M:List (List (Int × Int))} {l:List Int}
theorem TbO.lt (h:TbO w base g va vb x vs M l):g<w.heap.size:=lt_of_block h.box
theorem TbO.ext {w':World} (h:TbO w base g va vb x vs M l) (hx:Ext w w'):TbO w' base g va vb x vs M l :=
 ⟨(hx.block _ h.lt).trans h.box,h.hg,h.a.ext hx,h.rows.ext hx,h.b.ext hx⟩
theorem al {x y z:Value} {t:TypeId} (h:w.heap[g]?=some (.cells #[x,y,z] t (0,0))):w.cell? ⟨g,0,none⟩=some x:=by rw [cell_of_row w g 0 _ _ _ h];rfl
theorem am {x y z:Value} {t:TypeId} (h:w.heap[g]?=some (.cells #[x,y,z] t (0,0))):w.cell? ⟨g,1,none⟩=some y:=by rw [cell_of_row w g 1 _ _ _ h];rfl
theorem ap {x y z:Value} {t:TypeId} (h:w.heap[g]?=some (.cells #[x,y,z] t (0,0))):w.cell? ⟨g,2,none⟩=some z:=by rw [cell_of_row w g 2 _ _ _ h];rfl
theorem bK {x y z:Value} {t:TypeId} (h:w.heap[g]?=some (.cells #[x,y,z] t (0,0))) (k:Nat):w.frozen? ⟨g,k,none⟩=false:=frozen_of_row w g k _ _ h
theorem TbO.pushA {w1 w2:World} (h:TbO w base g va vb x vs M l) (hx:Ext w w1) {vr va':Value} {r:List (Int × Int)} (hr:OwnR w1 w.heap.size vr r) (hbs:base<=w.heap.size) (hgr:w1.grownBy w2 va.ownBlock) (ho:OwnW w2 base va' (vs++[vr])) :
 TbO (w2.setCell ⟨g,0,none⟩ va') base g va' vb x (vs++[vr]) (M++[r]) l:=by
 have h1:=h.ext hx;have hbox:w2.heap[g]?=some (.cells #[va,vb,.int .i64 x] 83 (0,0)):=(hgr.block g h1.lt (an h1.a h1.box (by decide))).trans h1.box;have hset:∀ k,k ≠ g->(w2.setCell ⟨g,0,none⟩ va').heap[k]?=w2.heap[k]?:=fun k hk=>heap_setCell_other _ _ _ _ hk
 have hB2:OwnI w2 base vb l:=h1.b.keep fun k hk=>hgr.block k (h1.b.lt k hk).2 fun e=>au (by decide) h1.b h1.a k hk e.symm
 have hR1:cI w1 base (vs++[vr]) (M++[r]):=h.rows.snoc hx hr hbs;have hR2:cI w2 base (vs++[vr]) (M++[r]):=hR1.keep fun i k hi hk=>hgr.block k ((hR1.row i hi).lt k hk).2 fun e=>(hR1.row i hi).apart h1.a k hk e.symm
 refine ⟨?_,h.hg,?_,?_,?_⟩
 ·have:=heap_setCell_same w2 g 0 _ _ va' hbox;exact this
 ·exact ho.keep fun k hk=>hset k fun e=>(an ho hbox (by decide)) (by rw [hk,e])
 ·exact hR2.keep fun i k hi hk=>hset k fun e=>(an (hR2.row i hi) hbox (by decide)) (by rw [hk,e])
 ·exact hB2.keep fun k hk=>hset k fun e=>(an hB2 hbox (by decide)) (by rw [hk,e])
theorem TbO.boxA {w1 w2:World} (h:TbO w base g va vb x vs M l) (hx:Ext w w1) (hg:w1.grownBy w2 va.ownBlock):w2.heap[g]?=some (.cells #[va,vb,.int .i64 x] 83 (0,0)) :=
 (hg.block g (h.ext hx).lt (an (h.ext hx).a (h.ext hx).box (by decide))).trans (h.ext hx).box
theorem TbO.boxB {w1 w2:World} (h:TbO w base g va vb x vs M l) (hx:Ext w w1) (hg:w1.grownBy w2 vb.ownBlock):w2.heap[g]?=some (.cells #[va,vb,.int .i64 x] 83 (0,0)) :=
 (hg.block g (h.ext hx).lt (an (h.ext hx).b (h.ext hx).box (by decide))).trans (h.ext hx).box
theorem TbO.pushB {w1 w2:World} (h:TbO w base g va vb x vs M l) (hx:Ext w w1) {vb':Value} {l':List Int} (hgr:w1.grownBy w2 vb.ownBlock) (ho:OwnI w2 base vb' l') :
 TbO (w2.setCell ⟨g,1,none⟩ vb') base g va vb' x vs M l':=by
 have h1:=h.ext hx;have hbox:=h.boxB hx hgr;have hset:∀ k,k ≠ g->(w2.setCell ⟨g,1,none⟩ vb').heap[k]?=w2.heap[k]?:=fun k hk=>heap_setCell_other _ _ _ _ hk
 have hA2:OwnW w2 base va vs:=h1.a.keep fun k hk=>hgr.block k (h1.a.lt k hk).2 fun e=>au (by decide) h1.a h1.b k hk e.symm
 have hR2:cI w2 base vs M:=h1.rows.keep fun i k hi hk=>hgr.block k ((h1.rows.row i hi).lt k hk).2 fun e=>au (by decide) (h1.rows.row i hi) h1.b k hk e.symm
 refine ⟨?_,h.hg,?_,?_,?_⟩
 ·have:=heap_setCell_same w2 g 1 _ _ vb' hbox;exact this
 ·exact hA2.keep fun k hk=>hset k fun e=>(an hA2 hbox (by decide)) (by rw [hk,e])
 ·exact hR2.keep fun i k hi hk=>hset k fun e=>(an (hR2.row i hi) hbox (by decide)) (by rw [hk,e])
 ·exact ho.keep fun k hk=>hset k fun e=>(an ho hbox (by decide)) (by rw [hk,e])
theorem TbO.new {w3:World} {vb:Value} {base':Nat} (hb:OwnI w3 base' vb l) (hb':base<=base') (hs:base<=w3.heap.size) :
 TbO (w3.alloc (.cells #[.slice none 0 0,vb,.int .i64 x] 83)) base w3.heap.size (.slice none 0 0) vb x [] [] l :=
 ⟨heap_alloc_new _ _,hs,World.ownsRow_nil _ base _ 1,cI.nil _ _,(hb.mono hb').ext (Ext.alloc _ _)⟩
theorem TbO.put3 {w3:World} {vb v0 v1 v2:Value} {base':Nat} (hbox:w3.heap[g]?=some (.cells #[v0,v1,v2] 83 (0,0))) (hb:OwnI w3 base' vb l) (hb':base<=base') (hs:base<=g) :
 TbO (((w3.setCell ⟨g,0,none⟩ (.slice none 0 0)).setCell ⟨g,1,none⟩ vb).setCell ⟨g,2,none⟩ (.int .i64 x)) base g (.slice none 0 0) vb x [] [] l:=by
 have e1:=heap_setCell_same w3 g 0 _ _ (.slice none 0 0) hbox;have e2:=heap_setCell_same _ g 1 _ _ vb e1;have e3:=heap_setCell_same _ g 2 _ _ (.int .i64 x) e2;refine ⟨e3,hs,World.ownsRow_nil _ base _ 1,cI.nil _ _,?_⟩;refine (hb.mono hb').keep fun k hk=>?_
 have hne:k ≠ g:=fun e=>(an hb hbox (by decide)) (by rw [hk,e])
 rw [heap_setCell_other _ _ _ _ hne,heap_setCell_other _ _ _ _ hne,heap_setCell_other _ _ _ _ hne]
end
structure OwnT (w:World) (base:Nat) (va vb:Value) (vs:List Value) (t:Tb):Prop where
 a:OwnW w base va vs
 rows:cI w base vs t.rows
 b:OwnI w base vb t.basis
theorem OwnT.ext {w w':World} {base:Nat} {va vb:Value} {vs:List Value} {t:Tb} (h:OwnT w base va vb vs t) (hx:Ext w w'):OwnT w' base va vb vs t:=⟨h.a.ext hx,h.rows.ext hx,h.b.ext hx⟩
theorem OwnT.mono {w:World} {base base':Nat} {va vb:Value} {vs:List Value} {t:Tb} (h:OwnT w base va vb vs t) (hb:base'<=base):OwnT w base' va vb vs t :=
 ⟨by
  refine ⟨h.a.1,?_⟩
  rcases h.a.2 with hn|⟨g,cap,cur,rfl,hbb,rest⟩
  ·exact .inl hn
  ·exact .inr ⟨g,cap,cur,rfl,Nat.le_trans hb hbb,rest⟩,⟨h.rows.len,fun i hi=>(h.rows.row i hi).mono hb,h.rows.apart⟩,h.b.mono hb⟩
theorem OwnT.tbc {w:World} {base:Nat} {ra:Option Addr} {rn rc:Nat} {ba:Option Addr} {bn bc:Nat} {vs:List Value} {t:Tb} (h:OwnT w base (.slice ra rn rc) (.slice ba bn bc) vs t):TbC w ra rn rc ba bn bc t :=
 ⟨jw.ratss ⟨vs,h.a,h.rows⟩,h.b.ints⟩
theorem OwnT.keepAll {w w':World} {base:Nat} {va vb:Value} {vs:List Value} {t:Tb} (h:OwnT w base va vb vs t) (hk:∀ k,base<=k->w'.heap[k]?=w.heap[k]?):OwnT w' base va vb vs t :=
 ⟨h.a.keep fun k e=>hk k (h.a.lt k e).1,h.rows.keep fun i k hi e=>hk k ((h.rows.row i hi).lt k e).1,h.b.keep fun k e=>hk k (h.b.lt k e).1⟩
theorem aV (w:World) (b k:Nat) (x y z:Value) (h:k ≠ b):(((w.setCell ⟨b,0,none⟩ x).setCell ⟨b,1,none⟩ y).setCell ⟨b,2,none⟩ z).heap[k]?=w.heap[k]?:=by
 rw [heap_setCell_other _ _ _ _ h,heap_setCell_other _ _ _ _ h,heap_setCell_other _ _ _ _ h]
theorem TbO.own {w:World} {base g:Nat} {va vb:Value} {x:Int} {vs:List Value} {M:List (List (Int × Int))} {l:List Int} (h:TbO w base g va vb x vs M l):OwnT w base va vb vs ⟨M,l,x⟩:=⟨h.a,h.rows,h.b⟩
theorem Ext.set3 {w w':World} (h:Ext w w') {b:Nat} (hb:w.heap.size<=b) (x y z:Value):Ext w (((w'.setCell ⟨b,0,none⟩ x).setCell ⟨b,1,none⟩ y).setCell ⟨b,2,none⟩ z):=((h.setCell (p:=⟨b,0,none⟩) hb _).setCell (p:=⟨b,1,none⟩) hb _).setCell (p:=⟨b,2,none⟩) hb _
theorem jz {w:World} {a:Option Addr} {n cap:Nat} {l:List (Int × Int)} (h:Rats w a n cap l) (hb:n<=1099511627776) :
 Calls Tryz.prog 209 #[.slice a n cap] w fun e w'=>∃ v,e=.returned v/\OwnR w' w.heap.size v l/\Ext w w':=by
 have heq:∀ w':World,(binOp .eql 36 (.slice a n cap) (.slice none 0 0)).run Tryz.prog w'=.ok (.bool a.isNone) w':=fun w'=>Lib.run_eql_slice_nil w' _ _ a n cap 0 0 Tryz.underlying36
 have HL:=ae h.hlen;cases a with
 | none =>
   have hl:l=[]:=by
    have:¬ 0<n:=fun hn=>by obtain ⟨b,off,e,_⟩:=h.cell 0 hn;cases e
    exact List.eq_nil_of_length_eq_zero (by have:=HL.out;omega)
   simp only [Option.isNone_none] at heq;go_enter Tryz.func209,Tryz.ntmps209
   go_wp2
   go_ret;exact ⟨_,rfl,by rw [hl];exact OwnR.nil w _,Ext.refl _⟩
 | some ad =>
   simp only [Option.isNone_some] at heq;have HI:=ae (h.ext (Ext.alloc w (.cells #[] 43)));have HO:=ae (OwnR.made w w.heap.size (Nat.le_refl _));clear h;go_enter Tryz.func209,Tryz.ntmps209
   go_wp2_with (first|(at_builtin;refine aJ rfl _ _ rfl w.heap.size _ _ rfl HO.out _ n _ l rfl HI.out (by simpa using hb) (by simp) ?_;intro v' w1 ho hg hnear));go_ret;exact ⟨_,rfl,by simpa using ho,aq (Ext.alloc _ _) hg (fun k hk=>Nat.le_of_eq (Option.some.inj (show some w.heap.size=some k from hk)))⟩
end Go.Proofs.YthjjfkeacobikaaGreat
