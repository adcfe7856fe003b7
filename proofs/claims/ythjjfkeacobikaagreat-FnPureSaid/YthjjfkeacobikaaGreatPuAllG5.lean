import Derived.Test.YthjjfkeacobikaaGreatPuAllG3
import Derived.Test.YthjjfkeacobikaaGreatPuAllG4
import Derived.Deep.DeepCutAuto
import Derived.Test.YthjjfkeacobikaaGreatPuAllG0
import Derived.Deep.RegionHeld3
set_option linter.unusedVariables false
set_option linter.unusedSimpArgs false
namespace Go.Proofs.YthjjfkeacobikaaGreat
open Go.RowKit
structure ah (w W:World) (g:Nat) (p q:Int):Prop where
 ext:Ext w W
 ge:w.heap.size<=g
 cell:W.heap[g]?=some (.cells #[.int .i64 p,.int .i64 q] 43 (0,0))
theorem ah.lt {w W:World} {g:Nat} {p q:Int} (h:ah w W g p q):g<W.heap.size:=lt_of_block h.cell
theorem ah.grow {w W W':World} {g:Nat} {p q:Int} (h:ah w W g p q) (hx:Ext W W'):ah w W' g p q :=
 ⟨h.ext.trans hx,h.ge,(hx.block _ h.lt).trans h.cell⟩
theorem ah.c0 {w W:World} {g:Nat} {p q:Int} (h:ah w W g p q):W.cell? ⟨g,0,none⟩=some (.int .i64 p):=(ai h.cell).1
theorem ah.c1 {w W:World} {g:Nat} {p q:Int} (h:ah w W g p q):W.cell? ⟨g,1,none⟩=some (.int .i64 q):=(ai h.cell).2.1
theorem ah.free {w W:World} {g:Nat} {p q:Int} (h:ah w W g p q) (o:Nat):W.frozen? ⟨g,o,none⟩=false:=(ai h.cell).2.2 o
theorem ah.new {w W:World} (h:Ext w W) (p q:Int):ah w (W.alloc (.cells #[.int .i64 p,.int .i64 q] 43)) W.heap.size p q :=
 ⟨h.trans (Ext.alloc _ _),h.size,heap_alloc_new _ _⟩
theorem ah.new' {w W:World} (h:Ext w W) (p q:Int) {n:Nat} (hn:n=W.heap.size):ah w (W.alloc (.cells #[.int .i64 p,.int .i64 q] 43)) n p q:=by
 subst hn;exact ah.new h p q
theorem ah.put {w W:World} {g:Nat} {p q:Int} (h:ah w W g p q) (p' q':Int):ah w ((W.setCell ⟨g,0,none⟩ (.int .i64 p')).setCell ⟨g,1,none⟩ (.int .i64 q')) g p' q' :=
 ⟨(h.ext.setCell (p:=⟨g,0,none⟩) h.ge (.int .i64 p')).setCell (p:=⟨g,1,none⟩) h.ge (.int .i64 q'),h.ge,by rw [heap_setCell_same _ _ _ _ _ _ (heap_setCell_same _ _ _ _ _ _ h.cell)];rfl⟩
theorem ah.firstD {w w':World} (h:Ext (w.alloc (.cells #[.int .i64 0,.int .i64 0] 43)).drew w'):ah w w' w.heap.size 0 0 :=
 ah.grow ⟨(Ext.alloc _ _).trans (Ext.drew _),Nat.le_refl _,heap_alloc_new w _⟩ h
theorem ah.laterD {w W w':World} (h:Ext w W) (hx:Ext (W.alloc (.cells #[.int .i64 0,.int .i64 0] 43)) w'):ah w w' W.heap.size 0 0 :=
 ah.grow (ah.new h 0 0) hx
def runT (f:Nat->Option (Int × Int)):Nat->Option (List (Int × Int))
 | 0=>some []
 | m+1=>(runT f m).bind fun l=>(f m).map fun x=>l++[x]
theorem dI {f:Nat->Option (Int × Int)} {k:Nat} {r:List (Int × Int)} {x:Int × Int} (h:runT f k=some r) (hx:f k=some x):runT f (k+1)=some (r++[x]):=by simp [runT,h,hx]
theorem jY {f:Nat->Option (Int × Int)} {k:Nat} (h:runT f k=none):∀ {n:Nat},k<=n->runT f n=none
 | n,hn=>by
   obtain ⟨d,rfl⟩:∃ d,n=k+d:=⟨n-k,by omega⟩;clear hn
   induction d with
   | zero=>exact h
   | succ d ih=>show (runT f (k+d)).bind _=none;rw [ih];rfl
theorem fh {f:Nat->Option (Int × Int)} {k n:Nat} {r:List (Int × Int)} (h:runT f k=some r) (hx:f k=none) (hn:k<n):runT f n=none :=
 jY (k:=k+1) (by simp [runT,h,hx]) (by omega)
theorem cW {f:Nat->Option (Int × Int)}:∀ {k:Nat} {r:List (Int × Int)},runT f k=some r->r.length=k
 | 0,r,h=>by simp only [runT,Option.some.injEq] at h;rw [<-h];rfl
 | k+1,r,h=>by
   cases hk:runT f k with
   | none=>simp [runT,hk] at h
   | some l =>
     cases hf:f k with
     | none=>simp [runT,hk,hf] at h
     | some x =>
       rw [dI hk hf] at h;simp only [Option.some.injEq] at h;rw [<-h,List.length_append,cW hk]
       rfl
theorem iG {f:Nat->Option (Int × Int)}:∀ {k:Nat} {r:List (Int × Int)},runT f k=some r->∀ i,i<k->f i=some (r[i]?.getD (0,0))
 | 0,r,h=>fun i hi=>absurd hi (by omega)
 | k+1,r,h=>fun i hi=>by
   cases hk:runT f k with
   | none=>simp [runT,hk] at h
   | some l =>
     cases hf:f k with
     | none=>simp [runT,hk,hf] at h
     | some x =>
       rw [dI hk hf] at h;simp only [Option.some.injEq] at h;subst h;have hl:=cW hk;by_cases hik:i<k
       ·rw [List.getElem?_append_left (by omega)];exact iG hk i hik
       ·obtain rfl:i=k:=by omega
        rw [<-hl,List.getElem?_concat_length,Option.getD_some,hl,hf]
theorem mz {f:Nat->Option (Int × Int)} {F:Nat->Int × Int}:∀ {k:Nat},(∀ i,i<k->f i=some (F i))->runT f k=some ((List.range k).map F)
 | 0,_=>rfl
 | k+1,h=>by
   rw [dI (mz fun i hi=>h i (by omega)) (h k (by omega)),List.range_succ,List.map_append]
   rfl
def sclF (A:List (Int × Int)) (k:Int × Int) (B:List (Int × Int)) (i:Nat):Option (Int × Int) :=
 if (mulR k (B[i]?.getD (0,0))).2=true/\(addR (A[i]?.getD (0,0)) (mulR k (B[i]?.getD (0,0))).1).2=true then some (addR (A[i]?.getD (0,0)) (mulR k (B[i]?.getD (0,0))).1).1 else none
def sclL (A:List (Int × Int)) (k:Int × Int) (B:List (Int × Int)):Option (List (Int × Int)):=if A.length=B.length then runT (sclF A k B) A.length else none
def aw (C:List Int):List (Int × Int):=C.map fun c=>(c,1)
theorem fE (C:List Int):(aw C).length=C.length:=by simp [aw]
theorem lD {C:List Int} {k:Nat} (h:k<C.length):(aw C)[k]?.getD (0,0)=(C[k]?.getD 0,1):=by simp [aw,h]
def fitL (C:List Int):Bool:=C.all fun c=>inB c (-1000000000) 1000000000
set_option maxRecDepth 100000
set_option maxHeartbeats 4000000 in
theorem iR {w:World} {k1 k2:Int} {a b:Option Addr} {n cap n' cap':Nat} {A B:List (Int × Int)} (h:Rats w a n cap A) (h':Rats w b n' cap' B) (hbig:n<=1048576) :
 Calls Tryz.prog 141 #[.slice a n cap,ratV k1 k2,.slice b n' cap'] w fun e w'=>(∃ v,e=.returned (.tuple #[v,.bool (sclL A (k1,k2) B).isSome])/\OwnR w' w.heap.size v ((sclL A (k1,k2) B).getD []))/\Ext w w':=by
 have HL:=ae h.hlen;have HL':=ae h'.hlen;have hmax:=h.hmax;have hcap:=h.hcap;have hmax':=h'.hmax;have hcap':=h'.hcap;have HA:=ae h;have HB':=ae h';have HX:=ae (Ext.alloc w (.cells #[.int .i64 k1,.int .i64 k2] 43));clear h h';by_cases hne:n=n'
 ·subst hne;have HS:=ae (show sclL A (k1,k2) B=runT (sclF A (k1,k2) B) n by unfold sclL;rw [HL.out,HL'.out,if_pos rfl]);have HO:=ae (OwnR.made (w.alloc (.cells #[.int .i64 k1,.int .i64 k2] 43)) (w.heap.size+1) (by simp));go_enter Tryz.func141,Tryz.ntmps141
  go_wp2_with fail
  go_loopg [8,22] n (fun gk o i wr=>∃ (k:Nat) (a1:Option Addr) (n1 p1:Nat) (r:List (Int × Int)),Hid (gk+k=n)/\i=.int .i64 (k:Int)/\o=.slice a1 n1 p1/\Hid (runT (sclF A (k1,k2) B) k=some r)/\Hid (OwnR wr (w.heap.size+1) (.slice a1 n1 p1) r)/\Hid (Ext (w.alloc (.cells #[.int .i64 k1,.int .i64 k2] 43)) wr))
  case atStart=>exact ⟨0,_,_,_,[],ae (by omega),rfl,rfl,ae rfl,ae (by simpa using HO.out),ae (Ext.alloc _ _)⟩
  case round =>
   obtain ⟨k,a1,n1,p1,r,HK,rfl,rfl,HR,HO1,HX1⟩:=hrel;have hszr:=HX1.out.size;rw [World.size_alloc] at hszr;by_cases hlt:k<n
   ·have hkc0:wr.cell? ⟨w.heap.size,0,none⟩=some (.int .i64 k1):=HX1.out.cellSome (by simp);have hkc1:wr.cell? ⟨w.heap.size,1,none⟩=some (.int .i64 k2):=HX1.out.cellSome (by simp);obtain ⟨ab,aoff,ax,ay,ha,hax,hac0,hac1⟩:=((HA.out.ext HX.out).ext HX1.out).at hlt;obtain ⟨bb,boff,bx,by',hb,hbx,hbc0,hbc1⟩:=((HB'.out.ext HX.out).ext HX1.out).at hlt;subst ha hb;have HAX:=ae hax;have HBX:=ae hbx;obtain ⟨p,q,one,hm⟩:∃ p q ok,mulR (k1,k2) (bx,by')=((p,q),ok):=⟨_,_,_,rfl⟩;have HM:=ae hm;obtain ⟨p2,q2,two,hs2⟩:∃ u v ok,addR (ax,ay) (p,q)=((u,v),ok):=⟨_,_,_,rfl⟩;have HS2:=ae hs2;clear hax hbx hm hs2;go_upto_region 7 with fail
    go_cut [10,11] (fun sx so wx=>∃ g:Nat,sx=.pointer (some ⟨g,0,none⟩)/\so=.bool one/\Hid (ah wr wx g p q))
    case first =>
     have hk2:Ext wr wr.drew:=Ext.drew wr;have hka:Ext wr (wr.alloc (.cells #[.int .i64 0,.int .i64 0] 43)).drew:=(Ext.alloc _ _).trans (Ext.drew _);have HKEEP:=ae (fun (w':World) (h:Ext wr w')=>(⟨h.cellSome hkc0,h.cellSome hkc1,h.cellSome hbc0,h.cellSome hbc1,h⟩:w'.cell? ⟨w.heap.size,0,none⟩=some (.int .i64 k1)/\w'.cell? ⟨w.heap.size,1,none⟩=some (.int .i64 k2)/\w'.cell? ⟨bb,boff+k*2,none⟩=some (.int .i64 bx)/\w'.cell? ⟨bb,boff+k*2+1,none⟩=some (.int .i64 by')/\Ext wr w'))
     go_region_held3 (fun w'=>w'.cell? ⟨w.heap.size,0,none⟩=some (.int .i64 k1)/\w'.cell? ⟨w.heap.size,1,none⟩=some (.int .i64 k2)/\w'.cell? ⟨bb,boff+k*2,none⟩=some (.int .i64 bx)/\w'.cell? ⟨bb,boff+k*2+1,none⟩=some (.int .i64 by')/\Ext wr w')
      (first
        | with_reducible exact HKEEP.out _ hk2
        | with_reducible exact HKEEP.out _ hka
        | with_reducible exact HKEEP.out _ ((hk2.setCell (by first|(simp;done)|(simp;omega)) _).setCell (by first|(simp;done)|(simp;omega)) _)
        | with_reducible exact HKEEP.out _ (hk2.trans (Ext.alloc _ _))
        | with_reducible exact HKEEP.out _ (hBB.put _ _).ext)
      (first
        | (go_at_call 210
           (with_reducible refine (lU k1 k2 bx by' _).mono ?_)
           rw [HM.out];rintro e w3 ⟨rfl,hx_w3⟩
           first|(with_reducible have hBB:=ah.grow hBB hx_w3)|(with_reducible have hBB:=ah.firstD hx_w3)|(with_reducible have hBB:=ah.laterD hk2 hx_w3)|skip
           first|(have b0_:=hBB.c0;have b1_:=hBB.c1;have fb_:=hBB.free)|skip
           have hk2:Ext wr w3:=by first|with_reducible exact hk2.trans hx_w3|with_reducible exact hka.trans hx_w3|with_reducible exact (hk2.trans (Ext.alloc _ _)).trans hx_w3
           have hk2s:=hk2.size)
        | fail)
     all_goals (go_wp2_with fail;go_meet;first|exact ⟨_,rfl,rfl,ae (hBB.put _ _)⟩|exact ⟨_,rfl,rfl,ae (ah.new hk2 _ _)⟩|exact ⟨_,rfl,rfl,ae (ah.new' hk2 _ _ (by simp))⟩)
    obtain ⟨g,rfl,rfl,HB1⟩:=hcut;have g0:=HB1.out.c0;have g1:=HB1.out.c1;replace hac0:=HB1.out.ext.cellSome hac0;replace hac1:=HB1.out.ext.cellSome hac1;clear hkc0 hkc1 hbc0 hbc1;go_upto_region 8 with fail
    go_cut [12,13] (fun sx so wx=>∃ g2:Nat,sx=.pointer (some ⟨g2,0,none⟩)/\so=.bool two/\Hid (ah wc wx g2 p2 q2))
    case first =>
     have hk2:Ext wc wc.drew:=Ext.drew wc;have hka:Ext wc (wc.alloc (.cells #[.int .i64 0,.int .i64 0] 43)).drew:=(Ext.alloc _ _).trans (Ext.drew _);have HKEEP:=ae (fun (w':World) (h:Ext wc w')=>(⟨h.cellSome hac0,h.cellSome hac1,h.cellSome g0,h.cellSome g1,h⟩:w'.cell? ⟨ab,aoff+k*2,none⟩=some (.int .i64 ax)/\w'.cell? ⟨ab,aoff+k*2+1,none⟩=some (.int .i64 ay)/\w'.cell? ⟨g,0,none⟩=some (.int .i64 p)/\w'.cell? ⟨g,1,none⟩=some (.int .i64 q)/\Ext wc w'))
     go_region_held3 (fun w'=>w'.cell? ⟨ab,aoff+k*2,none⟩=some (.int .i64 ax)/\w'.cell? ⟨ab,aoff+k*2+1,none⟩=some (.int .i64 ay)/\w'.cell? ⟨g,0,none⟩=some (.int .i64 p)/\w'.cell? ⟨g,1,none⟩=some (.int .i64 q)/\Ext wc w')
      (first
        | with_reducible exact HKEEP.out _ hk2
        | with_reducible exact HKEEP.out _ hka
        | with_reducible exact HKEEP.out _ ((hk2.setCell (by first|(simp;done)|(simp;omega)) _).setCell (by first|(simp;done)|(simp;omega)) _)
        | with_reducible exact HKEEP.out _ (hk2.trans (Ext.alloc _ _))
        | with_reducible exact HKEEP.out _ (hBB.put _ _).ext)
      (first
        | (go_at_call 169
           (with_reducible refine (lO ax ay p q _).mono ?_)
           rw [HS2.out];rintro e w4 ⟨rfl,hx_w4⟩
           first|(with_reducible have hBB:=ah.grow hBB hx_w4)|(with_reducible have hBB:=ah.firstD hx_w4)|(with_reducible have hBB:=ah.laterD hk2 hx_w4)|skip
           first|(have b0_:=hBB.c0;have b1_:=hBB.c1;have fb_:=hBB.free)|skip
           have hk2:Ext wc w4:=by first|with_reducible exact hk2.trans hx_w4|with_reducible exact hka.trans hx_w4|with_reducible exact (hk2.trans (Ext.alloc _ _)).trans hx_w4
           have hk2s:=hk2.size)
        | fail)
     all_goals (go_wp2_with fail;go_meet;first|exact ⟨_,rfl,rfl,ae (hBB.put _ _)⟩|exact ⟨_,rfl,rfl,ae (ah.new hk2 _ _)⟩|exact ⟨_,rfl,rfl,ae (ah.new' hk2 _ _ (by simp))⟩)
    obtain ⟨g2,rfl,rfl,HB2⟩:=hcut;have X2:=ae ((HX1.out.trans HB1.out.ext).trans HB2.out.ext);have HO2:=ae ((HO1.out.ext HB1.out.ext).ext HB2.out.ext);have h0:=HB2.out.c0;have h1:=HB2.out.c1;have HF:=ae (show sclF A (k1,k2) B k=if (one&&two)=true then some (p2,q2) else none by unfold sclF;rw [HAX.out,HBX.out,HM.out];simp only;rw [HS2.out];simp only [Bool.and_eq_true]);clear hac0 hac1 g0 g1;cases hb12:(one&&two)
    ·have HN:=ae (show runT (sclF A (k1,k2) B) n=none from fh HR.out (by rw [HF.out,hb12];rfl) hlt);cases one
     case' true=>(have h2:two=false:=by simpa using hb12);subst h2
     all_goals
      clear hb12;go_wp2_with fail;refine bodyPost_ret (v:=.tuple #[.slice none 0 0,.bool false]) (by simp [results,Tryz.results141,go_sem]) rfl ⟨⟨.slice none 0 0,by rw [HS.out,HN.out];rfl,by rw [HS.out,HN.out];exact OwnR.nil _ _⟩,HX.out.trans X2.out⟩
    ·obtain ⟨rfl,rfl⟩:one=true/\two=true:=by simpa using hb12
     have HR2:=ae (dI (x:=(p2,q2)) HR.out (by rw [HF.out];rfl));have HLR:=ae (cW HR.out);have hszc:=X2.out.size;rw [World.size_alloc] at hszc;clear hb12
     go_wp2_with (first
      | (at_builtin;refine aJ rfl _ _ rfl (w.heap.size+1) (.slice a1 n1 p1) _ rfl (HO2.out.ext (Ext.alloc _ _)) _ 1 _ [(p2,q2)] rfl (Rats.one' _ _ _ _ _ (by simp)) (by rw [HLR.out];omega) (by simp;omega) ?_;intro v2 w4 ho hg hnear;obtain ⟨a2,n2,c2,rfl,HN2⟩:=ho.var;have HO4:=ae ho;have X5:=ae (aq (X2.out.trans (Ext.alloc _ _)) hg (fun j hj=>by have:=(HO2.out.lt j hj).1;simpa using this));clear ho hg hnear))
     go_roundg (gk-1)
     case measure=>have:=HK.out;omega
     case rel=>exact ⟨k+1,a2,n2,c2,_,ae (by have:=HK.out;omega),by go_num,rfl,HR2,HO4,X5⟩
   ·have hkn:k=n:=by have:=HK.out;omega
    subst hkn;go_wp2_with fail;refine bodyPost_ret (v:=.tuple #[.slice a1 n1 p1,.bool true]) (by simp [results,Tryz.results141,go_sem]) rfl ⟨⟨.slice a1 n1 p1,by rw [HS.out,HR.out];rfl,by rw [HS.out,HR.out];exact HO1.out.mono (Nat.le_succ _)⟩,HX.out.trans HX1.out⟩
 ·have HN:=ae (show sclL A (k1,k2) B=none by unfold sclL;rw [HL.out,HL'.out,if_neg hne]);go_enter Tryz.func141,Tryz.ntmps141
  go_wp2_with fail;refine bodyPost_ret (v:=.tuple #[.slice none 0 0,.bool false]) (by simp [results,Tryz.results141,go_sem]) rfl ⟨⟨.slice none 0 0,by rw [HN.out];rfl,by rw [HN.out];exact OwnR.nil _ _⟩,HX.out⟩
theorem cz (n:Int) (w:World):Calls Tryz.prog 112 #[.int .i64 n] w fun e w'=>e=.returned (ratV n 1)/\Ext w w':=by
 have HX:=ae (Ext.alloc w (.cells #[.int .i64 n,.int .i64 1] 43));go_enter Tryz.func112,Tryz.ntmps112
 go_wp2
 refine bodyPost_ret (v:=ratV n 1) (by simp [results,Tryz.results112,go_sem]) rfl ⟨rfl,HX.out⟩
theorem ce (n:Int) (w:World):Calls Tryz.prog 86 #[.int .i64 n] w fun e w'=>e=.returned (ratV n 1)/\Ext w w':=by
 have HX:=ae (Ext.alloc w (.cells #[.int .i64 n,.int .i64 1] 43));go_enter Tryz.func86,Tryz.ntmps86
 go_wp2
 refine bodyPost_ret (v:=ratV n 1) (by simp [results,Tryz.results86,go_sem]) rfl ⟨rfl,HX.out⟩
theorem iW {C:List Int} {k:Nat} (h:k<C.length):aw (C.take k)++[(C[k]?.getD 0,1)]=aw (C.take (k+1)):=by
 rw [cw h];simp [aw]
def dC (C:List Int):List (Int × Int):=if fitL C=true then aw C else []
set_option maxHeartbeats 4000000 in
theorem lR {w:World} {a:Option Addr} {n cap:Nat} {C:List Int} (h:Ints w a n cap C) (hbig:n<=1048576) :
 Calls Tryz.prog 240 #[.slice a n cap] w fun e w'=>(∃ v,e=.returned (.tuple #[v,.bool (fitL C)])/\OwnR w' w.heap.size v (dC C))/\Ext w w':=by
 have HL:=ae h.hlen;have hmax:=h.hmax;have hcap:=h.hcap;have HC:=ae h;clear h;have HO:=ae (OwnR.made w w.heap.size (Nat.le_refl _));go_enter Tryz.func240,Tryz.ntmps240
 go_wp2_with fail
 go_loopg [4,10] n (fun gk o i wr=>∃ (k:Nat) (a1:Option Addr) (n1 p1:Nat),Hid (gk+k=n)/\i=.int .i64 (k:Int)/\o=.slice a1 n1 p1/\Hid (fitL (C.take k)=true)/\Hid (OwnR wr w.heap.size (.slice a1 n1 p1) (aw (C.take k)))/\Hid (Ext w wr))
 case atStart=>exact ⟨0,_,_,_,ae (by omega),rfl,rfl,ae rfl,HO,ae (Ext.alloc _ _)⟩
 case round =>
  obtain ⟨k,a1,n1,p1,HK,rfl,rfl,HF,HO1,HX1⟩:=hrel;by_cases hlt:k<n
  ·obtain ⟨b,off,ha,hc⟩:=(HC.out.ext HX1.out).at hlt;subst ha;obtain ⟨c,hcc⟩:∃ c,c=C[k]?.getD 0:=⟨_,rfl⟩;rw [<-hcc] at hc;have HCC:=ae hcc;have hszr:=HX1.out.size;clear hcc;have HKL:=ae (show k<C.length by have:=HL.out;omega);cases hin:inB c (-1000000000) 1000000000
   ·have HN:=ae (show fitL C=false by
     rw [<-Bool.not_eq_true];intro hh;have:=nw (k:=k) hh HKL.out
     rw [<-HCC.out,hin] at this;cases this)
    have HI:=ae (aU c (-1000000000) 1000000000 wr);rw [hin] at HI;clear hin;go_wp2_with fail;refine HI.out.mono ?_;rintro e w2 ⟨rfl,rfl⟩;go_wp2_with fail;refine bodyPost_ret (v:=.tuple #[.slice none 0 0,.bool false]) (by simp [results,Tryz.results240,go_sem]) rfl ⟨⟨.slice none 0 0,by rw [HN.out],by unfold dC;rw [HN.out];exact OwnR.nil _ _⟩,HX1.out⟩
   ·have HF2:=ae (show fitL (C.take (k+1))=true by
     unfold fitL;rw [cw HKL.out,List.all_append];have:=HF.out;unfold fitL at this;rw [this,<-HCC.out]
     simp only [List.all_cons,List.all_nil,hin,Bool.and_self])
    have HI:=ae (aU c (-1000000000) 1000000000 wr);rw [hin] at HI;clear hin;go_wp2_with fail;refine HI.out.mono ?_;rintro e w2 ⟨rfl,rfl⟩;have HLW:=ae (show (aw (C.take k)).length=k by rw [fE,List.length_take];have:=HKL.out;omega)
    go_wp2_with (first
     | (go_at_call 112;refine (cz c _).mono ?_;rintro e w3 ⟨rfl,hx3⟩;have HX3:=ae hx3;have HO3:=ae (HO1.out.ext hx3);have hsz3:=hx3.size;clear hx3)
     | (at_builtin;refine aJ rfl _ _ rfl w.heap.size (.slice a1 n1 p1) _ rfl (HO3.out.ext (Ext.alloc _ _)) _ 1 _ [(c,1)] rfl (Rats.one' _ _ _ _ _ (by simp)) (by rw [HLW.out];omega) (by simp;omega) ?_;intro v2 w4 ho hg hnear;obtain ⟨a2,n2,c2,rfl,HN2⟩:=ho.var;have HO4:=ae ho;have X4:=ae (aq ((HX1.out.trans HX3.out).trans (Ext.alloc _ _)) hg (fun j hj=>(HO3.out.lt j hj).1));clear ho hg hnear))
    go_roundg (gk-1)
    case measure=>have:=HK.out;omega
    case rel=>exact ⟨k+1,a2,n2,c2,ae (by have:=HK.out;omega),by go_num,rfl,HF2,ae (by have:=HO4.out;rw [HCC.out,iW HKL.out] at this;exact this),X4⟩
  ·have hkn:k=n:=by have:=HK.out;omega
   subst hkn;have HT:=ae (show C.take k=C from List.take_of_length_le (by rw [HL.out];exact Nat.le_refl _));go_wp2_with fail;refine bodyPost_ret (v:=.tuple #[.slice a1 n1 p1,.bool true]) (by simp [results,Tryz.results240,go_sem]) rfl ⟨⟨.slice a1 n1 p1,?_,?_⟩,HX1.out⟩
   ·have:=HF.out;rw [HT.out] at this;rw [this]
   ·have h1:=HF.out;have h2:=HO1.out;rw [HT.out] at h1 h2;unfold dC;rw [if_pos h1];exact h2
set_option maxHeartbeats 400000 in
theorem fO {w:World} {a:Option Addr} {n cap:Nat} {C:List Int} (h:Ints w a n cap C) (hbig:n<=1048576) :
 Calls Tryz.prog 179 #[.slice a n cap] w fun e w'=>(∃ v,e=.returned v/\OwnR w' w.heap.size v (dC C))/\Ext w w':=by
 have HI:=ae (lR h hbig);clear h;go_enter Tryz.func179,Tryz.ntmps179
 go_wp2_with fail;refine HI.out.mono ?_;rintro e w1 ⟨⟨v,rfl,ho⟩,hx⟩;have HO:=ae ho;have HX:=ae hx;clear ho hx;go_wp2_with fail;go_ret;exact ⟨⟨v,rfl,HO.out⟩,HX.out⟩
end Go.Proofs.YthjjfkeacobikaaGreat
