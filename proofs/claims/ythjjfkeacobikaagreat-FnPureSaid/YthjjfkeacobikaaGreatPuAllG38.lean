import Derived.Test.YthjjfkeacobikaaGreatPuAllG27
set_option linter.unusedVariables false
set_option linter.unusedSimpArgs false
namespace Go.Proofs.YthjjfkeacobikaaGreat
open Go.RowKit
abbrev nuc (o:Bool) (a:Option Addr) (n cap:Nat) (b:Option Addr) (m dap:Nat) (x:Int):Value:=.agg #[.bool o,.slice a n cap,.slice b m dap,.int .i64 x]
def fB (o:Bool) (l:List (Int × Int)) (r:List (Int × Int × Int)) (x:Int) (o':Bool) (l':List (Int × Int)) (r':List (Int × Int × Int)) (x':Int):Bool :=
 decide (o=o')&&(decide (l=l')&&(decide (r=r')&&decide (x=x')))
set_option maxHeartbeats 2000000 in
theorem jp {w:World} {o o':Bool} {x x':Int} {a a' b b':Option Addr} {n n' m m' cap cap' dap dap':Nat} {l l':List (Int × Int)} {r r':List (Int × Int × Int)} (h:Rats w a n cap l) (hr:Fixs w b m dap r) (h':Rats w a' n' cap' l') (hr':Fixs w b' m' dap' r') :
 Calls Tryz.prog 53 #[nuc o a n cap b m dap x,nuc o' a' n' cap' b' m' dap' x'] w fun e w'=>e=.returned (.bool (fB o l r x o' l' r' x'))/\Ext w w':=by
 have hx0:Ext w ((w.alloc (.cells #[.bool o,.slice a n cap,.slice b m dap,.int .i64 x] 73)).alloc (.cells #[.bool o',.slice a' n' cap',.slice b' m' dap',.int .i64 x'] 73)):=(Ext.alloc _ _).trans (Ext.alloc _ _);have HX0:=ae hx0;have HE:=ae (ig (h.ext hx0) (h'.ext hx0));have HR:=ae (hr.ext hx0);have HR':=ae (hr'.ext hx0);have hm:=hr.hcap;have hmm:=hr.hmax;have hm':=hr'.hcap;have hmm':=hr'.hmax;clear hx0 h h' hr hr';by_cases ho:o=o'
 ·subst ho;have hob:(o != o)=false:=by simp
  by_cases hx:x=x'
  ·subst hx;cases hl:decide (l=l')
   ·have HLL:=ae hl;rw [hl] at HE;clear hl;go_enter Tryz.func53,Tryz.ntmps53
    go_wp2_with fail;refine HE.out.mono ?_;rintro e w1 ⟨rfl,hx⟩;have X1:=ae (HX0.out.trans hx.ext);clear hx
    go_wp2
    go_ret;exact ⟨ag (by unfold fB;rw [HLL.out];simp),X1.out⟩
   ·have HLL:=ae hl;rw [hl] at HE;clear hl;have HL:=ae HR.out.hlen;have HL':=ae HR'.out.hlen;by_cases hne:m=m'
    ·subst hne;go_enter Tryz.func53,Tryz.ntmps53
     go_wp2_with fail;refine HE.out.mono ?_;rintro e w1 ⟨rfl,hx⟩;have hx':=hx.ext;have c2:w1.cell? ⟨w.heap.size,2,none⟩=some (.slice b m dap):=hx'.cellSome (by simp);have d2:w1.cell? ⟨w.heap.size+1,2,none⟩=some (.slice b' m dap'):=hx'.cellSome (by simp);have C2:=ae c2;have D2:=ae d2;have X1:=ae (HX0.out.trans hx');have h1:=ae (HR.out.ext hx');have h1':=ae (HR'.out.ext hx');clear hx hx'
     go_wp2
     go_loopw [5] (fun i wr=>∃ k:Nat,k<=m/\i=.int .i64 k/\r.take k=r'.take k/\Drew w1 wr) (fun i _=>m-(intOf i).toNat)
     case atStart=>exact ⟨0,Nat.zero_le _,rfl,rfl,Drew.refl _⟩
     case round =>
      obtain ⟨k,hk,rfl,htk,hx⟩:=hrel;have HT:=ae htk;have c2:=hx.ext.cellSome C2.out;have d2:=hx.ext.cellSome D2.out;clear htk;by_cases hlt:k<m
      ·have q1:=h1.out.ext hx.ext;have q1':=h1'.out.ext hx.ext;obtain ⟨g,off,p,q,s,rfl,hxy,hc1,hc2,hc3⟩:=q1.at hlt;obtain ⟨g',off',p',q',s',rfl,hxy',hc1',hc2',hc3'⟩:=q1'.at hlt;have HXY:=ae hxy;have HXY':=ae hxy';clear hxy hxy';by_cases hq:p=p'/\q=q'/\s=s'
       ·obtain ⟨rfl,rfl,rfl⟩:=hq
        go_wp2
        go_quiet (fail)
        go_wp2
        go_roundw
        case rel=>exact ⟨k+1,by omega,by go_num,by rw [ep (by have:=HL.out;omega),ep (by have:=HL'.out;omega),HT.out,HXY.out,HXY'.out],hx.trans ⟨_,rfl⟩⟩
        case measure=>simp [intOf];omega
       ·have HQ:=ae hq;cases hx1:(p == p')
        all_goals
         cases hy1:(q == q')
         all_goals
          cases hz1:(s == s')
        case neg.true.true.true=>exact absurd ⟨by simpa using hx1,by simpa using hy1,by simpa using hz1⟩ hq
        all_goals
         clear hq
         go_wp2
         go_quiet (fail)
         go_wp2
         go_ret;refine ⟨ag ?_,X1.out.trans (hx.trans ⟨_,rfl⟩).ext⟩;have:¬ r=r':=by
          intro e;have:=HXY.out.symm.trans ((congrArg (fun l=>l[k]?.getD (0,0,0)) e).trans HXY'.out);simp only [Prod.mk.injEq] at this;exact HQ.out this
         unfold fB;simp [this]
      ·go_wp2
       go_ret;refine ⟨ag ?_,X1.out.trans hx.ext⟩;have:=HT.out;rw [List.take_of_length_le (by have:=HL.out;omega),List.take_of_length_le (by have:=HL'.out;omega)] at this;unfold fB;rw [HLL.out];simp [this]
    ·have HN:=ae hne;have hnb:((m:Int) != (m':Int))=true:=by simp;omega
     clear hne;go_enter Tryz.func53,Tryz.ntmps53
     go_wp2_with fail;refine HE.out.mono ?_;rintro e w1 ⟨rfl,hx⟩;have hx':=hx.ext;have c2:w1.cell? ⟨w.heap.size,2,none⟩=some (.slice b m dap):=hx'.cellSome (by simp);have d2:w1.cell? ⟨w.heap.size+1,2,none⟩=some (.slice b' m' dap'):=hx'.cellSome (by simp);have X1:=ae (HX0.out.trans hx');clear hx hx'
     go_wp2
     go_ret;refine ⟨ag ?_,X1.out⟩;have:¬ r=r':=fun e=>HN.out (by rw [<-HL.out,<-HL'.out,e])
     unfold fB;simp [this]
  ·have HO:=ae hx;have hob:(x != x')=true:=by simpa using hx
   clear hx;go_enter Tryz.func53,Tryz.ntmps53
   go_wp2_with fail;go_ret;exact ⟨ag (by unfold fB;simp [HO.out]),HX0.out⟩
 ·have HO:=ae ho;have hob:(o == o')=false:=by simpa using ho
  clear ho;go_enter Tryz.func53,Tryz.ntmps53
  go_wp2_with fail;go_ret;exact ⟨ag (by unfold fB;simp [HO.out]),HX0.out⟩
end Go.Proofs.YthjjfkeacobikaaGreat
