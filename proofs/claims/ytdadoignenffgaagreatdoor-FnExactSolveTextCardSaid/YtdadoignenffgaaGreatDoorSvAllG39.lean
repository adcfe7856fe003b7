import Derived.Test.YtdadoignenffgaaGreatDoorSvAllG33
import Derived.Test.YtdadoignenffgaaGreatDoorSvAllG3
import Derived.Test.YtdadoignenffgaaGreatDoorSvAllG1
import Derived.Deep.DeepCutAuto
set_option linter.unusedVariables false
set_option linter.unusedSimpArgs false
namespace Go.Proofs.YtdadoignenffgaaGreatDoor
variable{w:World}
set_option maxHeartbeats 16000000
theorem rz(p:Int)(V:j7):∀(f:Nat) (L:j2) (k:Nat),(Ay p V f L k).pt.length<=p.toNat/\(Ay p V f L k).st.length<=L.length+f*V.length
 | 0,L,k=>⟨Nat.zero_le _,Nat.zero_le _⟩
 | f+1,L,k=>by
   have ih:=rz p V f (de V L (bQ p.toNat V L)) (k+1);have hl:(de V L (bQ p.toNat V L)).length<=L.length+V.length:=by
    unfold de;rw[List.length_append];have h1:=iT (wM V L) (bQ p.toNat V L) (wM V L).length;have h2:(wM V L).length<=V.length-2:=dA L (V.length-2);omega
   have hm:(f+1)*V.length=f*V.length+V.length:=Nat.succ_mul _ _;unfold Ay
   split
   ·split
    ·refine⟨?_,?_⟩
     ·show((_:j4).map uU).length<=_;rw[List.length_map,List.length_take];omega
     ·show(de V L (bQ p.toNat V L)).length<=_;omega
    ·exact⟨ih.1,by omega⟩
   ·exact⟨Nat.zero_le _,Nat.zero_le _⟩
theorem rA(p:Int)(V:j7):(zr p V).pt.length<=5/\(zr p V).st.length<=2000:=by
 unfold zr
 split
 ·next h =>
  split
  ·exact⟨by show 1<=5;omega,Nat.zero_le _⟩
  ·obtain⟨_,E,_,_,h5,_⟩:=gF h;have hb:=rz p V ((wM V []).length+1) [] 0;have h2:(wM V []).length<=V.length-2:=dA [] (V.length-2);have h3:((wM V []).length+1)*V.length<=32*32:=Nat.mul_le_mul e7 E;simp only[List.length_nil]at hb;exact⟨by omega,by omega⟩
 ·exact⟨Nat.zero_le _,Nat.zero_le _⟩
set_option maxRecDepth 100000
open Go.RowKit
structure Bytes(w:World)(a:j6)(n cap:Nat):Prop where
 l8:n<=cap
 o0:cap<=9223372036854775807
 cell:∀k,k<n->∃b off,a=some ⟨b,off,none⟩/\∀k,k<n->∃x:Int,w.cell? ⟨b,off+k,none⟩=some (.int .u8 x)/\0<=x/\x<=255
def Cur(w:World)(cb:Nat):Prop:=∃(ba:j6) (bn bc:Nat) (i h:Int),w.heap[cb]?=some (.cells #[.slice ba bn bc,.int .i64 i,.int .i64 h] 95 (0,0))/\Bytes w ba bn bc/\0<=i/\i<=bn/\∀b off,ba=some ⟨b,off,none⟩->0<bn->b<cb
theorem R2{w':World}{b:Nat}(h:w'.heap[b]?=w.heap[b]?)(o:Nat):w'.cell? ⟨b,o,none⟩=w.cell? ⟨b,o,none⟩:=by
 simp only[World.cell?,h]
theorem RY{G E:World}{cb:Nat}(h:w.grownBy G (some cb))(k:G.grownBy E (some cb)):w.grownBy E (some cb):=qE h k (fun k hk=>.inl hk)
def EK(s:Nat)(k:Nat):Nat:=(List.range k).countP fun j=>bit (s:Int) j
theorem uq(s k:Nat):EK s (k+1)=EK s k+if bit (s:Int) k then 1 else 0:=by
 unfold EK;rw[List.range_succ,List.countP_append];simp[List.countP_cons]
theorem Mu(s k:Nat):EK s k<=k:=by unfold EK;exact Nat.le_trans List.countP_le_length e8
theorem I5(s:Nat)(hs:s<4294967296)(w:World):Calls Tryz.prog 41 #[.int .i64 (s:Int)] w fun e w'=>e=.returned (.int .i64 (EK s 5:Int))/\w=w':=by
 go_enter Tryz.func41,Tryz.ntmps41
 go_wp2_with fail
 go_loop [3,4] (fun E kk=>∃k:Nat,k<=5/\kk=.int .i64 (k:Int)/\E=.int .i64 (EK s k:Int)) (fun _ kk=>5-(intOf kk).toNat)
 case atStart=>exact⟨0,by omega,rfl,rfl⟩
 case round =>
  obtain⟨k,hk,rfl,rfl⟩:=hrel;have hple:=Mu s k;by_cases hlt:k<5
  ·have HP:=ae (eg (s:Int) (k:Int) w e7);have HB:=ae (gR (s:Int) k e7 e7);have HS:=ae (uq s k);cases hb:bit (s:Int) k
   all_goals
    rw[HB.o,hb]at HP;rw[hb]at HS;clear hb;go_wp2_with fail;refine HP.o.mono ?_;rintro e w' ⟨rfl,rfl⟩;go_wp2_with fail
    go_round
    case rel=>exact⟨k+1,by omega,by go_num,by rw[HS.o];go_num⟩
    case measure=>simp[intOf];omega
  ·have G:k=5:=by omega
   subst G;go_wp2_with fail;go_ret;exact⟨rfl,rfl⟩
def Tiny(V:j7):Prop:=∀k:Nat,-100<=V[k]?.getD 0/\V[k]?.getD 0<=100
theorem OS{w':World}{cb b:Nat}(hg:w.grownBy w' (some cb))(hb:b<w.heap.size)(hne:b≠cb):w'.heap[b]?=w.heap[b]?:=hg.block b hb fun e=>hne (Option.some.inj e)
structure Dealt(w w':World)(cb most n vb:Nat)(V:j7):Prop where
 lo:1<=n
 hi:n<=most
 len:V.length=cN n
 tiny:Tiny V
 zero:V[0]?.getD 0=0
 row:Row w' vb 3 V
 new:w.heap.size<=vb
 ne:vb≠cb
structure DS(w wr:World)(cb vb gb rb n:Nat)(V:j7):Prop where
 row:Row wr vb 3 V
 cur:Cur wr cb
 gbk:wr.heap[gb]?=some (.cells #[.int .i64 (n:Int),.slice (some ⟨vb,0,none⟩) (cN n) (cN n)] 32 (0,0))
 rbk:wr.heap[rb]?=some (.cells #[.int .i64 0,.slice none 0 0] 32 (0,0))
 grown:w.grownBy wr (some cb)
 apart:vb≠cb/\gb≠cb/\rb≠cb/\gb≠vb/\rb≠vb/\rb≠gb/\w.heap.size<=vb/\w.heap.size<=gb/\w.heap.size<=rb
end Go.Proofs.YtdadoignenffgaaGreatDoor
