import Derived.Test.YthjjfkeacobikaaGreatPuAllG3
import Derived.Deep.DeepCutAuto
import Derived.Test.YthjjfkeacobikaaGreatPuAllG5
import Derived.Test.YthjjfkeacobikaaGreatPuAllG0
import Derived.Test.YthjjfkeacobikaaGreatPuAllG1
set_option linter.unusedVariables false
set_option linter.unusedSimpArgs false
namespace Go.Proofs.YthjjfkeacobikaaGreat
open Go.RowKit
def allV (l:List (Int × Int)):Bool:=l.all valR
theorem oX {p:Int × Int->Bool} {l:List (Int × Int)} {k:Nat} (h:k<l.length):(l.take (k+1)).all p=((l.take k).all p&&p (l[k]?.getD (0,0))):=by
 rw [eo h];simp
theorem oh {p:Int × Int->Bool} {l:List (Int × Int)} {k:Nat} (h:k<l.length) (hb:p (l[k]?.getD (0,0))=false):l.all p=false:=by
 rw [List.all_eq_false];exact ⟨l[k],List.getElem_mem h,by rw [List.getElem?_eq_getElem h] at hb;simpa using hb⟩
set_option maxHeartbeats 1000000 in
theorem hJ {w:World} {a:Option Addr} {n cap:Nat} {l:List (Int × Int)} (h:Rats w a n cap l) :
 Calls Tryz.prog 148 #[.slice a n cap] w fun e w'=>e=.returned (.bool (allV l))/\Ext w w':=by
 have hcap:=h.hcap;have hmax:=h.hmax;have HL:=ae h.hlen;have HI:=ae h;clear h;go_enter Tryz.func148,Tryz.ntmps148
 go_wp2_with fail
 go_loopg [3] n (fun gk ii wr=>∃ k:Nat,Hid (gk+k=n)/\ii=.int .i64 (k:Int)/\Hid ((l.take k).all valR=true)/\Hid (Ext w wr))
 case atStart=>exact ⟨0,ae (by omega),rfl,ae rfl,ae (Ext.refl _)⟩
 case round =>
  obtain ⟨g1,h_g1⟩:∃ x,x=gk:=⟨_,rfl⟩;subst h_g1;obtain ⟨wr1,h_wr1⟩:∃ x,x=wr:=⟨_,rfl⟩;subst h_wr1;obtain ⟨k,HK,rfl,HA,HX⟩:=hrel;by_cases hlt:k<n
  ·obtain ⟨b,off,x,y,rfl,hxy,hc0,hc1⟩:=(HI.out.ext HX.out).at hlt;have HC:=ae (az x y wr1);cases hb:valR (x,y)
   all_goals
    rw [hb] at HC
   ·have HF:=ae (show allV l=false from oh (by rw [HL.out];exact hlt) (by rw [hxy];exact hb));clear hxy hb;go_wp2_with fail;refine HC.out.mono ?_;rintro e w2 ⟨rfl,hx2⟩;go_wp2_with fail;go_ret;exact ⟨ag HF.out.symm,HX.out.trans hx2⟩
   ·have HT:=ae (show (l.take (k+1)).all valR=true by rw [oX (by rw [HL.out];exact hlt),HA.out,hxy,hb];rfl);clear hxy hb;go_wp2_with fail;refine HC.out.mono ?_;rintro e w2 ⟨rfl,hx2⟩;go_wp2_with fail
    go_roundg (g1-1)
    case measure=>have:=HK.out;omega
    case rel=>exact ⟨k+1,ae (by have:=HK.out;omega),by go_num,HT,ae (HX.out.trans hx2)⟩
  ·have HT:=ae (show l.take k=l from List.take_of_length_le (by rw [HL.out];have:=HK.out;omega));go_wp2_with fail;go_ret;exact ⟨ag (by have:=HA.out;rw [HT.out] at this;exact this.symm),HX.out⟩
def negR (r:Int × Int):Int × Int:=(-r.1,r.2)
structure Tb where
 rows:List (List (Int × Int))
 basis:List Int
 cols:Int
def Tb.row (t:Tb) (i:Nat):List (Int × Int):=t.rows[i]?.getD []
def Tb.at (t:Tb) (i j:Nat):Int × Int:=(t.row i)[j]?.getD (0,0)
def tbOk (t:Tb):Bool :=
 inB t.cols 0 1000&&(decide (t.basis.length=t.rows.length)&&(t.basis.all (fun b=>inB b 0 (t.cols+t.rows.length-1))&&t.rows.all (fun r=>decide ((r.length:Int)=t.cols+t.rows.length+1))))
def divF (A:List (Int × Int)) (p:Int × Int) (i:Nat):Option (Int × Int):=if (divR (A[i]?.getD (0,0)) p).2=true then some (divR (A[i]?.getD (0,0)) p).1 else none
def divL (A:List (Int × Int)) (p:Int × Int):Option (List (Int × Int)):=runT (divF A p) A.length
def pivF (t:Tb) (row col:Nat) (main:List (Int × Int)) (st:List (List (Int × Int))) (i:Nat):Option (List (List (Int × Int))) :=
 if (i=row ∨ t.at i col=(0,1)) then some st else (sclL (t.row i) (negR (t.at i col)) main).map fun r=>st.set i r
def pivN (t:Tb) (row col:Nat) (main:List (Int × Int)):Nat->Option (List (List (Int × Int)))
 | 0=>some (t.rows.set row main)
 | k+1=>(pivN t row col main k).bind fun st=>pivF t row col main st k
def et (t:Tb) (row col:Nat):Option Tb :=
 (divL (t.row row) (t.at row col)).bind fun main=>(pivN t row col main t.rows.length).map fun rs=>⟨rs,t.basis.set row (col:Int),t.cols⟩
def cD (t:Tb) (row col:Int):Bool:=tbOk t&&(inB row 0 (t.rows.length-1)&&inB col 0 (t.cols+t.rows.length-1))
def aQ (t:Tb) (row col:Int):Option Tb:=if cD t row col=true then et t row.toNat col.toNat else none
def cu (t:Tb) (cost:List (Int × Int)):Nat->Option (List (Int × Int))
 | 0=>some (cost++[(0,1)])
 | k+1=>(cu t cost k).bind fun out=>sclL out (negR (cost[(t.basis[k]?.getD 0).toNat]?.getD (0,0))) (t.row k)
def jC (t:Tb) (cost:List (Int × Int)):Bool:=tbOk t&&(decide ((cost.length:Int)=t.cols+t.rows.length)&&allV cost)
def bX (t:Tb) (cost:List (Int × Int)):Option (List (Int × Int)):=if jC t cost=true then cu t cost t.rows.length else none
def solN (t:Tb):Nat->List (Int × Int)
 | 0=>List.replicate (t.cols.toNat+t.rows.length) (0,1)
 | k+1=>(solN t k).set (t.basis[k]?.getD 0).toNat (t.at k (t.cols.toNat+t.rows.length))
def solT (t:Tb):List (Int × Int):=if tbOk t=true then solN t t.rows.length else []
def ec (c:Int × Int):Bool:=decide (cmpR c (0,1)<0)
def aZ (costs:List (Int × Int)) (last:Int):Int:=if (costs.length:Int)<last then -1 else bT ec (costs.take last.toNat)
def di (t:Tb) (col:Nat) (st:Int × (Int × Int)) (i:Nat):Int × (Int × Int) :=
 if cmpR (t.at i col) (0,1)<=0 then st
 else if (divR (t.at i (t.cols.toNat+t.rows.length)) (t.at i col)).2=false then st
 else if st.1<0 ∨ cmpR (divR (t.at i (t.cols.toNat+t.rows.length)) (t.at i col)).1 st.2<0 ∨ (cmpR (divR (t.at i (t.cols.toNat+t.rows.length)) (t.at i col)).1 st.2=0/\t.basis[i]?.getD 0<t.basis[st.1.toNat]?.getD 0)
  then ((i:Int),(divR (t.at i (t.cols.toNat+t.rows.length)) (t.at i col)).1) else st
def bP (t:Tb) (col:Nat):Nat->Int × (Int × Int)
 | 0=>(-1,(0,0))
 | k+1=>di t col (bP t col k) k
def cj (t:Tb) (col:Int):Int:=if (tbOk t&&inB col 0 (t.cols+t.rows.length-1))=true then (bP t col.toNat t.rows.length).1 else -1
structure Ph where
 t:Tb
 left:Nat
 costs:List (Int × Int)
 col:Int
def aO (cost:List (Int × Int)):Nat->Tb->Option Ph
 | f,t=>match bX t cost with
   | none=>none
   | some cs =>
     if aZ cs t.cols<0 then some ⟨t,f,cs,-1⟩
     else if cj t (aZ cs t.cols)<0 then some ⟨t,f,cs,aZ cs t.cols⟩
     else match f with
      | 0=>none
      | f+1=>match aQ t (cj t (aZ cs t.cols)) (aZ cs t.cols) with
        | none=>none
        | some t'=>aO cost f t'
def offZ (c:Int × Int):Bool:=decide (c ≠ (0,1))
def fd (n:Nat) (s:Tb × Nat) (k:Nat):Option (Tb × Nat) :=
 if s.1.basis[k]?.getD 0<n then some s
 else if bT offZ ((s.1.row k).take n)<0 then some s
 else match s.2 with
  | 0=>none
  | f+1=>(aQ s.1 k (bT offZ ((s.1.row k).take n))).map fun t=>(t,f)
def aY (n:Nat) (s:Tb × Nat):Nat->Option (Tb × Nat)
 | 0=>some s
 | k+1=>(aY n s k).bind fun s'=>fd n s' k
def sideI (b:Int):Int:=if b<0 then -1 else 1
def kj (m i:Nat):List (Int × Int):=(List.range m).map fun k=>if k=i then (1,1) else (0,1)
def bZ (A:List (List Int)) (B:List Int) (i:Nat):List (Int × Int) :=
 ((A[i]?.getD []).map fun x=>(sideI (B[i]?.getD 0)*x,1))++kj A.length i++[(sideI (B[i]?.getD 0)*B[i]?.getD 0,1)]
def bC (A:List (List Int)) (B:List Int) (n:Nat):Tb:=⟨(List.range A.length).map (bZ A B),(List.range A.length).map fun i=>((n+i:Nat):Int),n⟩
def dotN (A B:List (Int × Int)):Nat->Option (Int × Int)
 | 0=>some (0,1)
 | k+1=>(dotN A B k).bind fun s=>if (mulR (A[k]?.getD (0,0)) (B[k]?.getD (0,0))).2=true/\(addR s (mulR (A[k]?.getD (0,0)) (B[k]?.getD (0,0))).1).2=true
     then some (addR s (mulR (A[k]?.getD (0,0)) (B[k]?.getD (0,0))).1).1 else none
def dotL (A B:List (Int × Int)):Option (Int × Int):=if A.length=B.length then dotN A B A.length else none
def okLP (A:List (List Int)) (B:List Int) (C:List (Int × Int)):Bool :=
 decide (C.length<=70)&&(decide (A.length<=8)&&(decide (B.length=A.length)&&(allV C&&(A.all (fun r=>decide (r.length=C.length)&&r.all (inB · (-5000) 5000))&&B.all (inB · (-5000) 5000)))))
def colL (A:List (List Int)) (j:Nat):List Int:=A.map fun r=>r[j]?.getD 0
def posV (x:List (Int × Int)):Bool:=x.all fun r=>valR r&&decide (0<=r.1)
def cU (A:List (List Int)) (x:List (Int × Int)) (B:List Int):Bool:=(List.range A.length).all fun i=>decide (dotL (aw (A[i]?.getD [])) x=some (B[i]?.getD 0,1))
def dt (A:List (List Int)) (B:List Int) (n:Nat) (x:List (Int × Int)):Bool:=decide (x.length=n)&&(posV x&&cU A x B)
structure LpR where
 status:Int
 X:List (Int × Int)
 Y:List (Int × Int)
 ray:List (Int × Int)
 value:Int × Int
 pivots:Int
deriving DecidableEq
def aL (s:Int):LpR:=⟨s,[],[],[],(0,0),0⟩
def aK (A:List (List Int)) (Y C:List (Int × Int)) (j:Nat):Bool :=
 match dotL Y (aw (colL A j)) with
 | none=>false
 | some v=>(subR (C[j]?.getD (0,0)) v).2&&decide (0<=(subR (C[j]?.getD (0,0)) v).1.1)
def aX (A:List (List Int)) (Y C:List (Int × Int)) (j:Nat):Bool :=
 match dotL Y (aw (colL A j)) with
 | none=>false
 | some v=>decide (0<=cmpR (C[j]?.getD (0,0)) v)
def gl (B:List Int) (C:List (Int × Int)) (r:LpR):Bool :=
 match dotL C r.X,dotL r.Y (aw B) with
 | some x,some y=>decide (x=y)&&decide (x=r.value)
 | _,_=>false
def iF (A:List (List Int)) (B:List Int) (n:Nat) (Y:List (Int × Int)):Bool :=
 (List.range n).all (fun j=>match dotL Y (aw (colL A j)) with|none=>false|some v=>decide (v.1<=0))&&(match dotL Y (aw B) with|none=>false|some v=>decide (0<v.1))
def rayB (A:List (List Int)) (B:List Int) (C:List (Int × Int)) (ray:List (Int × Int)):Bool :=
 decide (ray.length=C.length)&&(posV ray&&(cU A ray (List.replicate B.length 0)&&(match dotL C ray with|none=>false|some v=>decide (v.1<0))))
def aH (bound:List (List Int)->List (Int × Int)->List (Int × Int)->Nat->Bool) (A:List (List Int)) (B:List Int) (C:List (Int × Int)) (r:LpR):Bool :=
 if r.status=1 then dt A B C.length r.X&&(decide (r.Y.length=B.length)&&((List.range C.length).all (bound A r.Y C)&&gl B C r))
 else if r.status=2 then decide (r.Y.length=B.length)&&iF A B C.length r.Y
 else if r.status=3 then dt A B C.length r.X&&rayB A B C r.ray
 else false
def sgnR (b:Int) (y:Int × Int):Int × Int:=if b<0 then negR y else y
def el (B:List Int) (base:Int × Int) (cs:List (Int × Int)) (n i:Nat):Option (Int × Int) :=
 if (subR base (cs[n+i]?.getD (0,0))).2=true then some (sgnR (B[i]?.getD 0) (subR base (cs[n+i]?.getD (0,0))).1) else none
def dk (B:List Int) (cs:List (Int × Int)) (n i:Nat):Int × Int:=sgnR (B[i]?.getD 0) (negR (cs[n+i]?.getD (0,0)))
def rayN (t:Tb) (n col:Nat):Nat->List (Int × Int)
 | 0=>(List.range n).map fun j=>if j=col then (1,1) else (0,1)
 | k+1=>if t.basis[k]?.getD 0<n then (rayN t n col k).set (t.basis[k]?.getD 0).toNat (negR (t.at k col)) else rayN t n col k
def dm (n m:Nat):List (Int × Int):=List.replicate n (0,1)++List.replicate m (1,1)
def bU (C:List (Int × Int)) (m:Nat):List (Int × Int):=C++List.replicate m (0,1)
def rawT (A:List (List Int)) (B:List Int) (C:List (Int × Int)):Option LpR :=
 (aO (dm C.length B.length) 1000 (bC A B C.length)).bind fun p1 =>
   if (p1.costs[C.length+B.length]?.getD (0,0)).1<0 then
    (runT (el B (1,1) p1.costs C.length) B.length).map fun Y=>⟨2,[],Y,[],(0,0),1000-p1.left⟩
   else (aY C.length (p1.t,p1.left) B.length).bind fun s=>(aO (bU C B.length) s.2 s.1).map fun p2 =>
    if 0<=p2.col then ⟨3,(solT p2.t).take C.length,[],rayN p2.t C.length p2.col.toNat B.length,(0,0),1000-p2.left⟩
    else ⟨1,(solT p2.t).take C.length,(List.range B.length).map (dk B p2.costs C.length),[],negR (p2.costs[C.length+B.length]?.getD (0,0)),1000-p2.left⟩
def bV (bound:List (List Int)->List (Int × Int)->List (Int × Int)->Nat->Bool) (A:List (List Int)) (B:List Int) (C:List (Int × Int)):LpR :=
 if okLP A B C=true then
  match rawT A B C with
  | none=>aL 4
  | some r=>if aH bound A B C r=true then r else aL 4
 else aL 0
set_option maxRecDepth 100000
def AsksR (P:Program) (w:World) (fid:FuncId) (ca:Array Value) (p:Int × Int->Bool):Prop :=
 ∀ x y (w1:World),Ext w w1->Calls P fid (#[ratV x y]++ca) w1 fun e w2=>e=.returned (.bool (p (x,y)))/\Ext w1 w2
set_option maxHeartbeats 1000000 in
theorem kx {w:World} {a:Option Addr} {n cap:Nat} {l:List (Int × Int)} {fid:FuncId} {ca:Array Value} {p:Int × Int->Bool} (h:Rats w a n cap l) (hg:IsGo Tryz.prog fid) (hf:AsksR Tryz.prog w fid ca p) :
 Calls Tryz.prog 284 #[.slice a n cap,.func (.func fid) #[] ca] w fun e w'=>e=.returned (.int .i64 (bT p l))/\Ext w w':=by
 have hn:=h.hcap;have hm:=h.hmax;have HL:=ae h.hlen;have HI:=ae h;have HF0:=ae hf;clear h hf;have hcf:∀ (args:Array Value) (w:World),(callFunc fid args).run Tryz.prog w=.ok (.enter fid args) w:=hg;go_enter Tryz.func284,Tryz.ntmps284
 go_wp2_with fail
 go_loopg [8] n (fun gk ii wr=>∃ k:Nat,Hid (gk+k=n)/\ii=.int .i64 (k:Int)/\Hid ((l.take k).all (fun x=>!p x)=true)/\Hid (Ext w wr))
 case atStart=>exact ⟨0,ae (by omega),rfl,ae rfl,ae (Ext.refl _)⟩
 case round =>
  obtain ⟨g1,h_g1⟩:∃ x,x=gk:=⟨_,rfl⟩;subst h_g1;obtain ⟨wr1,h_wr1⟩:∃ x,x=wr:=⟨_,rfl⟩;subst h_wr1;obtain ⟨k,HK,rfl,HA,HX⟩:=hrel;by_cases hlt:k<n
  ·obtain ⟨b,off,x,y,rfl,hxy,hc0,hc1⟩:=(HI.out.ext HX.out).at hlt;have HF:=ae (HF0.out x y wr1 HX.out);cases hb:p (x,y)
   all_goals
    rw [hb] at HF
   ·have HT:=ae (show (l.take (k+1)).all (fun x=>!p x)=true by
     rw [List.take_succ_eq_append_getElem (by rw [HL.out];exact hlt),List.all_append,HA.out];have:l[k]'(by rw [HL.out];exact hlt)=(x,y):=by rw [List.getElem?_eq_getElem (by rw [HL.out];exact hlt)] at hxy;simpa using hxy
     rw [this];simp [hb])
    clear hxy hb;go_wp2_with fail;refine HF.out.mono ?_;rintro e w2 ⟨rfl,hx2⟩;go_wp2_with fail
    go_roundg (g1-1)
    case measure=>have:=HK.out;omega
    case rel=>exact ⟨k+1,ae (by have:=HK.out;omega),by go_num,HT,ae (HX.out.trans hx2)⟩
   ·have HB:=ae (show bT p l=k from ee (d:=(0,0)) (by rw [HL.out];exact hlt) HA.out (by rw [hxy];exact hb));clear hxy hb;go_wp2_with fail;refine HF.out.mono ?_;rintro e w2 ⟨rfl,hx2⟩;go_wp2_with fail;go_ret;exact ⟨aM HB.out.symm,HX.out.trans hx2⟩
  ·have HT:=ae (show bT p l=-1 by
    have h2:=HA.out;rw [List.take_of_length_le (by rw [HL.out];have:=HK.out;omega)] at h2
    exact dw h2)
   go_wp2_with fail;go_ret;exact ⟨aM HT.out.symm,HX.out⟩
set_option maxHeartbeats 400000 in
theorem fk {w:World} {a:Option Addr} {n cap:Nat} {l:List (Int × Int)} {fid:FuncId} {ca:Array Value} {p:Int × Int->Bool} (h:Rats w a n cap l) (hg:IsGo Tryz.prog fid) (hf:AsksR Tryz.prog w fid ca p) :
 Calls Tryz.prog 275 #[.slice a n cap,.func (.func fid) #[] ca] w fun e w'=>e=.returned (.bool (l.any p))/\Ext w w':=by
 have HC:=ae (kx h hg hf);clear h hf;go_enter Tryz.func275,Tryz.ntmps275
 go_wp2_with fail;refine HC.out.mono ?_;rintro e w2 ⟨rfl,hx2⟩
 go_wp2
 all_goals go_ret;refine ⟨ag ?_,hx2⟩;rw [<-fs]
theorem nq (x y:Int) (w:World):Calls Tryz.prog 276 #[ratV x y] w fun e w'=>e=.returned (.bool (!valR (x,y)))/\Ext w w':=by
 have HX:=ae (Ext.alloc w (.cells #[.int .i64 x,.int .i64 y] 43));go_enter Tryz.func276,Tryz.ntmps276
 go_wp2_with fail;refine (av x y _).mono ?_;rintro e w1 ⟨rfl,hx⟩;have X1:=ae (HX.out.trans hx);clear hx;go_wp2_with fail;go_ret;exact ⟨rfl,X1.out⟩
theorem lN:IsGo Tryz.prog 276:=isGo Tryz.func276 (by kernel_rfl) (by kernel_rfl)
theorem jK {w:World} {a:Option Addr} {n cap:Nat} {l:List (Int × Int)} (h:Rats w a n cap l) :
 Calls Tryz.prog 246 #[.slice a n cap] w fun e w'=>e=.returned (.bool (allV l))/\Ext w w':=by
 have HC:=ae (fk h lN (ca:=#[]) (p:=fun r=>!valR r) (fun x y w1 _=>nq x y w1));have HE:=ae (show (!l.any (fun r=>!valR r))=allV l by unfold allV;rw [List.not_any_eq_all_not];simp);clear h;go_enter Tryz.func246,Tryz.ntmps246
 go_wp2_with fail;refine HC.out.mono ?_;rintro e w1 ⟨rfl,hx⟩;have X1:=ae hx;clear hx;go_wp2_with fail;go_ret;exact ⟨ag HE.out,X1.out⟩
theorem kt (x y:Int) (w:World):Calls Tryz.prog 280 #[ratV x y] w fun e w'=>e=.returned (.bool (!(valR (x,y)&&decide (0<=x))))/\Ext w w':=by
 have HX:=ae (Ext.alloc w (.cells #[.int .i64 x,.int .i64 y] 43));have HV:=ae (fun w=>av x y w);cases hv:valR (x,y)
 ·rw [hv] at HV;clear hv;go_enter Tryz.func280,Tryz.ntmps280
  go_wp2_with fail;refine (HV.out _).mono ?_;rintro e w1 ⟨rfl,hx⟩;have X1:=ae (HX.out.trans hx);clear hx;go_wp2_with fail;go_ret;exact ⟨rfl,X1.out⟩
 ·rw [hv] at HV;clear hv;cases hx0:decide (0<=x)
  ·have hlt:decide (x<0)=true:=by simp at hx0 ⊢;omega
   clear hx0;go_enter Tryz.func280,Tryz.ntmps280
   go_wp2_with fail;refine (HV.out _).mono ?_;rintro e w1 ⟨rfl,hx⟩;have hc:w1.cell? ⟨w.heap.size,0,none⟩=some (.int .i64 x):=hx.cellSome (by simp);have X1:=ae (HX.out.trans hx);clear hx;go_wp2_with fail;go_ret;exact ⟨rfl,X1.out⟩
  ·have hlt:decide (x<0)=false:=by simp at hx0 ⊢;omega
   clear hx0;go_enter Tryz.func280,Tryz.ntmps280
   go_wp2_with fail;refine (HV.out _).mono ?_;rintro e w1 ⟨rfl,hx⟩;have hc:w1.cell? ⟨w.heap.size,0,none⟩=some (.int .i64 x):=hx.cellSome (by simp);have X1:=ae (HX.out.trans hx);clear hx;go_wp2_with fail;go_ret;exact ⟨rfl,X1.out⟩
theorem jJ:IsGo Tryz.prog 280:=isGo Tryz.func280 (by kernel_rfl) (by kernel_rfl)
theorem ib {w:World} {a:Option Addr} {n cap:Nat} {l:List (Int × Int)} (h:Rats w a n cap l) (m:Nat) :
 Calls Tryz.prog 256 #[.slice a n cap,.int .i64 (m:Int)] w fun e w'=>e=.returned (.bool (decide (l.length=m)&&posV l))/\Ext w w':=by
 have hcap:=h.hcap;have hmax:=h.hmax;have HL:=ae h.hlen;have HC:=ae (fk h jJ (ca:=#[]) (p:=fun r=>!(valR r&&decide (0<=r.1))) (fun x y w1 _=>kt x y w1));have HE:=ae (show (!l.any (fun r=>!(valR r&&decide (0<=r.1))))=posV l by unfold posV;rw [List.not_any_eq_all_not];simp);clear h;cases hn:((n:Int) == (m:Int))
 ·have HN:=ae (show decide (l.length=m)=false by rw [HL.out];simp at hn ⊢;omega);go_enter Tryz.func256,Tryz.ntmps256
  go_wp2_with fail;go_ret;exact ⟨ag (by rw [HN.out];rfl),Ext.refl _⟩
 ·have HN:=ae (show decide (l.length=m)=true by rw [HL.out];simp at hn ⊢;omega);go_enter Tryz.func256,Tryz.ntmps256
  go_wp2_with fail;refine HC.out.mono ?_;rintro e w1 ⟨rfl,hx⟩;have X1:=ae hx;clear hx;go_wp2_with fail;go_ret;exact ⟨ag (by rw [HN.out,<-HE.out];simp),X1.out⟩
structure eW (w:World) (a:Option Addr) (n cap:Nat) (L:List (List (Int × Int))):Prop where
 hlen:L.length=n
 hcap:n<=cap
 hmax:cap<=9223372036854775807
 cell:∀ k,k<n->∃ b off,a=some ⟨b,off,none⟩/\∀ k,k<n->∃ a' n' c',w.cell? ⟨b,off+k,none⟩=some (.slice a' n' c')/\Rats w a' n' c' (L[k]?.getD [])
theorem eW.ext {w w':World} {a:Option Addr} {n cap:Nat} {L:List (List (Int × Int))} (h:eW w a n cap L) (hx:Ext w w'):eW w' a n cap L :=
 ⟨h.hlen,h.hcap,h.hmax,fun k hk=>let ⟨b,off,e,hc⟩:=h.cell k hk;⟨b,off,e,fun k hk=>let ⟨a',n',c',h1,h2⟩:=hc k hk;⟨a',n',c',hx.cellSome h1,h2.ext hx⟩⟩⟩
theorem eW.at {w:World} {a:Option Addr} {n cap:Nat} {L:List (List (Int × Int))} (h:eW w a n cap L) {k:Nat} (hk:k<n) :
 ∃ b off a' n' c',a=some ⟨b,off,none⟩/\w.cell? ⟨b,off+k,none⟩=some (.slice a' n' c')/\Rats w a' n' c' (L[k]?.getD []) :=
 let ⟨b,off,e,hc⟩:=h.cell k hk;let ⟨a',n',c',h1,h2⟩:=hc k hk;⟨b,off,a',n',c',e,h1,h2⟩
def OwnW (w:World) (base:Nat) (v:Value) (vs:List Value):Prop:=w.ownsRow base 36 1 v vs.length vs
theorem OwnW.form {w:World} {base:Nat} {v:Value} {vs:List Value} (h:OwnW w base v vs):∃ a cap,v=.slice a vs.length cap/\vs.length<=cap/\cap<=9223372036854775807:=by
 rcases h.2 with ⟨rfl,h0⟩|⟨g,cap,cur,rfl,_,_,h1,h2,_⟩
 ·exact ⟨none,0,by rw [h0],by omega,by omega⟩
 ·exact ⟨_,cap,rfl,h1,by simpa [maxLen] using h2⟩
theorem OwnW.var {w:World} {base:Nat} {v:Value} {vs:List Value} (h:OwnW w base v vs):∃ a n cap,v=.slice a n cap/\Hid (vs.length=n):=by
 obtain ⟨a,cap,e,_⟩:=h.form;exact ⟨a,_,cap,e,rfl⟩
theorem OwnW.cell {w:World} {base:Nat} {a:Option Addr} {n cap:Nat} {vs:List Value} (h:OwnW w base (.slice a n cap) vs) {k:Nat} (hk:k<n):∃ g,a=some ⟨g,0,none⟩/\base<=g/\∀ k,k<n->w.cell? ⟨g,k,none⟩=vs[k]?:=by
 rcases h.2 with ⟨he,h0⟩|⟨g,cap',cur,he,hb,hg,h1,h2,hs,ht⟩
 ·simp only [Value.slice.injEq] at he;omega
 ·simp only [Value.slice.injEq] at he;obtain ⟨rfl,rfl,rfl⟩:=he;refine ⟨g,rfl,hb,fun k hk=>?_⟩;rw [cell_of_row w g k cur _ (0,0) hg];have:(cur.toList.take (vs.length*1))[k]?=vs[k]?:=by rw [ht]
  rw [List.getElem?_take,if_pos (by omega)] at this
  simpa using this
theorem OwnW.len {w:World} {base:Nat} {a:Option Addr} {n cap:Nat} {vs:List Value} (h:OwnW w base (.slice a n cap) vs):vs.length=n:=by
 obtain ⟨a',cap',he,_⟩:=h.form;simp only [Value.slice.injEq] at he;exact he.2.1.symm
theorem OwnW.lt {w:World} {base:Nat} {v:Value} {vs:List Value} (h:OwnW w base v vs):∀ k,v.ownBlock=some k->base<=k/\k<w.heap.size:=World.ownsRow.lt h
theorem OwnW.keep {w w':World} {base:Nat} {v:Value} {vs:List Value} (h:OwnW w base v vs) (hk:∀ k,v.ownBlock=some k->w'.heap[k]?=w.heap[k]?):OwnW w' base v vs:=by
 refine ⟨h.1,?_⟩
 rcases h.2 with hn|⟨g,cap,cur,rfl,hb,hgg,rest⟩
 ·exact .inl hn
 ·exact .inr ⟨g,cap,cur,rfl,hb,(hk g rfl).trans hgg,rest⟩
theorem OwnW.ext {w w':World} {base:Nat} {v:Value} {vs:List Value} (h:OwnW w base v vs) (hx:Ext w w'):OwnW w' base v vs:=h.keep fun k hk=>hx.block k (h.lt k hk).2
theorem OwnW.on {w:World} {base:Nat} {v:Value} {vs:List Value} (h:OwnW w base v vs):On base w (fun W=>OwnW W base v vs):=fun w2 h2=>h.keep fun k hk=>h2 k (h.lt k hk).1 (h.lt k hk).2
theorem OwnR.apart {w:World} {base base':Nat} {v v':Value} {l:List (Int × Int)} {vs:List Value} (h:OwnR w base v l) (h':OwnW w base' v' vs):∀ k,v.ownBlock=some k->v'.ownBlock ≠ some k:=by
 intro k hk hk'
 rcases h.2 with ⟨rfl,_⟩|⟨g,cap,cur,rfl,_,hg,_⟩
 ·simp [Value.ownBlock] at hk
 ·rcases h'.2 with ⟨rfl,_⟩|⟨g',cap',cur',rfl,_,hg',_⟩
  ·simp [Value.ownBlock] at hk'
  ·simp only [Value.ownBlock,Option.some.injEq] at hk hk';subst hk hk';rw [hg] at hg';simp at hg'
theorem Tryz.infoRats:(Tryz.prog.info? 36).map (fun i=>(i.zero,i.size,i.bytes))=some (some (.slice none 0 0),1,24):=by kernel_rfl
section
variable {P:Program} {w:World} {ops:Array Oper} {rest:List Oper} {o:Oper} {a:Act} {Q:Exit->Act->World->Prop}
theorem dB {K:Act->World->Prop} (s x:Operand) (ho:o.op=.call { callee:=.builtin .append,args:=#[s,x],argTypes:=#[81,81] })
 (base:Nat) (v:Value) (vs:List Value) (hs:a.eval s=v) (hown:OwnW w base v vs) (ad:Addr) (u:Value) (c:Nat) (hx:a.eval x=.slice (some ad) 1 c)
 (hcell:w.cell? ad=some u) (h1c:u.oneCell'=true) (hb:vs.length<=1099511627775) (hbase:base<=w.heap.size)
 (h:∀ v' w',OwnW w' base v' (vs++[u])->w.grownBy w' v.ownBlock->Near w v v'->K (a.put o.dst v') w'):o.wp Tryz.prog a w K Q:=by
 obtain ⟨i,hi,hz0,hz1,hz2⟩:=info_parts Tryz.infoRats;refine dN w s x 81 ho base 36 i (.slice none 0 0) 1 24 Tryz.underlying81 hi hz0 hz1 hz2 rfl (by decide) v vs.length vs hs hown ad 1 c [u] hx rfl ?_ ?_ (by simp [maxLen];omega) (by omega) hbase ?_
 ·intro j u' hu
  match j with
  | 0=>simpa [Addr.add] using hu ▸ hcell
  | j+1=>simp at hu
 ·intro u' hu;simp only [List.mem_singleton] at hu;rw [hu];exact h1c
 ·intro v' w' h1 h2 h3;refine h v' w' ?_ h2 h3;unfold OwnW;rw [List.length_append];exact h1
end
structure cI (w:World) (base:Nat) (vs:List Value) (L:List (List (Int × Int))):Prop where
 len:vs.length=L.length
 row:∀ i,i<L.length->OwnR w base (vs[i]?.getD undef) (L[i]?.getD [])
 apart:∀ i j k,i<j->j<L.length->(vs[i]?.getD undef).ownBlock=some k->(vs[j]?.getD undef).ownBlock ≠ some k
theorem cI.keep {w w':World} {base:Nat} {vs:List Value} {L:List (List (Int × Int))} (h:cI w base vs L) (hk:∀ i k,i<L.length->(vs[i]?.getD undef).ownBlock=some k->w'.heap[k]?=w.heap[k]?):cI w' base vs L :=
 ⟨h.len,fun i hi=>(h.row i hi).keep fun k hk'=>hk i k hi hk',h.apart⟩
theorem cI.ext {w w':World} {base:Nat} {vs:List Value} {L:List (List (Int × Int))} (h:cI w base vs L) (hx:Ext w w'):cI w' base vs L :=
 h.keep fun i k hi hk=>hx.block k ((h.row i hi).lt k hk).2
theorem cI.nil (w:World) (base:Nat):cI w base [] []:=⟨rfl,fun i hi=>absurd hi (by simp),fun i j k _ hj=>absurd hj (by simp)⟩
theorem cI.on {w:World} {base:Nat} {vs:List Value} {L:List (List (Int × Int))} (h:cI w base vs L):On base w (fun W=>cI W base vs L) :=
 fun w2 h2=>h.keep fun i k hi hk=>h2 k ((h.row i hi).lt k hk).1 ((h.row i hi).lt k hk).2
theorem cI.snoc {w w':World} {base:Nat} {vs:List Value} {L:List (List (Int × Int))} (h:cI w base vs L) (hx:Ext w w') {v:Value} {l:List (Int × Int)} (ho:OwnR w' w.heap.size v l) (hb:base<=w.heap.size):cI w' base (vs++[v]) (L++[l]):=by
 have h':=h.ext hx;refine ⟨by simp [h.len],fun i hi=>?_,fun i j k hij hj hk=>?_⟩
 ·by_cases hl:i<L.length
  ·rw [List.getElem?_append_left (by rw [h.len];exact hl),List.getElem?_append_left hl];exact h'.row i hl
  ·have:i=L.length:=by simp at hi;omega
   subst this;rw [<-h.len];simp only [List.getElem?_concat_length,Option.getD_some];rw [h.len];simp only [List.getElem?_concat_length,Option.getD_some];exact ho.mono hb
 ·by_cases hl:j<L.length
  ·rw [List.getElem?_append_left (by rw [h.len];omega)] at hk;rw [List.getElem?_append_left (by rw [h.len];exact hl)];exact h.apart i j k hij hl hk
  ·have:j=L.length:=by simp at hj;omega
   subst this;rw [List.getElem?_append_left (by rw [h.len];omega)] at hk;rw [<-h.len];simp only [List.getElem?_concat_length,Option.getD_some];intro hk';have h1:=((h.row i (by omega)).lt k hk).2;have h2:=(ho.lt k hk').1;omega
def jw (w:World) (base:Nat) (v:Value) (L:List (List (Int × Int))):Prop:=∃ vs,OwnW w base v vs/\cI w base vs L
theorem jw.form {w:World} {base:Nat} {v:Value} {L:List (List (Int × Int))} (h:jw w base v L):∃ a cap,v=.slice a L.length cap/\L.length<=cap/\cap<=9223372036854775807:=by
 obtain ⟨vs,h1,h2⟩:=h;have:=h1.form
 rwa [h2.len] at this
theorem jw.ratss {w:World} {base:Nat} {a:Option Addr} {n cap:Nat} {L:List (List (Int × Int))} (h:jw w base (.slice a n cap) L):eW w a n cap L:=by
 obtain ⟨a',cap',he,h1,h2⟩:=h.form;simp only [Value.slice.injEq] at he;obtain ⟨rfl,rfl,rfl⟩:=he;obtain ⟨vs,h3,h4⟩:=h;refine ⟨rfl,h1,h2,fun k hk=>?_⟩;obtain ⟨g,rfl,_,hc⟩:=h3.cell hk;refine ⟨g,0,rfl,fun k hk=>?_⟩;have hv:k<vs.length:=by rw [h4.len];exact hk
 obtain ⟨a',cap',hf,_⟩:=(h4.row k hk).form;have ho:=h4.row k hk;rw [hf] at ho;refine ⟨a',_,cap',?_,ho.rats⟩;rw [Nat.zero_add,hc k hk,<-hf];simp [hv]
structure RMat (w:World) (base:Nat) (a:Option Addr) (N cap:Nat) (vs:List Value) (M:List (List (Int × Int))):Prop where
 own:OwnW w base (.slice a N cap) vs
 rows:cI w base vs M
theorem RMat.vlen {w:World} {base:Nat} {a:Option Addr} {N cap:Nat} {vs:List Value} {M:List (List (Int × Int))} (h:RMat w base a N cap vs M):vs.length=N:=h.own.len
theorem RMat.len {w:World} {base:Nat} {a:Option Addr} {N cap:Nat} {vs:List Value} {M:List (List (Int × Int))} (h:RMat w base a N cap vs M):M.length=N:=by rw [<-h.rows.len];exact h.own.len
theorem RMat.cap {w:World} {base:Nat} {a:Option Addr} {N cap:Nat} {vs:List Value} {M:List (List (Int × Int))} (h:RMat w base a N cap vs M):N<=cap/\cap<=9223372036854775807:=by
 obtain ⟨a',c',he,h1,h2⟩:=h.own.form;simp only [Value.slice.injEq] at he;obtain ⟨_,h3,rfl⟩:=he;exact ⟨by omega,h2⟩
theorem RMat.keep {w w':World} {base:Nat} {a:Option Addr} {N cap:Nat} {vs:List Value} {M:List (List (Int × Int))} (h:RMat w base a N cap vs M) (h0:∀ k,(Value.slice a N cap).ownBlock=some k->w'.heap[k]?=w.heap[k]?)
 (h1:∀ i k,i<N->(vs[i]?.getD undef).ownBlock=some k->w'.heap[k]?=w.heap[k]?):RMat w' base a N cap vs M :=
 ⟨h.own.keep h0,h.rows.keep fun i k hi hk=>h1 i k (by rw [<-h.len];exact hi) hk⟩
theorem RMat.ext {w w':World} {base:Nat} {a:Option Addr} {N cap:Nat} {vs:List Value} {M:List (List (Int × Int))} (h:RMat w base a N cap vs M) (hx:Ext w w'):RMat w' base a N cap vs M:=⟨h.own.ext hx,h.rows.ext hx⟩
theorem RMat.outer {w:World} {base:Nat} {a:Option Addr} {N cap:Nat} {vs:List Value} {M:List (List (Int × Int))} (h:RMat w base a N cap vs M) (hN:0<N):∃ G,a=some ⟨G,0,none⟩/\base<=G/\G<w.heap.size/\∀ j,w.frozen? ⟨G,j,none⟩=false:=by
 rcases h.own.2 with ⟨he,h0⟩|⟨g,cap',cur,he,hb,hg,_⟩
 ·simp only [Value.slice.injEq] at he;omega
 ·simp only [Value.slice.injEq] at he;obtain ⟨rfl,_⟩:=he;exact ⟨g,rfl,hb,lt_of_block hg,fun j=>frozen_of_row w g j cur _ hg⟩
theorem RMat.row {w:World} {base G N cap:Nat} {vs:List Value} {M:List (List (Int × Int))} (h:RMat w base (some ⟨G,0,none⟩) N cap vs M) {i n:Nat} (hi:i<N) (hn:(M[i]?.getD []).length=n) (h1:1<=n) :
 ∃ g c,vs[i]?.getD undef=.slice (some ⟨g,0,none⟩) n c/\w.cell? ⟨G,i,none⟩=some (.slice (some ⟨g,0,none⟩) n c)/\OwnR w base (.slice (some ⟨g,0,none⟩) n c) (M[i]?.getD [])/\g ≠ G/\base<=g/\g<w.heap.size/\n<=c/\c<=9223372036854775807:=by
 have hr:=h.rows.row i (by rw [h.len];exact hi);obtain ⟨a',c,he,hc1,hc2⟩:=hr.form;rw [he] at hr;rw [hn] at he hr hc1;obtain ⟨g,rfl,hb,_,hgl⟩:=hr.block (k:=0) (by omega);obtain ⟨G',hG,_,hc⟩:=h.own.cell hi;simp only [Option.some.injEq,Addr.mk.injEq,and_true] at hG;subst hG;refine ⟨g,c,he,?_,hr,fun e=>hr.apart h.own g rfl (by subst e;rfl),hb,hgl,hc1,hc2⟩;rw [hc i hi,<-he];have:i<vs.length:=by rw [h.vlen];exact hi
 simp [this]
theorem RMat.put {w0 w:World} {base G N cap:Nat} {vs:List Value} {M:List (List (Int × Int))} (h:RMat w0 base (some ⟨G,0,none⟩) N cap vs M) (hx:Ext w0 w) (hb:base<=w0.heap.size) {v:Value} {l:List (Int × Int)} (ho:OwnR w w0.heap.size v l) {i:Nat} (hi:i<N) :
 RMat (w.setCell ⟨G,i,none⟩ v) base (some ⟨G,0,none⟩) N cap (vs.set i v) (M.set i l):=by
 have hil:i<M.length:=by rw [h.len];exact hi
 have hvl:i<vs.length:=by rw [h.vlen];exact hi
 have hW:=h.ext hx;obtain ⟨G',hG,hbG,hGl,_⟩:=h.outer (by omega);simp only [Option.some.injEq,Addr.mk.injEq,and_true] at hG;subst hG;have hother:∀ k,k ≠ G->(w.setCell ⟨G,i,none⟩ v).heap[k]?=w.heap[k]?:=fun k hk=>heap_setCell_other _ _ _ _ hk
 refine ⟨?_,⟨by rw [List.length_set,List.length_set];exact h.rows.len,fun k hk=>?_,fun a b k hab hb2 hk hk2=>?_⟩⟩
 ·have ho:=hW.own;unfold OwnW at ho;rw [hW.vlen] at ho;have:=(World.ownsRow.stored ho i v).1;unfold OwnW;rw [List.length_set,hW.vlen];exact this
 ·rw [List.length_set] at hk;by_cases hki:k=i
  ·subst hki;rw [List.getElem?_set_self hvl,List.getElem?_set_self hil];exact (ho.keep fun b hb'=>hother b (by have:=(ho.lt b hb').1;omega)).mono hb
  ·rw [List.getElem?_set_ne (Ne.symm hki),List.getElem?_set_ne (Ne.symm hki)];refine (hW.rows.row k hk).keep fun b hb'=>hother b fun e=>?_
   subst e;exact (hW.rows.row k hk).apart hW.own _ hb' rfl
 ·rw [List.length_set] at hb2;by_cases hai:a=i
  ·subst hai;rw [List.getElem?_set_self hvl] at hk;rw [List.getElem?_set_ne (by omega)] at hk2;have h1:=(ho.lt k hk).1;have h2:=((h.rows.row b hb2).lt k hk2).2;omega
  ·rw [List.getElem?_set_ne (Ne.symm hai)] at hk;by_cases hbi:b=i
   ·subst hbi;rw [List.getElem?_set_self hvl] at hk2;have h1:=(ho.lt k hk2).1;have h2:=((h.rows.row a (by omega)).lt k hk).2;omega
   ·rw [List.getElem?_set_ne (Ne.symm hbi)] at hk2;exact h.rows.apart a b k hab hb2 hk hk2
end Go.Proofs.YthjjfkeacobikaaGreat
