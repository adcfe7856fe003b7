import Derived.Test.YthjjfkeacobikaaGreatLeAllG17
import Derived.Test.YthjjfkeacobikaaGreatLeAllG3
import Derived.Deep.DeepCutAuto
import Derived.Outline
set_option linter.unusedVariables false
set_option linter.unusedSimpArgs false
namespace Go.Proofs.YthjjfkeacobikaaGreat
set_option maxRecDepth 100000
open Go.RowKit
structure TbC (w:World) (ra:Option Addr) (rn rc:Nat) (ba:Option Addr) (bn bc:Nat) (t:Tb):Prop where
 rows:fU w ra rn rc t.rows
 basis:Ints w ba bn bc t.basis
theorem TbC.ext {w w':World} {ra:Option Addr} {rn rc:Nat} {ba:Option Addr} {bn bc:Nat} {t:Tb} (h:TbC w ra rn rc ba bn bc t) (hx:Ext w w'):TbC w' ra rn rc ba bn bc t:=⟨h.rows.ext hx,h.basis.ext hx⟩
abbrev tbW (ra:Option Addr) (rn rc:Nat) (ba:Option Addr) (bn bc:Nat) (x:Int):Value:=.agg #[.slice ra rn rc,.slice ba bn bc,.int .i64 x]
abbrev bQ (ra:Option Addr) (rn rc:Nat) (ba:Option Addr) (bn bc:Nat) (x:Int):Obj:=.cells #[.slice ra rn rc,.slice ba bn bc,.int .i64 x] 83
structure TbO (w:World) (base g:Nat) (va vb:Value) (x:Int) (vs:List Value) (M:List (List (Int × Int))) (l:List Int):Prop where
 box:w.heap[g]?=some (.cells #[va,vb,.int .i64 x] 83 (0,0))
 hg:base<=g
 a:OwnW w base va vs
 rows:dh w base vs M
 b:OwnI w base vb l
section
variable {w:World} {base g:Nat} {va vb:Value} {x:Int} {vs:List Value} {M:List (List (Int × Int))} {l:List Int}
theorem TbO.lt (h:TbO w base g va vb x vs M l):g<w.heap.size:=lt_of_block h.box
theorem TbO.ext {w':World} (h:TbO w base g va vb x vs M l) (hx:Ext w w'):TbO w' base g va vb x vs M l :=
 ⟨(hx.block _ h.lt).trans h.box,h.hg,h.a.ext hx,h.rows.ext hx,h.b.ext hx⟩
theorem aq {x y z:Value} {t:TypeId} (h:w.heap[g]?=some (.cells #[x,y,z] t (0,0))):w.cell? ⟨g,0,none⟩=some x:=by rw [cell_of_row w g 0 _ _ _ h];rfl
theorem aw {x y z:Value} {t:TypeId} (h:w.heap[g]?=some (.cells #[x,y,z] t (0,0))):w.cell? ⟨g,1,none⟩=some y:=by rw [cell_of_row w g 1 _ _ _ h];rfl
theorem az {x y z:Value} {t:TypeId} (h:w.heap[g]?=some (.cells #[x,y,z] t (0,0))):w.cell? ⟨g,2,none⟩=some z:=by rw [cell_of_row w g 2 _ _ _ h];rfl
theorem cU {x y z:Value} {t:TypeId} (h:w.heap[g]?=some (.cells #[x,y,z] t (0,0))) (k:Nat):w.frozen? ⟨g,k,none⟩=false:=frozen_of_row w g k _ _ h
theorem TbO.pushA {w1 w2:World} (h:TbO w base g va vb x vs M l) (hx:Ext w w1) {vr va':Value} {r:List (Int × Int)} (hr:OwnR w1 w.heap.size vr r) (hbs:base<=w.heap.size) (hgr:w1.grownBy w2 va.ownBlock) (ho:OwnW w2 base va' (vs++[vr])) :
 TbO (w2.setCell ⟨g,0,none⟩ va') base g va' vb x (vs++[vr]) (M++[r]) l:=by
 have h1:=h.ext hx;have hbox:w2.heap[g]?=some (.cells #[va,vb,.int .i64 x] 83 (0,0)):=(hgr.block g h1.lt (ap h1.a h1.box (by decide))).trans h1.box;have hset:∀ k,k ≠ g->(w2.setCell ⟨g,0,none⟩ va').heap[k]?=w2.heap[k]?:=fun k hk=>heap_setCell_other _ _ _ _ hk
 have hB2:OwnI w2 base vb l:=h1.b.keep fun k hk=>hgr.block k (h1.b.lt k hk).2 fun e=>aW (by decide) h1.b h1.a k hk e.symm
 have hR1:dh w1 base (vs++[vr]) (M++[r]):=h.rows.snoc hx hr hbs;have hR2:dh w2 base (vs++[vr]) (M++[r]):=hR1.keep fun i k hi hk=>hgr.block k ((hR1.row i hi).lt k hk).2 fun e=>(hR1.row i hi).apart h1.a k hk e.symm
 refine ⟨?_,h.hg,?_,?_,?_⟩
 ·have:=heap_setCell_same w2 g 0 _ _ va' hbox;exact this
 ·exact ho.keep fun k hk=>hset k fun e=>(ap ho hbox (by decide)) (by rw [hk,e])
 ·exact hR2.keep fun i k hi hk=>hset k fun e=>(ap (hR2.row i hi) hbox (by decide)) (by rw [hk,e])
 ·exact hB2.keep fun k hk=>hset k fun e=>(ap hB2 hbox (by decide)) (by rw [hk,e])
theorem TbO.boxA {w1 w2:World} (h:TbO w base g va vb x vs M l) (hx:Ext w w1) (hg:w1.grownBy w2 va.ownBlock):w2.heap[g]?=some (.cells #[va,vb,.int .i64 x] 83 (0,0)) :=
 (hg.block g (h.ext hx).lt (ap (h.ext hx).a (h.ext hx).box (by decide))).trans (h.ext hx).box
theorem TbO.boxB {w1 w2:World} (h:TbO w base g va vb x vs M l) (hx:Ext w w1) (hg:w1.grownBy w2 vb.ownBlock):w2.heap[g]?=some (.cells #[va,vb,.int .i64 x] 83 (0,0)) :=
 (hg.block g (h.ext hx).lt (ap (h.ext hx).b (h.ext hx).box (by decide))).trans (h.ext hx).box
theorem TbO.pushB {w1 w2:World} (h:TbO w base g va vb x vs M l) (hx:Ext w w1) {vb':Value} {l':List Int} (hgr:w1.grownBy w2 vb.ownBlock) (ho:OwnI w2 base vb' l') :
 TbO (w2.setCell ⟨g,1,none⟩ vb') base g va vb' x vs M l':=by
 have h1:=h.ext hx;have hbox:=h.boxB hx hgr;have hset:∀ k,k ≠ g->(w2.setCell ⟨g,1,none⟩ vb').heap[k]?=w2.heap[k]?:=fun k hk=>heap_setCell_other _ _ _ _ hk
 have hA2:OwnW w2 base va vs:=h1.a.keep fun k hk=>hgr.block k (h1.a.lt k hk).2 fun e=>aW (by decide) h1.a h1.b k hk e.symm
 have hR2:dh w2 base vs M:=h1.rows.keep fun i k hi hk=>hgr.block k ((h1.rows.row i hi).lt k hk).2 fun e=>aW (by decide) (h1.rows.row i hi) h1.b k hk e.symm
 refine ⟨?_,h.hg,?_,?_,?_⟩
 ·have:=heap_setCell_same w2 g 1 _ _ vb' hbox;exact this
 ·exact hA2.keep fun k hk=>hset k fun e=>(ap hA2 hbox (by decide)) (by rw [hk,e])
 ·exact hR2.keep fun i k hi hk=>hset k fun e=>(ap (hR2.row i hi) hbox (by decide)) (by rw [hk,e])
 ·exact ho.keep fun k hk=>hset k fun e=>(ap ho hbox (by decide)) (by rw [hk,e])
theorem TbO.new {w3:World} {vb:Value} {base':Nat} (hb:OwnI w3 base' vb l) (hb':base<=base') (hs:base<=w3.heap.size) :
 TbO (w3.alloc (.cells #[.slice none 0 0,vb,.int .i64 x] 83)) base w3.heap.size (.slice none 0 0) vb x [] [] l :=
 ⟨heap_alloc_new _ _,hs,World.ownsRow_nil _ base _ 1,dh.nil _ _,(hb.mono hb').ext (Ext.alloc _ _)⟩
theorem TbO.put3 {w3:World} {vb v0 v1 v2:Value} {base':Nat} (hbox:w3.heap[g]?=some (.cells #[v0,v1,v2] 83 (0,0))) (hb:OwnI w3 base' vb l) (hb':base<=base') (hs:base<=g) :
 TbO (((w3.setCell ⟨g,0,none⟩ (.slice none 0 0)).setCell ⟨g,1,none⟩ vb).setCell ⟨g,2,none⟩ (.int .i64 x)) base g (.slice none 0 0) vb x [] [] l:=by
 have e1:=heap_setCell_same w3 g 0 _ _ (.slice none 0 0) hbox;have e2:=heap_setCell_same _ g 1 _ _ vb e1;have e3:=heap_setCell_same _ g 2 _ _ (.int .i64 x) e2;refine ⟨e3,hs,World.ownsRow_nil _ base _ 1,dh.nil _ _,?_⟩;refine (hb.mono hb').keep fun k hk=>?_
 have hne:k ≠ g:=fun e=>(ap hb hbox (by decide)) (by rw [hk,e])
 rw [heap_setCell_other _ _ _ _ hne,heap_setCell_other _ _ _ _ hne,heap_setCell_other _ _ _ _ hne]
end
structure OwnT (w:World) (base:Nat) (va vb:Value) (vs:List Value) (t:Tb):Prop where
 a:OwnW w base va vs
 rows:dh w base vs t.rows
 b:OwnI w base vb t.basis
theorem OwnT.ext {w w':World} {base:Nat} {va vb:Value} {vs:List Value} {t:Tb} (h:OwnT w base va vb vs t) (hx:Ext w w'):OwnT w' base va vb vs t:=⟨h.a.ext hx,h.rows.ext hx,h.b.ext hx⟩
theorem OwnT.mono {w:World} {base base':Nat} {va vb:Value} {vs:List Value} {t:Tb} (h:OwnT w base va vb vs t) (hb:base'<=base):OwnT w base' va vb vs t :=
 ⟨by
  refine ⟨h.a.1,?_⟩
  rcases h.a.2 with hn|⟨g,cap,cur,rfl,hbb,rest⟩
  ·exact .inl hn
  ·exact .inr ⟨g,cap,cur,rfl,Nat.le_trans hb hbb,rest⟩,⟨h.rows.len,fun i hi=>(h.rows.row i hi).mono hb,h.rows.apart⟩,h.b.mono hb⟩
theorem OwnT.tbc {w:World} {base:Nat} {ra:Option Addr} {rn rc:Nat} {ba:Option Addr} {bn bc:Nat} {vs:List Value} {t:Tb} (h:OwnT w base (.slice ra rn rc) (.slice ba bn bc) vs t):TbC w ra rn rc ba bn bc t :=
 ⟨kP.ratss ⟨vs,h.a,h.rows⟩,h.b.ints⟩
theorem OwnT.keepAll {w w':World} {base:Nat} {va vb:Value} {vs:List Value} {t:Tb} (h:OwnT w base va vb vs t) (hk:∀ k,base<=k->w'.heap[k]?=w.heap[k]?):OwnT w' base va vb vs t :=
 ⟨h.a.keep fun k e=>hk k (h.a.lt k e).1,h.rows.keep fun i k hi e=>hk k ((h.rows.row i hi).lt k e).1,h.b.keep fun k e=>hk k (h.b.lt k e).1⟩
theorem cG (w:World) (b k:Nat) (x y z:Value) (h:k ≠ b):(((w.setCell ⟨b,0,none⟩ x).setCell ⟨b,1,none⟩ y).setCell ⟨b,2,none⟩ z).heap[k]?=w.heap[k]?:=by
 rw [heap_setCell_other _ _ _ _ h,heap_setCell_other _ _ _ _ h,heap_setCell_other _ _ _ _ h]
theorem TbO.own {w:World} {base g:Nat} {va vb:Value} {x:Int} {vs:List Value} {M:List (List (Int × Int))} {l:List Int} (h:TbO w base g va vb x vs M l):OwnT w base va vb vs ⟨M,l,x⟩:=⟨h.a,h.rows,h.b⟩
theorem Ext.set3 {w w':World} (h:Ext w w') {b:Nat} (hb:w.heap.size<=b) (x y z:Value):Ext w (((w'.setCell ⟨b,0,none⟩ x).setCell ⟨b,1,none⟩ y).setCell ⟨b,2,none⟩ z):=((h.setCell (p:=⟨b,0,none⟩) hb _).setCell (p:=⟨b,1,none⟩) hb _).setCell (p:=⟨b,2,none⟩) hb _
theorem kR {w:World} {a:Option Addr} {n cap:Nat} {l:List (Int × Int)} (h:Rats w a n cap l) (hb:n<=1099511627776) :
 Calls Tryz.prog 209 #[.slice a n cap] w fun e w'=>∃ v,e=.returned v/\OwnR w' w.heap.size v l/\Ext w w':=by
 have heq:∀ w':World,(binOp .eql 36 (.slice a n cap) (.slice none 0 0)).run Tryz.prog w'=.ok (.bool a.isNone) w':=fun w'=>Lib.run_eql_slice_nil w' _ _ a n cap 0 0 Tryz.underlying36
 have HL:=ae h.hlen;cases a with
 | none =>
   have hl:l=[]:=by
    have:¬ 0<n:=fun hn=>by obtain ⟨b,off,e,_⟩:=h.cell 0 hn;cases e
    exact List.eq_nil_of_length_eq_zero (by have:=HL.out;omega)
   simp only [Option.isNone_none] at heq;go_enter Tryz.func209,Tryz.ntmps209
   go_wp2
   go_ret;exact ⟨_,rfl,by rw [hl];exact OwnR.nil w _,Ext.refl _⟩
 | some ad =>
   simp only [Option.isNone_some] at heq;have HI:=ae (h.ext (Ext.alloc w (.cells #[] 43)));have HO:=ae (OwnR.made w w.heap.size (Nat.le_refl _));clear h;go_enter Tryz.func209,Tryz.ntmps209
   go_wp2_with (first|(at_builtin;refine aG rfl _ _ rfl w.heap.size _ _ rfl HO.out _ n _ l rfl HI.out (by simpa using hb) (by simp) ?_;intro v' w1 ho hg hnear));go_ret;exact ⟨_,rfl,by simpa using ho,ak (Ext.alloc _ _) hg (fun k hk=>Nat.le_of_eq (Option.some.inj (show some w.heap.size=some k from hk)))⟩
end Go.Proofs.YthjjfkeacobikaaGreat
namespace Go.Proofs.YthjjfkeacobikaaGreat
set_option maxRecDepth 100000
open Go.RowKit
def AsksW (P:Program) (w:World) (fid:FuncId) (ca:Array Value) (p:List (Int × Int)->Bool):Prop :=
 ∀ a n cap r (w1:World),Ext w w1->Rats w1 a n cap r->Calls P fid (#[.slice a n cap]++ca) w1 fun e w2=>e=.returned (.bool (p r))/\Ext w1 w2
set_option maxHeartbeats 1000000 in
theorem mw {w:World} {a:Option Addr} {n cap:Nat} {l:List (List (Int × Int))} {fid:FuncId} {ca:Array Value} {p:List (Int × Int)->Bool} (h:fU w a n cap l) (hg:IsGo Tryz.prog fid) (hf:AsksW Tryz.prog w fid ca p) :
 Calls Tryz.prog 260 #[.slice a n cap,.func (.func fid) #[] ca] w fun e w'=>e=.returned (.int .i64 (bV p l))/\Ext w w':=by
 have hn:=h.hcap;have hm:=h.hmax;have HL:=ae h.hlen;have HI:=ae h;have HF0:=ae hf;clear h hf;have hcf:∀ (args:Array Value) (w:World),(callFunc fid args).run Tryz.prog w=.ok (.enter fid args) w:=hg;go_enter Tryz.func260,Tryz.ntmps260
 go_wp2_with fail
 go_loopg [8] n (fun gk ii wr=>∃ k:Nat,Hid (gk+k=n)/\ii=.int .i64 (k:Int)/\Hid ((l.take k).all (fun x=>!p x)=true)/\Hid (Ext w wr))
 case atStart=>exact ⟨0,ae (by omega),rfl,ae rfl,ae (Ext.refl _)⟩
 case round =>
  obtain ⟨g1,h_g1⟩:∃ x,x=gk:=⟨_,rfl⟩;subst h_g1;obtain ⟨wr1,h_wr1⟩:∃ x,x=wr:=⟨_,rfl⟩;subst h_wr1;obtain ⟨k,HK,rfl,HA,HX⟩:=hrel;by_cases hlt:k<n
  ·obtain ⟨b,off,ra,rn,rc,rfl,hc0,hrow⟩:=(HI.out.ext HX.out).at hlt;have HF:=ae (HF0.out _ _ _ _ wr1 HX.out hrow);clear hrow;have HKL:=ae (show k<l.length by rw [HL.out];exact hlt);cases hb:p (l[k]?.getD [])
   all_goals
    rw [hb] at HF
   ·have HT:=ae (show (l.take (k+1)).all (fun x=>!p x)=true by
     rw [eW HKL.out,List.all_append,HA.out];simp only [List.all_cons,List.all_nil,hb];rfl)
    clear hb;go_wp2_with fail;refine HF.out.mono ?_;rintro e w2 ⟨rfl,hx2⟩;go_wp2_with fail
    go_roundg (g1-1)
    case measure=>have:=HK.out;omega
    case rel=>exact ⟨k+1,ae (by have:=HK.out;omega),by go_num,HT,ae (HX.out.trans hx2)⟩
   ·have HB:=ae (show bV p l=k from eJ (d:=[]) HKL.out HA.out hb);clear hb;go_wp2_with fail;refine HF.out.mono ?_;rintro e w2 ⟨rfl,hx2⟩;go_wp2_with fail;go_ret;exact ⟨aQ HB.out.symm,HX.out.trans hx2⟩
  ·have HT:=ae (show bV p l=-1 by
    have h2:=HA.out;rw [List.take_of_length_le (by rw [HL.out];have:=HK.out;omega)] at h2
    exact dL h2)
   go_wp2_with fail;go_ret;exact ⟨aQ HT.out.symm,HX.out⟩
set_option maxHeartbeats 400000 in
theorem jT {w:World} {a:Option Addr} {n cap:Nat} {l:List (List (Int × Int))} {fid:FuncId} {ca:Array Value} {p:List (Int × Int)->Bool} (h:fU w a n cap l) (hg:IsGo Tryz.prog fid) (hf:AsksW Tryz.prog w fid ca p) :
 Calls Tryz.prog 207 #[.slice a n cap,.func (.func fid) #[] ca] w fun e w'=>e=.returned (.bool (l.any p))/\Ext w w':=by
 have HC:=ae (mw h hg hf);clear h hf;go_enter Tryz.func207,Tryz.ntmps207
 go_wp2_with fail;refine HC.out.mono ?_;rintro e w2 ⟨rfl,hx2⟩
 go_wp2
 all_goals go_ret;refine ⟨ag ?_,hx2⟩;rw [<-gJ]
theorem sQ (z:Int) {w:World} {g h:Nat} {x:Int} {m:Nat} (hx:0<=x/\x<=1000) (hm:m<=1048576) (h1:w.cell? ⟨g,2,none⟩=some (.int .i64 x)) (h2:w.cell? ⟨h,0,none⟩=some (.int .i64 (m:Int))) :
 Calls Tryz.prog 206 #[.int .i64 z,.pointer (some ⟨g,0,none⟩),.pointer (some ⟨h,0,none⟩)] w fun e w'=>e=.returned (.bool (!inB z 0 (x+(m:Int)-1)))/\Ext w w':=by
 obtain ⟨hx0,hx1⟩:=hx;go_enter Tryz.func206,Tryz.ntmps206
 go_wp2_with (first|(go_at_call 80;refine (aX _ _ _ _).mono ?_;rintro e w' ⟨rfl,rfl⟩));go_ret;exact ⟨rfl,Ext.refl _⟩
theorem qV:IsGo Tryz.prog 206:=isGo Tryz.func206 (by kernel_rfl) (by kernel_rfl)
theorem sR {w:World} {a:Option Addr} {n cap:Nat} {r:List (Int × Int)} (hr:Rats w a n cap r) {g h:Nat} {x:Int} {m:Nat} (hx:0<=x/\x<=1000) (hm:m<=1048576) (h1:w.cell? ⟨g,2,none⟩=some (.int .i64 x)) (h2:w.cell? ⟨h,0,none⟩=some (.int .i64 (m:Int))) :
 Calls Tryz.prog 208 #[.slice a n cap,.pointer (some ⟨g,0,none⟩),.pointer (some ⟨h,0,none⟩)] w fun e w'=>e=.returned (.bool (!decide ((r.length:Int)=x+(m:Int)+1)))/\Ext w w':=by
 obtain ⟨hx0,hx1⟩:=hx;have hc:=hr.hcap;have hm:=hr.hmax;have HL:=ae hr.hlen;clear hr;go_enter Tryz.func208,Tryz.ntmps208
 go_wp2_with fail;go_ret;refine ⟨ag ?_,Ext.refl _⟩;rw [HL.out];by_cases e:(n:Int)=x+(m:Int)+1
 ·rw [decide_eq_true e];simpa using e
 ·rw [decide_eq_false e];simpa using e
theorem qW:IsGo Tryz.prog 208:=isGo Tryz.func208 (by kernel_rfl) (by kernel_rfl)
theorem not_any {α:Type} (l:List α) (p:α->Bool):(!l.any fun x=>!p x)=l.all p:=by rw [List.not_any_eq_all_not];simp
theorem pY {α:Type} (l:List α) (p:α->Bool):(l.any fun x=>!p x)=!l.all p:=by rw [<-not_any,Bool.not_not]
section
variable {w:World} {ra:Option Addr} {rn rc:Nat} {ba:Option Addr} {bn bc:Nat} {t:Tb}
set_option maxHeartbeats 4000000 in
theorem gZ (h:TbC w ra rn rc ba bn bc t) (hrn:rn<=1048576) :
 Calls Tryz.prog 139 #[tbW ra rn rc ba bn bc t.cols] w fun e w'=>e=.returned (.bool (tbOk t))/\Ext w w':=by
 obtain ⟨rows,basis,x⟩:=t;have hx0:=(Ext.alloc w (bQ ra rn rc ba bn bc x)).trans (Ext.alloc _ (.cells #[.int .i64 (rn:Int)] 3));have HX0:=ae hx0;have H:=ae (h.ext hx0);have hr1:=h.rows.hcap;have hr2:=h.rows.hmax;have hb1:=h.basis.hcap;have hb2:=h.basis.hmax;have HLR:=ae h.rows.hlen;have HLB:=ae h.basis.hlen
 have HE:=ae (show tbOk ⟨rows,basis,x⟩=(inB x 0 1000&&(decide (bn=rn)&&(basis.all (fun b=>inB b 0 (x+(rn:Int)-1))&&rows.all (fun r=>decide ((r.length:Int)=x+(rn:Int)+1))))) by
  unfold tbOk;simp only
  rw [h.rows.hlen,h.basis.hlen])
 clear h hx0
 show Calls _ _ #[tbW ra rn rc ba bn bc x] w _;have HW:=ae (fun w=>aX x 0 1000 w);cases hin:inB x 0 1000
 ·rw [hin] at HW HE;clear hin;go_enter Tryz.func139,Tryz.ntmps139
  go_wp2_with fail;refine (HW.out _).mono ?_;rintro e w1 ⟨rfl,rfl⟩;go_wp2_with fail;go_ret;exact ⟨ag HE.out.symm,HX0.out⟩
 ·have hxb:0<=x/\x<=1000:=by unfold inB at hin;simp at hin;exact hin
  have HXB:=ae hxb;rw [hin] at HW HE;clear hin hxb;by_cases hbr:bn=rn
  ·subst hbr;have hbb:((bn:Int) != (bn:Int))=false:=by simp
   have HE2:=ae (show tbOk ⟨rows,basis,x⟩=(basis.all (fun b=>inB b 0 (x+(bn:Int)-1))&&rows.all (fun r=>decide ((r.length:Int)=x+(bn:Int)+1))) by rw [HE.out,decide_eq_true rfl];rfl);have HC1:=ae (eh (ca:=#[.pointer (some ⟨w.heap.size,0,none⟩),.pointer (some ⟨w.heap.size+1,0,none⟩)]) H.out.basis qV (p:=fun b=>!inB b 0 (x+(bn:Int)-1)) (fun z w1 hx=>sQ z HXB.out hrn (hx.cellSome (by simp)) (hx.cellSome (by simp))));rw [pY] at HC1;cases hb:basis.all (fun b=>inB b 0 (x+(bn:Int)-1))
   ·rw [hb] at HC1 HE2;clear hb;go_enter Tryz.func139,Tryz.ntmps139
    go_wp2_with fail;refine (HW.out _).mono ?_;rintro e w1 ⟨rfl,rfl⟩;go_wp2_with fail;refine HC1.out.mono ?_;rintro e w2 ⟨rfl,hx⟩;have X2:=ae (HX0.out.trans hx);clear hx;go_wp2_with fail;go_ret;exact ⟨ag HE2.out.symm,X2.out⟩
   ·rw [hb] at HC1 HE2;clear hb;go_enter Tryz.func139,Tryz.ntmps139
    go_wp2_with fail;refine (HW.out _).mono ?_;rintro e w1 ⟨rfl,rfl⟩;go_wp2_with fail;refine HC1.out.mono ?_;rintro e w2 ⟨rfl,hx⟩;have HC2:=ae (jT (ca:=#[.pointer (some ⟨w.heap.size,0,none⟩),.pointer (some ⟨w.heap.size+1,0,none⟩)]) (H.out.ext hx).rows qW (p:=fun r=>!decide ((r.length:Int)=x+(bn:Int)+1)) (fun a n cap r w1 hx2 hr=>sR hr HXB.out hrn ((hx.trans hx2).cellSome (by simp)) ((hx.trans hx2).cellSome (by simp))));rw [pY] at HC2;have hq:w2.cell? ⟨w.heap.size,0,none⟩=some (.slice ra bn rc):=hx.cellSome (by simp);have X2:=ae (HX0.out.trans hx);clear hx;go_wp2_with fail;refine HC2.out.mono ?_;rintro e w3 ⟨rfl,hx⟩;have X3:=ae (X2.out.trans hx);clear hx;go_wp2_with fail;go_ret;exact ⟨ag (by rw [HE2.out];simp),X3.out⟩
  ·have hbb:((bn:Int) != (rn:Int))=true:=by simp;omega
   have HF:=ae (show tbOk ⟨rows,basis,x⟩=false by rw [HE.out,decide_eq_false hbr];rfl);go_enter Tryz.func139,Tryz.ntmps139
   go_wp2_with fail;refine (HW.out _).mono ?_;rintro e w1 ⟨rfl,rfl⟩;go_wp2_with fail;go_ret;exact ⟨ag HF.out.symm,HX0.out⟩
set_option maxHeartbeats 8000000 in
theorem iv (h:TbC w ra rn rc ba bn bc t) (hrn:rn<=1048576) (hbn:bn<=1048576) (hrl:∀ i,i<rn->(t.row i).length<=1048576) :
 Calls Tryz.prog 140 #[tbW ra rn rc ba bn bc t.cols] w fun e w'=>(∃ va vb vs,e=.returned (.agg #[va,vb,.int .i64 t.cols])/\OwnT w' w.heap.size va vb vs t)/\Ext w w':=by
 obtain ⟨rows,basis,x⟩:=t;have hx0:=(Ext.alloc w (bQ ra rn rc ba bn bc x)).trans (Ext.alloc _ (.cells #[.slice none 0 0,.slice none 0 0,.int .i64 0] 83));obtain ⟨W,hW⟩:∃ W,W=(w.alloc (bQ ra rn rc ba bn bc x)).alloc (.cells #[.slice none 0 0,.slice none 0 0,.int .i64 0] 83):=⟨_,rfl⟩;rw [<-hW] at hx0;have HX0:=ae hx0;have H:=ae (h.ext hx0);have hr1:=h.rows.hcap;have hr2:=h.rows.hmax;have HLR:=ae h.rows.hlen;have HRL:=ae hrl;have p0:W.cell? ⟨w.heap.size,0,none⟩=some (.slice ra rn rc):=by rw [hW];simp
 have p1:W.cell? ⟨w.heap.size,1,none⟩=some (.slice ba bn bc):=by rw [hW];simp
 have p2:W.cell? ⟨w.heap.size,2,none⟩=some (.int .i64 x):=by rw [hW];simp
 have HGB:=ae (show W.heap[w.heap.size+1]?=some (.cells #[.slice none 0 0,.slice none 0 0,.int .i64 0] 83 (0,0)) by rw [hW];exact aj _ _ _ (by simp));have HSW:=ae (show W.heap.size=w.heap.size+1+1 by rw [hW];simp);clear h hx0 hrl
 show Calls _ _ #[tbW ra rn rc ba bn bc x] w _;go_enter Tryz.func140,Tryz.ntmps140
 go_upto_region 1 with fail;rw [<-hW];clear hW
 go_cut [3] (fun s wx=>∃ (g:Nat) (a3:Option Addr) (n3 c3:Nat),s=.pointer (some ⟨g,0,none⟩)/\Hid (TbO wx W.heap.size g (.slice none 0 0) (.slice a3 n3 c3) x [] [] basis)/\Hid (Ext W wx))
 case first =>
  have hk2:Ext W W.drew:=Ext.drew W;have hka:Ext W (W.alloc (.cells #[.slice none 0 0,.slice none 0 0,.int .i64 0] 83)).drew:=(Ext.alloc _ _).trans (Ext.drew _);have HKEEP:=ae (fun (w':World) (h:Ext W w')=>(⟨h.cellSome p0,h.cellSome p1,h.cellSome p2,h⟩:w'.cell? ⟨w.heap.size,0,none⟩=some (.slice ra rn rc)/\w'.cell? ⟨w.heap.size,1,none⟩=some (.slice ba bn bc)/\w'.cell? ⟨w.heap.size,2,none⟩=some (.int .i64 x)/\Ext W w'))
  go_region_held3 (fun w'=>w'.cell? ⟨w.heap.size,0,none⟩=some (.slice ra rn rc)/\w'.cell? ⟨w.heap.size,1,none⟩=some (.slice ba bn bc)/\w'.cell? ⟨w.heap.size,2,none⟩=some (.int .i64 x)/\Ext W w')
   (first
     | with_reducible exact HKEEP.out _ hk2
     | with_reducible exact HKEEP.out _ hka
     | with_reducible exact HKEEP.out _ (hk2.trans (Ext.alloc _ _))
     | with_reducible exact HKEEP.out _ (((hk2.setCell (Nat.le_refl _) _).setCell (Nat.le_refl _) _).setCell (Nat.le_refl _) _))
   (first
     | (go_at_call 109
        (with_reducible refine (kQ (H.out.ext (by first|with_reducible exact hk2|with_reducible exact hka|with_reducible exact hk2.trans (Ext.alloc _ _))).basis (by omega)).mono ?_)
        rintro e w3 ⟨v3,rfl,ho3,hx3⟩;obtain ⟨a3,n3,c3,rfl,hn3⟩:=ho3.var
        first|(
           have hB0:w3.heap[W.heap.size]?=some (.cells #[.slice none 0 0,.slice none 0 0,.int .i64 0] 83 (0,0)):=Ext.blk hx3 (show (W.alloc (.cells #[.slice none 0 0,.slice none 0 0,.int .i64 0] 83)).drew.heap[W.heap.size]?=_ from heap_alloc_new W _);have b0_:=aq hB0;have b1_:=aw hB0;have b2_:=az hB0;have bf_:=cU hB0;have HB0:=ae hB0
           clear hB0)|skip
        have hk2:Ext W w3:=by first|with_reducible exact hk2.trans hx3|with_reducible exact hka.trans hx3
        have hk2s:=hk2.size)
     | fail)
  all_goals
   go_wp2_with fail;go_meet
  ·exact ⟨_,a3,n3,c3,rfl,ae (TbO.new ho3 (Nat.le_refl _) hk2s),ae (hk2.trans (Ext.alloc _ _))⟩
  ·exact ⟨_,a3,n3,c3,rfl,ae (TbO.put3 HB0.out ho3 hka.size (Nat.le_refl _)),ae (((hk2.setCell (Nat.le_refl _) _).setCell (Nat.le_refl _) _).setCell (Nat.le_refl _) _)⟩
 obtain ⟨g,a3,n3,c3,rfl,HT,HX1⟩:=hcut;replace p0:=HX1.out.cellSome p0;clear p1 p2;go_wp2_with fail
 go_loopg [15] rn (fun gk ii wr=>∃ (k:Nat) (va:Value) (vs:List Value),Hid (gk+k=rn)/\ii=.int .i64 (k:Int)/\Hid (TbO wr W.heap.size g va (.slice a3 n3 c3) x vs (rows.take k) basis)/\Hid (Ext W wr))
 case atStart=>exact ⟨0,_,_,ae (by omega),rfl,HT,HX1⟩
 case round =>
  obtain ⟨g1,h_g1⟩:∃ x,x=gk:=⟨_,rfl⟩;subst h_g1;obtain ⟨wr1,h_wr1⟩:∃ x,x=wr:=⟨_,rfl⟩;subst h_wr1;obtain ⟨k,va,vs,HK,rfl,T,HX⟩:=hrel;clear p0;by_cases hlt:k<rn
  ·obtain ⟨zb,zoff,za,zn,zc,hza,hz0,hrow⟩:=(H.out.ext HX.out).rows.at hlt;subst hza;have hzn:zn<=1048576:=by rw [<-hrow.hlen];exact HRL.out k hlt
   have HROW:=ae hrow;have t0:=aq T.out.box;have hgl:=T.out.lt;have hsx:=HX.out.size;have HVL:=ae (show vs.length=k by rw [T.out.rows.len,List.length_take];have h2:rows.length=rn:=HLR.out;omega);clear hrow;go_upto_region 5 with fail
   go_region_law (first
    | (refine bU _ rfl (ez _ _ rfl W.heap.size va vs rfl ((T.out.ext HX5.out).a.ext (Ext.alloc _ _)) _ _ 1 rfl (by first|(simp;done)|(simp;rfl)) rfl (by have:=HVL.out;omega) (by first|(simp;done)|(simp;omega)) ?_);intro v6 w6 ho6 hg6 hn6;have hbx:=T.out.boxA (HX5.out.trans (Ext.alloc _ _)) hg6;have c0:=aq hbx;have cf:=cU hbx;obtain ⟨a6,n6,c6,rfl,HN6⟩:=ho6.var;have HO6:=ae ho6;have HG6:=ae hg6;clear ho6 hg6 hn6 hbx)
    | (go_simp;go_at_call 209;refine (kR (HROW.out.ext (Ext.drew _)) (by omega)).mono ?_;rintro e w5 ⟨v5,rfl,ho5,hx5⟩;obtain ⟨a5,n5,c5,rfl,HN5⟩:=ho5.var;have HX5:=ae ((Ext.drew wr1).trans hx5);have HO5:=ae ho5;have hs5:=HX5.out.size;have hg5:g<w5.heap.size:=(by omega);replace t0:=HX5.out.cellSome t0;clear ho5 hx5))
   all_goals
    go_wp2_with fail;have HTN:=ae (T.out.pushA (HX5.out.trans (Ext.alloc _ _)) (HO5.out.ext (Ext.alloc _ _)) hsx HG6.out HO6.out);have HXN:=ae ((ak ((HX.out.trans HX5.out).trans (Ext.alloc _ _)) HG6.out (fun i hi=>(T.out.a.lt i hi).1)).setCell (p:=⟨g,0,none⟩) T.out.hg (.slice a6 n6 c6))
    go_roundg (g1-1)
    case measure=>have:=HK.out;omega
    case rel=>exact ⟨k+1,_,_,ae (by have:=HK.out;omega),by go_num,ae (by have:=HTN.out;rw [<-eW (by have h2:rows.length=rn:=HLR.out;omega)] at this;exact this),HXN⟩
  ·have hkn:rn=k:=by have:=HK.out;omega
   subst hkn;have HTT:=ae (show rows.take rn=rows from List.take_of_length_le (Nat.le_of_eq HLR.out));have HTN:=ae (show TbO wr1 W.heap.size g va (.slice a3 n3 c3) x vs rows basis by have:=T.out;rw [HTT.out] at this;exact this);have t0:=aq T.out.box;have t1:=aw T.out.box;have t2:=az T.out.box;obtain ⟨a7,n7,c7,rfl,HN7⟩:=T.out.a.var;have q0:=HX.out.blk HGB.out;have r0:=aq q0;have r1:=aw q0;have r2:=az q0;have rf:=cU q0;have hww:=HSW.out;have hsx:=HX.out.size;clear q0;go_wp2_with fail;refine bodyPost_ret (v:=.agg #[.slice a7 n7 c7,.slice a3 n3 c3,.int .i64 x]) (by simp [results,Tryz.results140,go_sem,r0,r1,r2,rf]) rfl ⟨⟨_,_,vs,rfl,?_⟩,?_⟩
   ·exact (HTN.out.own.keepAll fun k hk=>cG _ _ _ _ _ _ (by omega)).mono (by omega)
   ·exact (HX0.out.trans HX.out).set3 (Nat.le_succ _) _ _ _
end
end Go.Proofs.YthjjfkeacobikaaGreat
namespace Go.Proofs.YthjjfkeacobikaaGreat
set_option maxRecDepth 100000
open Go.RowKit
theorem kU {t:Tb} {cost:List (Int × Int)} {k:Nat} (h:cJ t cost k=none):∀ {n:Nat},k<=n->cJ t cost n=none
 | n,hn=>by
   obtain ⟨d,rfl⟩:∃ d,n=k+d:=⟨n-k,by omega⟩;clear hn
   induction d with
   | zero=>exact h
   | succ d ih=>show (cJ t cost (k+d)).bind _=none;rw [ih];rfl
theorem sclL_len {A B r:List (Int × Int)} {k:Int × Int} (h:sclL A k B=some r):r.length=A.length:=by
 unfold sclL at h;split at h
 ·exact cI h
 ·cases h
theorem jo {t:Tb} {cost:List (Int × Int)}:∀ {k:Nat} {cs:List (Int × Int)},cJ t cost k=some cs->cs.length=cost.length+1
 | 0,cs,h=>by simp only [cJ,Option.some.injEq] at h;rw [<-h];simp
 | k+1,cs,h=>by
   simp only [cJ] at h;cases e:cJ t cost k with
   | none=>rw [e] at h;cases h
   | some c0=>rw [e] at h;simp only [Option.bind_some] at h;rw [sclL_len h,jo e]
theorem fK {w:World} {ra:Option Addr} {rn rc:Nat} {ba:Option Addr} {bn bc:Nat} {t:Tb} (h:TbC w ra rn rc ba bn bc t) (ok:tbOk t=true) :
 ∃ m:Nat,t.cols=m/\m<=1000/\bn=rn/\(∀ i,i<rn->(t.row i).length=m+rn+1)/\∀ i,i<rn->∃ b:Nat,t.basis[i]?.getD 0=(b:Int)/\b<m+rn:=by
 have l1:=h.rows.hlen;have l2:=h.basis.hlen;unfold tbOk at ok;simp only [Bool.and_eq_true,decide_eq_true_eq,List.all_eq_true,inB] at ok;obtain ⟨⟨h1,h2⟩,h3,h4,h5⟩:=ok;refine ⟨t.cols.toNat,by omega,by omega,by omega,fun i hi=>?_,fun i hi=>?_⟩
 ·have:=h5 _ (List.getElem_mem (l:=t.rows) (n:=i) (by omega));unfold Tb.row;rw [List.getElem?_eq_getElem (by omega),Option.getD_some];omega
 ·have:=h4 _ (List.getElem_mem (l:=t.basis) (n:=i) (by omega));rw [List.getElem?_eq_getElem (by omega),Option.getD_some];exact ⟨t.basis[i].toNat,by omega,by omega⟩
section
variable {w:World} {ra:Option Addr} {rn rc:Nat} {ba:Option Addr} {bn bc:Nat} {t:Tb}
set_option maxHeartbeats 8000000 in
theorem sM (h:TbC w ra rn rc ba bn bc t) (hrn:rn<=100000) {ka:Option Addr} {kn kc:Nat} {cost:List (Int × Int)} (hk:Rats w ka kn kc cost) :
 Calls Tryz.prog 277 #[tbW ra rn rc ba bn bc t.cols,.slice ka kn kc] w fun e w'=>(∃ v,e=.returned (.tuple #[v,.bool (ce t cost).isSome])/\OwnR w' w.heap.size v ((ce t cost).getD []))/\Ext w w':=by
 have HF:=ae (gZ (h.ext (Ext.alloc w (bQ ra rn rc ba bn bc t.cols))) (by omega));have HTP:=ae (fun ok=>fK h ok);obtain ⟨rows,basis,x⟩:=t;have hx0:=Ext.alloc w (bQ ra rn rc ba bn bc x);have HX0:=ae hx0;have H:=ae (h.ext hx0);have HK0:=ae (hk.ext hx0);have hr1:=h.rows.hcap;have hr2:=h.rows.hmax;have hb1:=h.basis.hcap;have hb2:=h.basis.hmax;have hk1:=hk.hcap;have hk2:=hk.hmax;have HLR:=ae h.rows.hlen;have HLK:=ae hk.hlen
 have HE:=ae (show ce ⟨rows,basis,x⟩ cost=if (tbOk ⟨rows,basis,x⟩&&(decide ((kn:Int)=x+(rn:Int))&&allV cost))=true then cJ ⟨rows,basis,x⟩ cost rn else none by
  unfold ce kW;simp only;rw [h.rows.hlen,hk.hlen])
 clear h hk hx0
 show Calls _ _ #[tbW ra rn rc ba bn bc x,.slice ka kn kc] w _;cases hok:tbOk ⟨rows,basis,x⟩
 ·rw [hok] at HF;have HN:=ae (show ce ⟨rows,basis,x⟩ cost=none by rw [HE.out,hok];rfl);clear hok;go_enter Tryz.func277,Tryz.ntmps277
  go_wp2_with fail;refine HF.out.mono ?_;rintro e w1 ⟨rfl,hx⟩;have X1:=ae (HX0.out.trans hx);clear hx;go_wp2_with fail;refine bodyPost_ret (v:=.tuple #[.slice none 0 0,.bool false]) (by simp [results,Tryz.results277,go_sem]) rfl ⟨⟨.slice none 0 0,by rw [HN.out];rfl,by rw [HN.out];exact OwnR.nil _ _⟩,X1.out⟩
 ·rw [hok] at HF;obtain ⟨m,hxm,hm,hbr,HRL,HBS⟩:=HTP.out hok;simp only at hxm;subst hxm hbr;have hre:=ae hok;replace HRL:=ae HRL;replace HBS:=ae HBS;clear hok;by_cases hkl:kn=m+bn
  ·subst hkl;have hkk:((m+bn:Nat):Int)=(m:Int)+(bn:Int):=by simp
   have hne:(((m+bn:Nat):Int) != (m:Int)+(bn:Int))=false:=by simp
   have HV:=ae (fun (W:World) (hx:Ext (w.alloc (bQ ra bn rc ba bn bc (m:Int))) W)=>lm (HK0.out.ext hx));cases hv:allV cost
   ·simp only [hv] at HV;have HN:=ae (show ce ⟨rows,basis,(m:Int)⟩ cost=none by rw [HE.out,hre.out,hv,hkk];simp);clear hv;go_enter Tryz.func277,Tryz.ntmps277
    go_wp2_with fail;refine HF.out.mono ?_;rintro e w1 ⟨rfl,hx⟩;have c0:w1.cell? ⟨w.heap.size,0,none⟩=some (.slice ra bn rc):=hx.cellSome (by simp);have c2:w1.cell? ⟨w.heap.size,2,none⟩=some (.int .i64 (m:Int)):=hx.cellSome (by simp);have X1:=ae hx;clear hx;go_wp2_with fail;refine (HV.out _ X1.out).mono ?_;rintro e w2 ⟨rfl,hx⟩;have X2:=ae ((HX0.out.trans X1.out).trans hx);clear hx;go_wp2_with fail;refine bodyPost_ret (v:=.tuple #[.slice none 0 0,.bool false]) (by simp [results,Tryz.results277,go_sem]) rfl ⟨⟨.slice none 0 0,by rw [HN.out];rfl,by rw [HN.out];exact OwnR.nil _ _⟩,X2.out⟩
   ·simp only [hv] at HV;have HV2:=ae (show cost.all valR=true from hv);have HE2:=ae (show ce ⟨rows,basis,(m:Int)⟩ cost=cJ ⟨rows,basis,(m:Int)⟩ cost bn by rw [HE.out,hre.out,hv,hkk];simp);clear hv;go_enter Tryz.func277,Tryz.ntmps277
    go_wp2_with fail;refine HF.out.mono ?_;rintro e w1 ⟨rfl,hx⟩;have c0:w1.cell? ⟨w.heap.size,0,none⟩=some (.slice ra bn rc):=hx.cellSome (by simp);have c2:w1.cell? ⟨w.heap.size,2,none⟩=some (.int .i64 (m:Int)):=hx.cellSome (by simp);have X1:=ae hx;clear hx;go_wp2_with fail;refine (HV.out _ X1.out).mono ?_;rintro e w2 ⟨rfl,hx⟩;have X2:=ae (X1.out.trans hx);clear hx c0 c2;have HCL:=ae (kR (HK0.out.ext X2.out) (by omega));go_wp2_with fail;refine HCL.out.mono ?_;rintro e w3 ⟨v3,rfl,ho3,hx⟩;obtain ⟨a3,n3,p3,rfl,HN3⟩:=ho3.var;have X3:=ae (X2.out.trans hx);have HO3:=ae (ho3.mono (show w.heap.size+1<=w2.heap.size by have:=X2.out.size;simpa using this));clear hx ho3;go_wp2_with fail;refine (cK 0 _).mono ?_;rintro e w4 ⟨rfl,hx⟩;have X4:=ae (X3.out.trans hx);have HO4:=ae (HO3.out.ext hx);have hs4:w.heap.size+1<=w4.heap.size:=by have:=X4.out.size;simpa using this
    clear hx
    go_wp2_with (first
     | (at_builtin;refine aG rfl _ _ rfl (w.heap.size+1) (.slice a3 n3 p3) _ rfl (HO4.out.ext (Ext.alloc _ _)) _ 1 _ [(0,1)] rfl (Rats.one' _ _ _ _ _ (by simp)) (by rw [HLK.out];omega) (by simp;omega) ?_;intro v5 w5 ho hg hnear;have X5:=ae (ak (X4.out.trans (Ext.alloc _ _)) hg (fun j hj=>by have:=(HO4.out.lt j hj).1;simpa using this));obtain ⟨a5,n5,p5,rfl,HN5⟩:=ho.var;have HO5:=ae ho;clear ho hg hnear;have c0:w5.cell? ⟨w.heap.size,0,none⟩=some (.slice ra bn rc):=X5.out.cellSome (by simp)))
    go_loopg [6,38] bn (fun gk o ii wr=>∃ (k:Nat) (a1:Option Addr) (n1 p1:Nat) (cs:List (Int × Int)),Hid (gk+k=bn)/\ii=.int .i64 (k:Int)/\o=.slice a1 n1 p1/\Hid (cJ ⟨rows,basis,(m:Int)⟩ cost k=some cs)/\Hid (OwnR wr (w.heap.size+1) (.slice a1 n1 p1) cs)/\Hid (Ext (w.alloc (bQ ra bn rc ba bn bc (m:Int))) wr))
    case atStart=>exact ⟨0,_,_,_,_,ae (by omega),rfl,rfl,ae rfl,HO5,X5⟩
    case round =>
     obtain ⟨g1,h_g1⟩:∃ x,x=gk:=⟨_,rfl⟩;subst h_g1;obtain ⟨wr1,h_wr1⟩:∃ x,x=wr:=⟨_,rfl⟩;subst h_wr1;obtain ⟨k,a1,n1,p1,cs,HK,rfl,rfl,HC,HO,HX⟩:=hrel;clear c0;by_cases hlt:k<bn
     ·obtain ⟨zb,zoff,za,zn,zc,hza,hz0,hrow⟩:=(H.out.ext HX.out).rows.at hlt;subst hza;have HROW:=ae hrow;obtain ⟨b,hbk,hbl⟩:=HBS.out k hlt;obtain ⟨yb,yoff,hya,hy0⟩:=(H.out.ext HX.out).basis.at hlt;subst hya;simp only [hbk] at hy0;obtain ⟨xb,xoff,p,q,hxa,hpq,hx0,hx1⟩:=(HK0.out.ext HX.out).at (show b<m+bn from hbl);subst hxa;have HPQ:=ae hpq;have HBK:=ae hbk;have c1:wr1.cell? ⟨w.heap.size,1,none⟩=some (.slice (some ⟨yb,yoff,none⟩) bn bc):=HX.out.cellSome (by simp);have HBD:=ae (aU (p:=(p,q)) (by rw [<-HPQ.out,List.getElem?_eq_getElem (by rw [HLK.out];exact hbl),Option.getD_some];exact (List.all_eq_true.1 HV2.out) _ (List.getElem_mem _)));have hp0:-9223372036854775807<=p:=by have:=HBD.out.2.2.1;simp only at this;omega
      have hp1:p<=9223372036854775807:=by have:=HBD.out.2.2.2;simp only at this;omega
      have HLC:=ae (jo HC.out);have hbl0:(b:Int)<((m+bn:Nat):Int):=by omega
      clear hpq hbk hrow;go_wp2_with fail;refine (el p q _ hp0 hp1).mono ?_;rintro e w6 ⟨rfl,hx⟩;have X6:=ae (HX.out.trans hx);have HAS:=ae (kd (k1:=-p) (k2:=q) ((HO.out.ext hx).rats) (HROW.out.ext hx) (by have:=(HO.out).rats.hlen;have:=HLC.out;have:=HLK.out;omega));obtain ⟨sv,hsv⟩:∃ s,s=sclL cs (-p,q) (rows[k]?.getD []):=⟨_,rfl⟩
      have HST:=ae (show cJ ⟨rows,basis,(m:Int)⟩ cost (k+1)=sv by
       rw [hsv]
       show (cJ ⟨rows,basis,(m:Int)⟩ cost k).bind _=_;rw [HC.out]
       show sclL cs (negR (cost[(basis[k]?.getD 0).toNat]?.getD (0,0))) (rows[k]?.getD [])=_
       rw [show basis[k]?.getD 0=(b:Int) from HBK.out,Int.toNat_natCast,HPQ.out];rfl)
      rw [<-hsv] at HAS;clear hsv hx;cases sv with
      | none =>
        have HN:=ae (show ce ⟨rows,basis,(m:Int)⟩ cost=none by rw [HE2.out];exact kU HST.out hlt);go_wp2_with fail;refine HAS.out.mono ?_;rintro e w7 ⟨⟨v7,rfl,ho7⟩,hx⟩;have X7:=ae ((HX0.out.trans X6.out).trans hx);clear ho7 hx;go_wp2_with fail;refine bodyPost_ret (v:=.tuple #[.slice none 0 0,.bool false]) (by simp [results,Tryz.results277,go_sem]) rfl ⟨⟨.slice none 0 0,by rw [HN.out];rfl,by rw [HN.out];exact OwnR.nil _ _⟩,X7.out⟩
      | some cs2 =>
        go_wp2_with fail;refine HAS.out.mono ?_;rintro e w7 ⟨⟨v7,rfl,ho7⟩,hx⟩;obtain ⟨a7,n7,p7,rfl,HN7⟩:=ho7.var;have HO7:=ae (show OwnR w7 (w.heap.size+1) (.slice a7 n7 p7) cs2 from OwnR.mono ho7 (by have:=X6.out.size;simpa using this));have X7:=ae (X6.out.trans hx);clear ho7 hx;go_wp2_with fail
        go_roundg (g1-1)
        case measure=>have:=HK.out;omega
        case rel=>exact ⟨k+1,a7,n7,p7,cs2,ae (by have:=HK.out;omega),by go_num,rfl,HST,HO7,X7⟩
     ·have hkn:bn=k:=by have:=HK.out;omega
      subst hkn;have HY:=ae (show ce ⟨rows,basis,(m:Int)⟩ cost=some cs by rw [HE2.out];exact HC.out);go_wp2_with fail;refine bodyPost_ret (v:=.tuple #[.slice a1 n1 p1,.bool true]) (by simp [results,Tryz.results277,go_sem]) rfl ⟨⟨.slice a1 n1 p1,by rw [HY.out];rfl,by rw [HY.out];exact HO.out.mono (Nat.le_succ _)⟩,HX0.out.trans HX.out⟩
  ·have hne:((kn:Int) != (m:Int)+(bn:Int))=true:=by simp;omega
   have HN:=ae (show ce ⟨rows,basis,(m:Int)⟩ cost=none by rw [HE.out,decide_eq_false (by omega:¬ (kn:Int)=(m:Int)+(bn:Int))];simp);go_enter Tryz.func277,Tryz.ntmps277
   go_wp2_with fail;refine HF.out.mono ?_;rintro e w1 ⟨rfl,hx⟩;have c0:w1.cell? ⟨w.heap.size,0,none⟩=some (.slice ra bn rc):=hx.cellSome (by simp);have c2:w1.cell? ⟨w.heap.size,2,none⟩=some (.int .i64 (m:Int)):=hx.cellSome (by simp);have X1:=ae (HX0.out.trans hx);clear hx;go_wp2_with fail;refine bodyPost_ret (v:=.tuple #[.slice none 0 0,.bool false]) (by simp [results,Tryz.results277,go_sem]) rfl ⟨⟨.slice none 0 0,by rw [HN.out];rfl,by rw [HN.out];exact OwnR.nil _ _⟩,X1.out⟩
end
end Go.Proofs.YthjjfkeacobikaaGreat
namespace Go.Proofs.YthjjfkeacobikaaGreat
set_option maxRecDepth 100000
open Go.RowKit
set_option maxHeartbeats 2000000 in
theorem i_sign (x y:Int) (w:World):Calls Tryz.prog 285 #[ratV x y] w fun e w'=>e=.returned (.int .i64 (cmpR (x,y) (0,1)))/\Ext w w':=by
 obtain ⟨W,hW⟩:∃ W,W=w.alloc (.cells #[.int .i64 x,.int .i64 y] 43):=⟨_,rfl⟩;have HX:=ae (show Ext w W by rw [hW];exact Ext.alloc _ _);have c0:W.cell? ⟨w.heap.size,0,none⟩=some (.int .i64 x):=by rw [hW];simp
 have c1:W.cell? ⟨w.heap.size,1,none⟩=some (.int .i64 y):=by rw [hW];simp
 go_enter Tryz.func285,Tryz.ntmps285
 go_upto_region 1 with fail;rw [<-hW];clear hW;have hk2:Ext W W.drew:=Ext.drew W;have hka:=hk2;have HKEEP:=ae (fun (w':World) (h:Ext W w')=>(⟨h.cellSome c0,h.cellSome c1,h⟩:w'.cell? ⟨w.heap.size,0,none⟩=some (.int .i64 x)/\w'.cell? ⟨w.heap.size,1,none⟩=some (.int .i64 y)/\Ext W w'))
 go_region_held3 (fun w'=>w'.cell? ⟨w.heap.size,0,none⟩=some (.int .i64 x)/\w'.cell? ⟨w.heap.size,1,none⟩=some (.int .i64 y)/\Ext W w')
  (with_reducible exact HKEEP.out _ hk2)
  (first
    | (go_at_call 112
       (with_reducible refine (cK 0 _).mono ?_)
       rintro e w3 ⟨rfl,hx_w3⟩;have hk2:Ext W w3:=hk2.trans hx_w3
       have hs_w3:=hk2.size)
    | (go_at_call 38
       (with_reducible refine (gY x y 0 1 _).mono ?_)
       rintro e w4 ⟨rfl,hx_w4⟩;have hk2:Ext W w4:=hk2.trans hx_w4
       have hs_w4:=hk2.size)
    | fail)
 clear HKEEP hka;go_wp2_with fail;go_ret;exact ⟨rfl,HX.out.trans hk2⟩
theorem sy {costs:List (Int × Int)} {m:Nat} (h:costs.length<m):bp costs m=-1:=by unfold bp;rw [if_pos (by omega)]
theorem mS {costs:List (Int × Int)} {m j:Nat} (h:m<=costs.length) (hj:j<m) (h0:(costs.take j).all (fun c=>!eI c)=true) (h1:eI (costs[j]?.getD (0,0))=true):bp costs m=j:=by
 unfold bp;rw [if_neg (by omega)];refine eJ (d:=(0,0)) (by simp;omega) (by rw [Int.toNat_natCast,List.take_take,Nat.min_eq_left (by omega)];exact h0) ?_;rw [Int.toNat_natCast,List.getElem?_take,if_pos hj];exact h1
theorem jX {costs:List (Int × Int)} {m:Nat} (h:m<=costs.length) (h0:(costs.take m).all (fun c=>!eI c)=true):bp costs m=-1:=by
 unfold bp;rw [if_neg (by omega),Int.toNat_natCast];exact dL h0
theorem jW {costs:List (Int × Int)} {j:Nat} {c:Int × Int} (hj:j<costs.length) (hc:costs[j]?.getD (0,0)=c) (h0:(costs.take j).all (fun c=>!eI c)=true) (h1:eI c=false):(costs.take (j+1)).all (fun c=>!eI c)=true:=by
 rw [ev hj,List.all_append,h0,hc];simp [h1]
set_option maxHeartbeats 4000000 in
theorem kt {w:World} {ra:Option Addr} {rn rc:Nat} {ba:Option Addr} {bn bc:Nat} {x:Int} {a:Option Addr} {n cap:Nat} {costs:List (Int × Int)} (h:Rats w a n cap costs) (m:Nat) (hm:m<=100000) :
 Calls Tryz.prog 278 #[tbW ra rn rc ba bn bc x,.slice a n cap,.int .i64 (m:Int)] w fun e w'=>e=.returned (.int .i64 (bp costs m))/\Ext w w':=by
 have hx0:=Ext.alloc w (bQ ra rn rc ba bn bc x);have HX0:=ae hx0;have H:=ae (h.ext hx0);have hc1:=h.hcap;have hc2:=h.hmax;have HL:=ae h.hlen;clear h hx0;by_cases hmn:n<m
 ·have HN:=ae (show bp costs m=-1 from sy (by rw [HL.out];exact hmn));have hgt:(m:Int) > (n:Int):=by omega
  go_enter Tryz.func278,Tryz.ntmps278
  go_wp2_with fail;go_ret;exact ⟨aQ HN.out.symm,HX0.out⟩
 ·have hle:¬ (m:Int) > (n:Int):=by omega
  go_enter Tryz.func278,Tryz.ntmps278
  go_wp2_with fail
  go_loopg [7] m (fun gk ii wr=>∃ k:Nat,Hid (gk+k=m)/\ii=.int .i64 (k:Int)/\Hid ((costs.take k).all (fun c=>!eI c)=true)/\Hid (Ext (w.alloc (bQ ra rn rc ba bn bc x)) wr))
  case atStart=>exact ⟨0,ae (by omega),rfl,ae rfl,ae (Ext.refl _)⟩
  case round =>
   obtain ⟨g1,h_g1⟩:∃ x,x=gk:=⟨_,rfl⟩;subst h_g1;obtain ⟨wr1,h_wr1⟩:∃ x,x=wr:=⟨_,rfl⟩;subst h_wr1;obtain ⟨k,HK,rfl,HA,HX⟩:=hrel;by_cases hlt:k<m
   ·have hkn:k<n:=by omega
    obtain ⟨zb,zoff,p,q,hza,hpq,hz0,hz1⟩:=(H.out.ext HX.out).at hkn;subst hza;have HPQ:=ae hpq;have HS:=ae (i_sign p q wr1);obtain ⟨sg,hsg⟩:∃ s,s=cmpR (p,q) (0,1):=⟨_,rfl⟩;have HSG:=ae (show eI (p,q)=decide (sg<0) by rw [hsg];rfl);rw [<-hsg] at HS;clear hpq hsg;by_cases hs0:sg<0
    ·have HR:=ae (show bp costs m=k from mS (by rw [HL.out];omega) hlt HA.out (by rw [HPQ.out,HSG.out,decide_eq_true hs0]));go_wp2_with fail;refine HS.out.mono ?_;rintro e w3 ⟨rfl,hx⟩;have X3:=ae (HX.out.trans hx);clear hx;go_wp2_with fail;go_ret;exact ⟨aQ HR.out.symm,HX0.out.trans X3.out⟩
    ·have HT:=ae (jW (by rw [HL.out];exact hkn) HPQ.out HA.out (by rw [HSG.out,decide_eq_false hs0]));go_wp2_with fail;refine HS.out.mono ?_;rintro e w3 ⟨rfl,hx⟩;have X3:=ae (HX.out.trans hx);clear hx;go_wp2_with fail
     go_roundg (g1-1)
     case measure=>have:=HK.out;omega
     case rel=>exact ⟨k+1,ae (by have:=HK.out;omega),by go_num,HT,X3⟩
   ·have hkm:m=k:=by have:=HK.out;omega
    subst hkm;have HR:=ae (show bp costs m=-1 from jX (by rw [HL.out];omega) HA.out);go_wp2_with fail;go_ret;exact ⟨aQ HR.out.symm,HX0.out.trans HX.out⟩
end Go.Proofs.YthjjfkeacobikaaGreat
