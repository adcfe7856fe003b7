import Derived.Shelf.Strings.Prefix
import Derived.Shelf.Small.Wraps
import Derived.Shelf.Strings.OnBuilder
import Derived.Test.YtdadoignenffgaaGreatDoorProg
import Derived.Test.YtdadoignenffgaaGreatDoorEbAllG36
import Derived.Test.YtdadoignenffgaaGreatDoorEbAllG2
import Derived.Lib.AppendStr
import Derived.Test.YtdadoignenffgaaGreatDoorEbAllG0
import Derived.Test.YtdadoignenffgaaGreatDoorEbAllG9
import Derived.Test.YtdadoignenffgaaGreatDoorEbAllG23
set_option linter.unusedVariables false
set_option linter.unusedSimpArgs false
namespace Go.Proofs.YtdadoignenffgaaGreatDoor
variable{w:World}{a:j6}{base n:Nat}{L:List (List UInt8)}
set_option maxHeartbeats 16000000
open Go.Shelf
def sN:Go.Shelf.Ren:=⟨fun|101=>117|208=>183|206=>224|n=>n,fun|9=>9|4=>4|3=>3|n=>n,fun|n=>n⟩
theorem NH:Go.Proofs.Lays.n101 Tryz.prog sN:={
 mixed:=by kernel_rfl
 f101:=Tryz.func117.trans (Jr some e9)
 f206:=Tryz.func224.trans (Jr some e9)
 f208:=Tryz.func183.trans (Jr some e9)
 t3:=abR
 a3:=adR
 z3:=adu
 v3:=acK
 t4:=abr
 a4:=adS
 z4:=adv
 v4:=acL
 t9:=aaq
 a9:=adT
 z9:=adw
 v9:=acM }
def uH:Go.Shelf.Ren:=⟨fun|103=>115|210=>182|206=>224|n=>n,fun|9=>9|4=>4|24=>128|3=>3|n=>n,fun|n=>n⟩
theorem Rb:Go.Proofs.Lays.n103 Tryz.prog uH:={
 mixed:=by kernel_rfl
 f103:=Tryz.func115.trans (Jr some e9)
 f206:=Tryz.func224.trans (Jr some e9)
 f210:=Tryz.func182.trans (Jr some e9)
 t3:=abR
 a3:=adR
 z3:=adu
 v3:=acK
 t4:=abr
 a4:=adS
 z4:=adv
 v4:=acL
 t9:=aaq
 a9:=adT
 z9:=adw
 v9:=acM
 t24:=Tryz.underlying128
 a24:=Tryz.isAgg128
 z24:=Tryz.sizeOf128
 v24:=Tryz.zeroValue128 }
def ls:Go.Shelf.Ren:=⟨fun|156=>132|165=>201|166=>202|169=>203|240=>239|241=>240|276=>258|277=>259|n=>n,fun|31=>53|9=>9|3=>3|4=>4|0=>0|20=>20|72=>191|76=>195|70=>189|37=>26|75=>194|127=>217|164=>224|5=>5|80=>197|n=>n,fun|n=>n⟩
theorem sM:Go.Proofs.Lays.n156 Tryz.prog ls:={
 mixed:=by kernel_rfl
 f156:=Tryz.func132.trans (Jr some e9)
 f165:=Tryz.func201.trans (Jr some e9)
 f166:=Tryz.func202.trans (Jr some e9)
 f169:=Tryz.func203.trans (Jr some e9)
 f240:=Tryz.func239.trans (Jr some e9)
 f241:=Tryz.func240.trans (Jr some e9)
 f276:=Tryz.func258.trans (Jr some e9)
 f277:=Tryz.func259.trans (Jr some e9)
 t0:=Tryz.underlying0
 a0:=Tryz.isAgg0
 z0:=Tryz.sizeOf0
 v0:=Tryz.zeroValue0
 t3:=abR
 a3:=adR
 z3:=adu
 v3:=acK
 t4:=abr
 a4:=adS
 z4:=adv
 v4:=acL
 t9:=aaq
 a9:=adT
 z9:=adw
 v9:=acM
 t20:=Tryz.underlying20
 a20:=Tryz.isAgg20
 z20:=Tryz.sizeOf20
 v20:=Tryz.zeroValue20
 t31:=aaD
 a31:=Tryz.isAgg53
 z31:=Tryz.sizeOf53
 v31:=Tryz.zeroValue53
 t37:=aan
 a37:=Tryz.isAgg26
 z37:=Tryz.sizeOf26
 v37:=Tryz.zeroValue26
 t70:=Tryz.underlying189
 a70:=Tryz.isAgg189
 z70:=Tryz.sizeOf189
 v70:=Tryz.zeroValue189
 t72:=Tryz.underlying191
 a72:=Tryz.isAgg191
 z72:=Tryz.sizeOf191
 v72:=Tryz.zeroValue191
 t75:=Tryz.underlying194
 a75:=Tryz.isAgg194
 z75:=Tryz.sizeOf194
 v75:=Tryz.zeroValue194
 t76:=Tryz.underlying195
 a76:=Tryz.isAgg195
 z76:=Tryz.sizeOf195
 v76:=Tryz.zeroValue195
 t127:=Tryz.underlying217
 a127:=Tryz.isAgg217
 z127:=Tryz.sizeOf217
 v127:=Tryz.zeroValue217
 t164:=Tryz.underlying224
 a164:=Tryz.isAgg224
 z164:=Tryz.sizeOf224
 v164:=Tryz.zeroValue224 }
theorem qq:Builder.Extra Tryz.prog ls where
 sizeBuilder:=by kernel_rfl
 liesBuilder:=by kernel_rfl
 t5:=aa4
 a5:=Tryz.isAgg5
 z5:=Tryz.sizeOf5
 v5:=Tryz.zeroValue5
 infoByte:=by kernel_rfl
 cellsByte:=by kernel_rfl
 sizeByte:=by kernel_rfl
 neB5:=by decide
set_option maxRecDepth 100000
open Go.RowKit
theorem uC {w: World}(x y : Int)(ht : Lib.TabIs Tryz.prog w "internal/strconv.uint64pow10" .u64 Lib.pow10Tab) :
 Calls Tryz.prog 77 #[Aj x y] w fun e w'=>e=.returned (.string (bs (AG (x,y))))/\Ext w w':=by
 have HX:=ae (Ext.alloc w (.cells #[.int .i64 x,.int .i64 y] 62));have HT:=ae ht;clear ht;have HC:=ae (fun w=>av x y w);cases hv:o9 (x,y)
 ·rw[hv]at HC;have HR:=ae (show AG (x,y)=[]by unfold AG;rw[hv];rfl);clear hv;go_enter aeV,aeI
  go_wp2_with fail;refine(HC.o _).mono ?_;rintro e w1 ⟨rfl,hx⟩;have X1:=ae (HX.o.trans hx);clear hx;go_wp2_with fail;go_ret;exact⟨bM (by rw[HR.o];rfl),X1.o⟩
 ·rw[hv]at HC;have hb:(1<=y/\y<=1000000000)/\(-1000000000<=x/\x<=1000000000):=by
   have:=hv;simp only[o9,r9,xf,sw]at this;omega
  have HB:=ae hb;have V3:=ae (fun(w':World) (hx:Ext w w')=>gF (w:=w') x e7 e7 (ec HT.o hx));have HIy:=ae (fun(w':World) (hx:Ext w w')=>gF (w:=w') y e7 e7 (ec HT.o hx));have Rr:(bs (Lib.itoa x)).size<=21:=by rw[aW];exact aab x e7 e7
  have hsy:(bs (Lib.itoa y)).size<=21:=by rw[aW];exact aab y e7 e7
  clear hb;by_cases h1:y=1
  ·subst h1;have HR:=ae (show AG (x,1)=Lib.itoa x by unfold AG;rw[hv];rfl);clear hv;have G0:=ae (show(w.alloc (.cells #[.int .i64 x,.int .i64 1] 62)).cell? ⟨w.heap.size,0,none⟩=some (.int .i64 x)by simp);have G1:=ae (show(w.alloc (.cells #[.int .i64 x,.int .i64 1] 62)).cell? ⟨w.heap.size,1,none⟩=some (.int .i64 1)by simp);go_enter aeV,aeI
   go_wp2_with fail;refine(HC.o _).mono ?_;rintro e w1 ⟨rfl,hx⟩;have X1:=ae (HX.o.trans hx);have g0:=hx.j9 G0.o;have g1:=hx.j9 G1.o;clear hx;go_wp2_with fail;refine(V3.o _ X1.o).mono ?_;rintro e w2 ⟨rfl,hx⟩;have X2:=ae (X1.o.trans hx);clear hx g0 g1;go_wp2_with fail;go_ret;exact⟨bM (by rw[HR.o]),X2.o⟩
  ·have HR:=ae (show AG (x,y)=Lib.itoa x++([47]++Lib.itoa y)by unfold AG;rw[hv,hI rfl,hD h1]);have hne:(y == 1)=false:=by simp[h1]
   clear hv;have G0:=ae (show(w.alloc (.cells #[.int .i64 x,.int .i64 y] 62)).cell? ⟨w.heap.size,0,none⟩=some (.int .i64 x)by simp);have G1:=ae (show(w.alloc (.cells #[.int .i64 x,.int .i64 y] 62)).cell? ⟨w.heap.size,1,none⟩=some (.int .i64 y)by simp);obtain⟨tx,Eb⟩:=b9 (bs (Lib.itoa x));obtain⟨ty,Uj⟩:=b9 (bs (Lib.itoa y))
   have HJ:=ae (show tx++{ data:=#[47] }++ty=bs (AG (x,y))by
    rw[HR.o,Eb,Uj]
    show bs _++bs [47]++bs _=_
    rw[bT,bT,N7])
   rw[<-Eb]at V3 Rr;rw[<-Uj]at HIy hsy;clear Eb Uj h1;go_enter aeV,aeI
   go_wp2_with fail;refine(HC.o _).mono ?_;rintro e w1 ⟨rfl,hx⟩;have X1:=ae (HX.o.trans hx);have g0:=hx.j9 G0.o;have g1:=hx.j9 G1.o;clear hx;go_wp2_with fail;have AS:¬9223372036854775807<tx.size+1:=by omega
   have AD:¬9223372036854775807<tx.size+1+ty.size:=by omega
   have k7:Ext w1 w1.drew:=Ext.drew w1;have zw:=k7;have k8:=ae (fun(w':World) (h:Ext w1 w')=>(⟨h.j9 g0,h.j9 g1,h⟩:w'.cell? ⟨w.heap.size,0,none⟩=some (.int .i64 x)/\w'.cell? ⟨w.heap.size,1,none⟩=some (.int .i64 y)/\Ext w1 w'));go_wp2_with fail
   go_region_held3 (fun w'=>w'.cell? ⟨w.heap.size,0,none⟩=some (.int .i64 x)/\w'.cell? ⟨w.heap.size,1,none⟩=some (.int .i64 y)/\Ext w1 w')
    (with_reducible exact k8.o _ k7)
    (first
      | (go_at_call 23
         (with_reducible refine(V3.o _ (X1.o.trans (by first|with_reducible exact k7|with_reducible exact zw|with_reducible exact k7.trans (Ext.alloc _ _)))).mono ?_)
         rintro e w3 ⟨rfl,y8⟩;have k7:Ext w1 w3:=k7.trans y8
         have F5:=k7.size)
      | (go_at_call 23
         (with_reducible refine(HIy.o _ (X1.o.trans (by first|with_reducible exact k7|with_reducible exact zw|with_reducible exact k7.trans (Ext.alloc _ _)))).mono ?_)
         rintro e w4 ⟨rfl,zg⟩;have k7:Ext w1 w4:=k7.trans zg
         have Hv:=k7.size)
      | fail)
   clear k8 zw;go_wp2_with fail;go_ret;exact⟨bM HJ.o,X1.o.trans k7⟩
theorem uL(x y:Int):
 Calls Tryz.prog 52 #[Aj x y] w fun e w'=>e=.returned (.string (bs (AG (x,y))))/\Ext w w':=by
 have HX:=ae (Ext.alloc w (.cells #[.int .i64 x,.int .i64 y] 62));have HC:=ae (fun w=>aH x y w);cases hv:o9 (x,y)
 ·rw[hv]at HC;have HR:=ae (show AG (x,y)=[]by unfold AG;rw[hv];rfl);clear hv;go_enter aeW,aeJ
  go_wp2_with fail;refine(HC.o _).mono ?_;rintro e w1 ⟨rfl,hx⟩;have X1:=ae (HX.o.trans hx);clear hx;go_wp2_with fail;go_ret;exact⟨bM (by rw[HR.o];rfl),X1.o⟩
 ·rw[hv]at HC;have hb:(1<=y/\y<=1000000000)/\(-1000000000<=x/\x<=1000000000):=by
   have:=hv;simp only[o9,r9,xf,sw]at this;omega
  have HB:=ae hb;have K:=ae (fun(w':World) (hx:Ext w w')=>fA (w:=w') x e7 e7);have G:=ae (fun(w':World) (hx:Ext w w')=>fA (w:=w') y e7 e7);have Rr:(bs (Lib.itoa x)).size<=21:=by rw[aW];exact aab x e7 e7
  have hsy:(bs (Lib.itoa y)).size<=21:=by rw[aW];exact aab y e7 e7
  clear hb;by_cases h1:y=1
  ·subst h1;have HR:=ae (show AG (x,1)=Lib.itoa x by unfold AG;rw[hv];rfl);clear hv;have U:=ae (show(w.alloc (.cells #[.int .i64 x,.int .i64 1] 62)).cell? ⟨w.heap.size,0,none⟩=some (.int .i64 x)by simp);have Q:=ae (show(w.alloc (.cells #[.int .i64 x,.int .i64 1] 62)).cell? ⟨w.heap.size,1,none⟩=some (.int .i64 1)by simp);go_enter aeW,aeJ
   go_wp2_with fail;refine(HC.o _).mono ?_;rintro e w1 ⟨rfl,hx⟩;have X1:=ae (HX.o.trans hx);have g0:=hx.j9 U.o;have g1:=hx.j9 Q.o;clear hx;go_wp2_with fail;refine(K.o _ X1.o).mono ?_;rintro e w2 ⟨rfl,hx⟩;have X2:=ae (X1.o.trans hx);clear hx g0 g1;go_wp2_with fail;go_ret;exact⟨bM (by rw[HR.o]),X2.o⟩
  ·have HR:=ae (show AG (x,y)=Lib.itoa x++([47]++Lib.itoa y)by unfold AG;rw[hv,hI rfl,hD h1]);have hne:(y == 1)=false:=by simp[h1]
   clear hv;have U:=ae (show(w.alloc (.cells #[.int .i64 x,.int .i64 y] 62)).cell? ⟨w.heap.size,0,none⟩=some (.int .i64 x)by simp);have Q:=ae (show(w.alloc (.cells #[.int .i64 x,.int .i64 y] 62)).cell? ⟨w.heap.size,1,none⟩=some (.int .i64 y)by simp);obtain⟨J,Z⟩:=b9 (bs (Lib.itoa x));obtain⟨ty,O⟩:=b9 (bs (Lib.itoa y))
   have HJ:=ae (show J++{ data:=#[47] }++ty=bs (AG (x,y))by
    rw[HR.o,Z,O]
    show bs _++bs [47]++bs _=_
    rw[bT,bT,N7])
   rw[<-Z]at K Rr;rw[<-O]at G hsy;clear Z O h1;go_enter aeW,aeJ
   go_wp2_with fail;refine(HC.o _).mono ?_;rintro e w1 ⟨rfl,hx⟩;have X1:=ae (HX.o.trans hx);have g0:=hx.j9 U.o;have g1:=hx.j9 Q.o;clear hx;go_wp2_with fail;have AS:¬9223372036854775807<J.size+1:=by omega
   have AD:¬9223372036854775807<J.size+1+ty.size:=by omega
   have k7:Ext w1 w1.drew:=Ext.drew w1;have I:=k7;have k8:=ae (fun(w':World) (h:Ext w1 w')=>(⟨h.j9 g0,h.j9 g1,h⟩:w'.cell? ⟨w.heap.size,0,none⟩=some (.int .i64 x)/\w'.cell? ⟨w.heap.size,1,none⟩=some (.int .i64 y)/\Ext w1 w'));go_wp2_with fail
   go_region_held3 (fun w'=>w'.cell? ⟨w.heap.size,0,none⟩=some (.int .i64 x)/\w'.cell? ⟨w.heap.size,1,none⟩=some (.int .i64 y)/\Ext w1 w')
    (with_reducible exact k8.o _ k7)
    (first
      | (go_at_call 16
         (with_reducible refine(K.o _ (X1.o.trans (by first|with_reducible exact k7|with_reducible exact I|with_reducible exact k7.trans (Ext.alloc _ _)))).mono ?_)
         rintro e w3 ⟨rfl,y8⟩;have k7:Ext w1 w3:=k7.trans y8
         have F5:=k7.size)
      | (go_at_call 16
         (with_reducible refine(G.o _ (X1.o.trans (by first|with_reducible exact k7|with_reducible exact I|with_reducible exact k7.trans (Ext.alloc _ _)))).mono ?_)
         rintro e w4 ⟨rfl,zg⟩;have k7:Ext w1 w4:=k7.trans zg
         have Hv:=k7.size)
      | fail)
   clear k8 I;go_wp2_with fail;go_ret;exact⟨bM HJ.o,X1.o.trans k7⟩
theorem Pe(l:List UInt8):Lib.strCells (bs l)=Iz.all l:=by
 unfold Lib.strCells Enc.all
 show(bs l).data.toList.map _=l.flatMap fun c=>[Value.int .u8 (c.toNat:Int)]
 rw[<-List.map_eq_flatMap]
 rfl
theorem jV{P:Program}{w:World}{ops:Array Oper}{rest:List Oper}{o:Oper}{a:Act}{Q:Exit->Act->World->Prop}{t U O:TypeId}(I:(P.info? t).map (fun i=>(i.zero,i.size,i.bytes))=some (some (.int .u8 0),1,1))(ht:P.underlying U=some (.slice t))(hu:P.underlying O=some .string)(Z:o.guard=none)
 (s x:Operand) (ho:o.op=.call { callee:=.builtin .append,args:=#[s,x],argTypes:=#[U,O] })
 (base:Nat) (v:Value) (l:List UInt8) (hs:a.eval s=v) (AI:zd Iz t w base v l) (J:List UInt8) (hx:a.eval x=.string (bs J)) (hb:l.length+J.length<=1099511627776) (G:base<=w.heap.size)
 (h:∀K w',zd Iz t w' base K (l++J)->w.grownBy w' v.ownBlock->wpList P ops Q rest (a.put o.dst K) w'):wpList P ops Q (o::rest) a w:=by
 obtain⟨i,hi,AU,Fq,El⟩:∃i,P.info? t=some i/\i.zero=some (.int .u8 0)/\i.size=1/\i.bytes=1:=by
  cases hq:P.info? t with
  | none=>rw[hq]at I;simp at I
  | some i=>rw[hq]at I;simp at I;exact⟨i,rfl,I.1,I.2.1,I.2.2⟩
 refine Lib.wpList_append_own_string w Z s x U O ho base t i ht hu hi AU Fq El v l.length (Iz.all l) hs AI (bs J) hx (by rw[aW];simp[maxLen];omega) (by rw[aW];omega) G fun K w' h1 h2 _=>h K w' ?_ h2
 unfold zd;rw[pk,Iz.all_append,<-Pe J,<-aW J];exact h1
theorem vR{cap:Nat}{l:List UInt8}(h:zd Iz 5 w base (.slice a n cap) l):(convert 26 9 (.slice a n cap)).run Tryz.prog w=.ok (.string (bs l)) w:=by
 have hl:=h.Ej.hlen;by_cases h0:n=0
 ·subst h0;obtain rfl:=Lj hl;cases a with
  | none =>
    rw[run_convert_bytes_string w 26 9 5 none 0 cap aan aa4 aaq]
    rfl
  | some ad=>exact aci (P:=Tryz.prog) w 26 9 5 ad cap [] aan aa4 aaq (fun j hj=>absurd hj (Nat.not_lt_zero _))
 ·obtain⟨b,off,x,rfl,_⟩:=h.Ej.at (k:=0) e7;obtain⟨b',off',e,hc⟩:=h.Ej.cell 0 e7;simp only[bA,mq,zz]at e;obtain⟨rfl,rfl⟩:=e;rw[<-hl]
  exact aci (P:=Tryz.prog) w 26 9 5 ⟨b,off,none⟩ cap l aan aa4 aaq (fun j hj=>by
   have h1:=hc j _ 0 _ (bk hj) rfl;simp only[Addr.add_lit]
   simpa[Iz]using h1)
theorem dH{b o cap:Nat}{l:List (List UInt8)}(h:BU zH w (some ⟨b,o,none⟩) n cap l){k:Nat}{x:List UInt8}(hk:l[k]?=some x):w.cell? ⟨b,o+k,none⟩=some (.string (bs x)):=by
 have hlt:k<n:=by rw[<-h.hlen];exact(RI.1 hk).1
 obtain⟨b',o',e,hc⟩:=h.cell k hlt;simp only[bA,mq,zz]at e;obtain⟨rfl,rfl⟩:=e
 simpa[zH]using hc k x 0 _ hk rfl
theorem Tryz.infoByte:(Tryz.prog.info? 5).map (fun i=>(i.zero,i.size,i.bytes))=some (some (.int .u8 0),1,1):=by kernel_rfl
theorem Rc{cap:Nat}(h:zd zH 9 w base (.slice a n cap) L)(sep:List UInt8)(hn:n<=1000000)(hlen:(Lib.join L sep).length<=140737488355328):
 Calls Tryz.prog 132 #[.slice a n cap,.string (bs sep)] w fun e w'=>e=.returned (.string (bs (Lib.join L sep)))/\Ext w w':=by
 have hl:L.length=n:=h.Ej.hlen;by_cases h0:n=0
 ·subst h0;obtain rfl:=Lj hl;exact(Any.strings_Join_none sM qq a cap (bs sep) w).mono fun e w' ⟨he,hw⟩=>⟨he,hw▸Ext.refl _⟩
 ·obtain⟨g,rfl,_,_,hg⟩:=h.block (k:=0) e7;have hm:(L.map bs).map (·.data.toList)=L:=by
   rw[abE];exact List.map_id L
  obtain⟨b,off,e,hc⟩:=h.Ej.cell 0 e7;simp only[bA,mq,zz]at e;obtain⟨rfl,rfl⟩:=e
  have H:=Any.strings_Join sM qq g 0 cap (L.map bs) (bs sep) w (fun j x hj=>by
   rw[MD,U']at hj;obtain⟨y,hy,rfl⟩:=hj
   simpa[zH]using hc j y 0 _ hy rfl) hg (by rw[zo];omega) (by rw[zo,hl];exact h.Ej.l8) (by rw[hm];exact hlen)
  rw[zo,hl,hm]at H;exact H
theorem T8{cap:Nat}(h:zd zH 9 w base (.slice a n cap) L)(sep:List UInt8)(hn:n<=1000000)(hlen:(Lib.join L sep).length<=140737488355328):
 Calls Tryz.prog 78 #[.slice a n cap,.string (bs sep)] w fun e w'=>e=.returned (.string (bs (Lib.join L sep)))/\Ext w w':=by
 have H:=ae (Rc h sep hn hlen);clear h hlen;go_enter Tryz.func78,Tryz.ntmps78
 go_wp2_with fail;refine H.o.mono ?_;rintro e w1 ⟨rfl,hx⟩;have X1:=ae hx;clear hx;go_wp2_with fail;go_ret;exact⟨rfl,X1.o⟩
theorem qz{sep:List UInt8}{k:Nat}{x:List UInt8}(hx:L[k]?=some x):Lib.join (L.take (k+1)) sep=(Lib.join (L.take k) sep++if k=0 then [] else sep)++x:=by
 rw[eX hx];by_cases h0:k=0
 ·subst h0;rw[hI rfl];simp[Lib.join_one,Lib.join_nil]
 ·rw[hD h0,xR];intro e;have:=Jr List.length e;have hk:=(RI.1 hx).1;rw[FX,aap]at this;omega
theorem rG(L:List (List UInt8))(sep:List UInt8):∀k,k<=L.length->(Lib.join (L.take k) sep).length<=(Lib.join L sep).length:=by
 intro k hk;obtain⟨d,hd⟩:∃d,k+d=L.length:=⟨L.length-k,by omega⟩
 induction d generalizing k with
 | zero =>
   rw[p4 e7];exact ao _
 | succ d ih =>
   have h1:=ih (k+1) e7 e7;have G:k<L.length:=by omega
   rw[qz (bk G),pk,pk]at h1;omega
theorem TU{cap:Nat}(h:zd zH 9 w base (.slice a n cap) L)(sep:List UInt8)(hn:n<=1000000)(hlen:(Lib.join L sep).length+sep.length<=1099511627776):
 Calls Tryz.prog 53 #[.slice a n cap,.string (bs sep)] w fun e w'=>e=.returned (.string (bs (Lib.join L sep)))/\Ext w w':=by
 have HL:=ae h.Ej.hlen;have YA:=h.Ej.l8;have Iu:=h.Ej.l9;have HS:=ae (fun(w':World) (hx:Ext w w')=>h.Ej.ext hx);have HO:=ae (zd.Az Iz 5 w w.heap.size _ rfl (ao _));have So:=ae (fun(k:Nat) (hk:k<=n)=>(show(Lib.join (L.take k) sep).length+sep.length<=1099511627776 by have:=rG L sep k (by rw[HL.o];exact hk);omega));clear h hlen;go_enter Tryz.func53,Tryz.ntmps53
 go_wp2_with fail
 go_loopg [5,6] n (fun gk oo ii wr=>∃(k m I:Nat) (b:j6),b7 (gk+k=n)/\oo=.slice b m I/\ii=.int .i64 (k:Int)/\b7 (zd Iz 5 wr w.heap.size (.slice b m I) (Lib.join (L.take k) sep))/\b7 (Ext w wr))
 case atStart=>exact⟨0,0,0,_,ae e7,rfl,rfl,HO,ae (Ext.alloc _ _)⟩
 case round =>
  obtain⟨g1,o7⟩:=b9 gk;subst o7;obtain⟨wr,Aw⟩:=b9 wr;subst Aw;obtain⟨k,m,I,b,J,rfl,rfl,HB,HX⟩:=hrel;have YN:(0:Int)<=(k:Int):=by omega
  by_cases hlt:k<n
  ·have CX:(k:Int)<(n:Int):=by omega
   obtain⟨lb,lo,x,rfl,Q,Gc⟩:=(HS.o _ HX.o).at hlt;have KO:=ae (fun(w':World) (hx:Ext w w')=>dH (HS.o _ hx) Q);have HJ:=ae (qz (sep:=sep) Q);have QD:=ae (show(Lib.join (L.take (k+1)) sep).length<=1099511627776 by have:=So.o (k+1) e7;omega);have U:=ae (So.o k e7);clear Gc Q;by_cases h0:k=0
   ·have Fu:¬(0:Int)<(k:Int):=by omega
    have HJ2:=ae (show Lib.join (L.take (k+1)) sep=Lib.join (L.take k) sep++x by rw[HJ.o,hI h0,ZR]);have G:=KO.o _ HX.o;clear h0;go_wp2_with (first|(at_builtin;refine jV Tryz.infoByte aan aaq rfl _ _ rfl w.heap.size (.slice b m I) (Lib.join (L.take k) sep) rfl HB.o x rfl (by have:=QD.o;rw[HJ2.o,pk]at this;exact this) HX.o.size ?_;intro v6 w6 ho hg;obtain⟨O,K,c6,rfl,H'⟩:=ho.var;rw[<-HJ2.o]at ho;have Z:=ae ho;have E8:=ae (ak HX.o hg (fun j hj=>(HB.o.lt j hj).1));clear ho hg))
    go_roundg (g1-1)
    case measure=>have:=J.o;omega
    case rel=>exact⟨k+1,K,c6,O,ae (j1 J.o),rfl,by go_num,Z,E8⟩
   ·have Fu:(0:Int)<(k:Int):=by omega
    have HJ2:=ae (show Lib.join (L.take (k+1)) sep=Lib.join (L.take k) sep++sep++x by rw[HJ.o,hD h0]);clear h0;have G:=KO.o _ HX.o
    go_wp2_with (first
     | (at_builtin;refine jV Tryz.infoByte aan aaq rfl _ _ rfl w.heap.size (.slice b m I) (Lib.join (L.take k) sep) rfl HB.o sep rfl U.o HX.o.size ?_;intro v5 w5 ho hg;obtain⟨a5,n5,c5,rfl,CF⟩:=ho.var;have zW:=ae ho;have D0:=ae (ak HX.o hg (fun j hj=>(HB.o.lt j hj).1));have hcell5:=KO.o _ D0.o;clear G;clear ho hg)
     | (at_builtin;refine jV Tryz.infoByte aan aaq rfl _ _ rfl w.heap.size (.slice a5 n5 c5) (Lib.join (L.take k) sep++sep) rfl zW.o x rfl (by have:=QD.o;rw[HJ2.o,pk]at this;exact this) D0.o.size ?_;intro v6 w6 ho hg;obtain⟨O,K,c6,rfl,H'⟩:=ho.var;rw[<-HJ2.o]at ho;have Z:=ae ho;have E8:=ae (ak D0.o hg (fun j hj=>(zW.o.lt j hj).1));clear ho hg))
    go_roundg (g1-1)
    case measure=>have:=J.o;omega
    case rel=>exact⟨k+1,K,c6,O,ae (j1 J.o),rfl,by go_num,Z,E8⟩
  ·have zQ:k=n:=by have:=J.o;omega
   have HCV:=ae (vR HB.o);have HE:=ae (show L.take k=L from p4 (by rw[HL.o];omega));have CX:¬(k:Int)<(n:Int):=by omega
   have hcv:=HCV.o;clear zQ;go_wp2_with fail;go_ret;exact⟨bM (by rw[HE.o]),HX.o⟩
theorem mu(l:List UInt8):dq l=if(Aa 32 l).length=2/\(Aa 32 l)[0]?.getD []=Ik then(if 0<=aw ((Aa 32 l)[1]?.getD []) 6 then(if 1<=aw ((Aa 32 l)[1]?.getD []) 6/\aw ((Aa 32 l)[1]?.getD []) 6<=5 then some (aw ((Aa 32 l)[1]?.getD []) 6) else none) else none) else none:=by
 rw[<-vZ,rV]
 split
 ·rw[nw]
  split
  ·rfl
  ·rfl
 ·rfl
theorem kU{l:List UInt8}{n:Int}(h:dq l=some n):1<=n/\n<=5:=by
 rw[mu]at h
 split at h
 ·split at h
  ·split at h
   ·next g=>cases h;exact g
   ·cases h
  ·cases h
 ·cases h
theorem QO{g:Nat}{x y:Value}{t:TypeId}(h:w.heap[g]?=some (.cells #[x,y] t (0,0)))(a b:Value):((w.setCell ⟨g,0,none⟩ a).setCell ⟨g,1,none⟩ b).heap[g]?=some (.cells #[a,b] t (0,0)) :=
 jU (y:=y) (by rw[ta w g 0 _ t a h];rfl)
def ow(r:Option Int):Nat:=match r with|none=>0|some n=>cN n.toNat
theorem yP(l:List UInt8)(hl:l.length<=1099511627700):Calls Tryz.prog 37 #[.string (bs l)] w fun e w'=>(∃a m cap,e=.returned (.tuple #[pair ((dq l).getD 0) a m cap,.bool (dq l).isSome])/\o4 w' w.heap.size (.slice a m cap) (List.replicate (ow (dq l)) 0))/\Ext w w':=by
 obtain⟨W,hW⟩:=b9 (w.alloc (.cells #[.int .i64 0,.slice none 0 0] 32));have XW:=ae (show Ext w W by rw[hW];exact Ext.alloc _ _);have Ai:=ae (show W.heap.size=w.heap.size+1 by rw[hW];simp);have HR:=ae (show W.heap[w.heap.size]?=some (.cells #[.int .i64 0,.slice none 0 0] 32 (0,0))by rw[hW];exact ai _ _ _ rfl);have Hj:=ae (jG (w:=W) l 32 hl);have HF:=ae (mu l);obtain⟨R,U⟩:=b9 (dq l);have HB:=ae (show∀n,R=some n->1<=n/\n<=5 by rw[U];exact fun n h=>kU h);rw[<-U]at HF;rw[<-U];clear U;obtain⟨L,hL⟩:=b9 (Aa 32 l);rw[<-hL]at Hj HF;clear hL;have Sz:b7 (R=none->∀w':World,(o4 w' w.heap.size (.slice none 0 0) (List.replicate (ow R) 0))):=ae (fun h w'=>by rw[h];exact o4.nil _ _);go_enter Tryz.func37,Tryz.ntmps37
 go_upto_region 1 with fail;rw[<-hW];clear hW;go_wp2_with fail;refine Hj.o.mono ?_;rintro e w1 ⟨v,rfl,ho,hx⟩;obtain⟨a1,n1,c1,rfl,ED⟩:=ho.var;have CE:=ae ho.Ej;have X1:=ae hx;have OM:=CE.o.l8;have Ou:=CE.o.l9;have Cd:=ae (XW.o.trans hx);obtain⟨K,r1,rf⟩:w1.cell? ⟨w.heap.size,0,none⟩=some (.int .i64 0)/\w1.cell? ⟨w.heap.size,1,none⟩=some (.slice none 0 0)/\(∀j,w1.frozen? ⟨w.heap.size,j,none⟩=false):=by
  have hb:=hx.blk HR.o;exact⟨an hb,al hb,fun j=>sd w1 _ j _ _ hb⟩
 have f0:=rf 0;have f1:=rf 1;clear ho hx rf;by_cases IZ:n1=2
 ·subst IZ;obtain⟨lb,lo,x0,rfl,K8,AB⟩:=CE.o.at (k:=0) e7;obtain⟨lb',lo',x1,e',Zl,Ba⟩:=CE.o.at (k:=1) e7;simp only[bA,mq,zz]at e';obtain⟨rfl,rfl⟩:=e';have O:w1.cell? ⟨lb,lo,none⟩=some (.string (bs x0)):=by simpa[zH]using AB 0 _ rfl
  have q1:w1.cell? ⟨lb,lo+1,none⟩=some (.string (bs x1)):=by simpa[zH]using Ba 0 _ rfl
  have HF1:=ae (show R=if x0=Ik then(if 0<=aw x1 6 then(if 1<=aw x1 6/\aw x1 6<=5 then some (aw x1 6) else none) else none) else none by
   rw[HF.o,K8,Zl,l',l'];by_cases h:x0=Ik
   ·rw[hI ⟨ED.o,h⟩,hI h]
   ·rw[hD (fun g=>h g.2),hD h])
  clear AB Ba K8 Zl;by_cases J:x0=Ik
  ·have UT:((bs x0).toList == [112,108,97,121,101,114,115])=true:=by rw[bW,J];rfl
   have HP:=ae (rH (w:=w1) x1);have Z:=ae (show R=if 0<=aw x1 6 then(if 1<=aw x1 6/\aw x1 6<=5 then some (aw x1 6) else none) else none by rw[HF1.o,hI J]);obtain⟨d,hd⟩:=b9 (aw x1 6);rw[<-hd]at HP Z;obtain⟨t0,Q⟩:=b9 (bs x0);rw[<-Q]at O UT;clear hd J Q;by_cases I:0<=d
   ·rw[hI I,z' I]at HP;by_cases zU:1<=d/\d<=5
    ·have DA:=ae (show R=some d by rw[Z.o,hI I,hI zU]);obtain⟨q,rfl⟩:∃q:Nat,d=q:=⟨d.toNat,by omega⟩;have hb:r9 (q:Int) 1 5=true:=by unfold r9;simp;omega
     have EX:q<=5:=by omega
     have Ll:=ae (fun w'=>kv q EX w');have Ly:=gh (cN q) (j1 (bP q EX));obtain⟨N,hN⟩:=b9 (cN q);have HN:=ae hN;have IK:=ae (show N<=32 by rw[hN];exact(bP q EX).2);rw[<-hN]at Ll Ly;clear hN zU;go_wp2_with fail;refine HP.o.mono ?_;rintro e w2 ⟨rfl,hx⟩;have X2:=ae (Cd.o.trans hx);have G:=ae (hx.blk (X1.o.blk HR.o));have g0:=an G.o;have g1:=al G.o;have Zs:=sd w2 _ 0 _ _ G.o;have Zr:=sd w2 _ 1 _ _ G.o;have Uq:=X2.o.size;have Ah:=mr G.o;clear hx K r1 f0 f1 O q1;go_wp2_with fail;refine(aZ _ _ _ _).mono ?_;rintro e w3 ⟨rfl,rfl⟩;go_wp2_with fail;refine(Ll.o _).mono ?_;rintro e w3 ⟨rfl,rfl⟩;go_wp2_with fail;have z:=(Ext.alloc _ (.cells (be (List.replicate N 0)) 3)).blk (QO G.o (.int .i64 (q:Int)) (.slice (some ⟨w2.heap.size,0,none⟩) N N));refine bR (v:=.tuple #[pair (q:Int) (some ⟨w2.heap.size,0,none⟩) N N,.bool true]) (by simp[results,acd,go_sem,pair,an z,al z]) rfl ⟨⟨_,_,_,by rw[DA.o];rfl,?_⟩,((X2.o.store 0 (ao _) _).store 1 (ao _) _).trans (Ext.alloc _ _)⟩;rw[DA.o,show ow (some (q:Int))=N from HN.o.symm];exact Row.own (ai _ _ _ e8) Uq e8 (j1 IK.o)
    ·have DA:=ae (show R=none by rw[Z.o,hI I,hD zU]);have hb:r9 d 1 5=false:=by unfold r9;rw[Bool.eq_false_iff];intro h;simp at h;omega
     clear zU;go_wp2_with fail;refine HP.o.mono ?_;rintro e w2 ⟨rfl,hx⟩;have X2:=ae (Cd.o.trans hx);have G:=ae (hx.blk (X1.o.blk HR.o));have g0:=an G.o;have g1:=al G.o;have Zs:=sd w2 _ 0 _ _ G.o;have Zr:=sd w2 _ 1 _ _ G.o;have Uq:=X2.o.size;have Ah:=mr G.o;clear hx K r1 f0 f1 O q1;go_wp2_with fail;refine(aZ _ _ _ _).mono ?_;rintro e w3 ⟨rfl,rfl⟩;go_wp2_with fail;refine bR (v:=.tuple #[pair 0 none 0 0,.bool false]) (by simp[results,acd,go_sem,pair,g0,g1]) rfl ⟨⟨none,0,0,by rw[DA.o];rfl,Sz.o DA.o _⟩,(X2.o.store 0 (ao _) _).store 1 (ao _) _⟩
   ·have DA:=ae (show R=none by rw[Z.o,hD I]);rw[hD I,u' I]at HP;go_wp2_with fail;refine HP.o.mono ?_;rintro e w2 ⟨rfl,hx⟩;have X2:=ae (Cd.o.trans hx);have G:=ae (hx.blk (X1.o.blk HR.o));have g0:=an G.o;have g1:=al G.o;have Zs:=sd w2 _ 0 _ _ G.o;have Zr:=sd w2 _ 1 _ _ G.o;have Uq:=X2.o.size;have Ah:=mr G.o;clear hx K r1 f0 f1 O q1;go_wp2_with fail;refine bR (v:=.tuple #[pair 0 none 0 0,.bool false]) (by simp[results,acd,go_sem,pair,g0,g1]) rfl ⟨⟨none,0,0,by rw[DA.o];rfl,Sz.o DA.o _⟩,(X2.o.store 0 (ao _) _).store 1 (ao _) _⟩
  ·have UT:((bs x0).toList == [112,108,97,121,101,114,115])=false:=by rw[bW,abt];exact J
   have DA:=ae (show R=none by rw[HF1.o,hD J]);obtain⟨t0,Q⟩:=b9 (bs x0);rw[<-Q]at O UT;clear J Q;go_wp2_with fail;refine bR (v:=.tuple #[pair 0 none 0 0,.bool false]) (by simp[results,acd,go_sem,pair,K,r1]) rfl ⟨⟨none,0,0,by rw[DA.o];rfl,Sz.o DA.o _⟩,(Cd.o.store 0 (ao _) _).store 1 (ao _) _⟩
 ·have hne:((n1:Int) == 2)=false:=by simp;omega
  have DA:=ae (show R=none by rw[HF.o,hD (fun g=>IZ (by rw[<-ED.o];exact g.1))]);go_wp2_with fail;refine bR (v:=.tuple #[pair 0 none 0 0,.bool false]) (by simp[results,acd,go_sem,pair,K,r1]) rfl ⟨⟨none,0,0,by rw[DA.o];rfl,Sz.o DA.o _⟩,(Cd.o.store 0 (ao _) _).store 1 (ao _) _⟩
