import Derived.Shelf.Strconv.Itoa3
import Derived.Test.YtooiaklfmodcbaaGreatDoorProg
import Derived.WalkKit
import Derived.WalkSpells
import Derived.WalkLawsBesides
import Derived.Lib.Hide
import Derived.Deep.QuietTactic
import Derived.BigQuiet
import Derived.Deep.RegionHeld3
import Derived.Deep.DeepCutAuto
import Derived.Deep.Cut
import Derived.Outline
import Derived.Laws.IdiomStrings
import Derived.Lib.AppendIntMem
import Derived.Lib.ItoaLen
import Derived.Deep.RegionLaw
import Derived.Deep.RegionWith
set_option linter.all false
set_option maxHeartbeats 6000000
set_option maxRecDepth 100000
namespace Go.Proofs.YtooiaklfmodcbaaGreatDoor
open Ending renaming returned->ar
open List renaming length->JL
open Obj renaming cells->QD
open Value renaming slice->GI,bool->bl,string->aE,pointer->aP
open Go.Proofs.Tryz Go.RowKit Go.Shelf
variable{σ:Prop}
abbrev arQ:=Value
abbrev J:=World
section
abbrev Fn:=@bodyPost_ret
abbrev Id:=@List.getElem?_eq_getElem
abbrev i8:=@Nat.le_refl
abbrev GE:=@heap_setCell_other
abbrev bq:=@Option.some.injEq
abbrev f7:=@if_neg
abbrev mn:=@IntKind.wrap_i64
abbrev f9:=@if_pos
abbrev Nm:=@Option.getD_some
abbrev bR:=@List.take_of_length_le
abbrev nE:=@wp_region_held_drew
abbrev H4:=@Addr.mk.injEq
abbrev Ok:=@decide_eq_false
abbrev SW:=@List.length_append
abbrev In:=@lt_of_block
abbrev cE:=@heap_setCell_same
abbrev ef:=@decide_eq_true_eq
abbrev UV:=@decide_eq_true
abbrev Pi:=@wpAnyH_done
abbrev eN:=@List.getElem_mem
abbrev eI:=@Bool.and_eq_true
abbrev dc:=@List.length_map
abbrev b7:=@Nat.le_succ
abbrev gg:=@Int.toNat_natCast
abbrev If:=@congrArg
abbrev E5:=@and_true
abbrev aR:=@cell_of_row
abbrev tv:=@List.getElem?_append_left
abbrev xl:=@List.take_succ_eq_append_getElem
abbrev nP:=@Value.slice.injEq
abbrev gy:=@List.all_eq_true
abbrev k6:=@List.length_take
abbrev fy:=@Nat.le_trans
abbrev k7:=@List.length_set
abbrev sq:=@List.getElem?_set_ne
abbrev mo:=@frozen_of_row
abbrev q8:=@List.getElem?_eq_none
abbrev vY:=@List.getElem?_set_self
abbrev gi:=@Nat.zero_le
abbrev mr:=@Option.bind_some
abbrev hI:=@Nat.zero_add
abbrev nR:=@List.length_cons
abbrev yf:=@List.append_assoc
abbrev QX:=@List.eq_nil_of_length_eq_zero
abbrev uf:=@of_decide_eq_true
abbrev tu:=@Option.some.inj
abbrev tn:=@List.all_append
abbrev sr:=@List.map_append
abbrev rN:=@List.range_succ
abbrev vM:=@List.getElem?_map
abbrev G6:=@List.length_replicate
abbrev sj:=@List.mem_range
abbrev vC:=@heap_alloc_new
abbrev hJ:=@And.intro
abbrev O2:=@List.getElem?_eq_some_iff
abbrev yy:=@Bool.eq_iff_iff
abbrev Wo:=@List.getElem?_concat_length
abbrev yl:=@Option.map_some
abbrev O4:=@World.block_lt_of_cell?
abbrev wb:=@Prod.mk.injEq
abbrev wZ:=@Nat.le_of_eq
abbrev Sl:=@List.getElem?_append_right
abbrev Ry:=@Tryz.underlying22
abbrev y6:=@Bool.true_and
abbrev Sc:=@Option.map_eq_some_iff
abbrev C3:=@List.append_nil
abbrev SB:=@List.getElem?_cons_succ
abbrev Lr:=@List.length_drop
abbrev O6:=@World.size_alloc
abbrev nF:=@decide_eq_false_iff_not
abbrev EE:=@Nat.mul_le_mul
abbrev Pw:=@Nat.lt_of_lt_of_le
abbrev Pb:=@List.length_nil
abbrev RU:=@List.mem_of_getElem?
abbrev XK:=@Option.getD_none
abbrev C':=@List.mem_map
abbrev QU:=@Tryz.underlying9
abbrev eo:=@List.replicate_succ'
abbrev CI:=@below_drewN
abbrev Se:=@List.mem_singleton
abbrev Qu:=@List.nil_append
abbrev TA:=@List.getElem?_range
abbrev XT:=@List.getElem?_cons_zero
abbrev Tp:=@List.findIdx?_eq_some_iff_getElem
abbrev Yv:=@Lib.itoa_length_le
abbrev RB:=@Rat.intCast_mul
abbrev bB:=@List.getElem?_take_of_lt
abbrev TO:=@List.flatMap_cons
abbrev Lo:=@cell_of_one
abbrev yx:=@Ne.symm
abbrev XD:=@List.getElem?_take
abbrev Yk:=@World.ownsRow.stored
abbrev TC:=@List.ext_getElem
abbrev W6:=@List.map_congr_left
abbrev TW:=@Tryz.underlying49
abbrev ct:=@List.set_append_right
abbrev xi:=@results26
abbrev xt:=@Or.inl
abbrev XJ:=@List.getElem?_drop
abbrev xy:=@List.not_any_eq_all_not
abbrev Wu:=@List.not_mem_nil
abbrev V6:=@List.cons_append
abbrev V3:=@Tryz.underlying5
abbrev cr:=@Int.tdiv_eq_ediv_of_nonneg
abbrev SU:=@List.mem_cons
abbrev WD:=@World.ownsRow_nil
abbrev Wn:=@List.mem_append
abbrev RQ:=@List.drop_eq_getElem_cons
abbrev tq:=@Bool.and_eq_false_iff
abbrev G2:=@List.length_singleton
abbrev Q4:=@UInt8.toNat_ofNat'
abbrev dr:=@List.filter_append
abbrev Wt:=@results_none
abbrev B1:=@List.mem_cons_of_mem
abbrev Tl:=@List.getElem?_replicate
abbrev mx:=@Int.tmod_eq_emod_of_nonneg
abbrev cT:=@List.take_length
abbrev o2:=@List.mem_cons_self
abbrev Y5:=@List.take_take
abbrev WR:=@Int.natAbs_mul
abbrev NP:=@Array.getElem?_toList
abbrev Xb:=@Classical.byContradiction
abbrev Uc:=@List.map_map
abbrev Yj:=@Int.mul_tdiv_cancel_left
abbrev TM:=@Int.tdiv_neg
abbrev wA:=@World.ownsRow_lit
abbrev WW:=@AllReadyH.nil
abbrev T8:=@Rat.mul_le_mul_of_nonneg_left
abbrev OL:=@List.getElem_mapIdx
abbrev i':=@List.any_eq_true
abbrev cy:=@Bool.false_and
abbrev lx:=@List.getElem_map
abbrev rb:=@Tryz.underlying3
abbrev nS:=@Tryz.underlying4
abbrev MY:=@List.set_cons_zero
abbrev LX:=@Int.neg_tdiv
abbrev Y':=@Nat.sub_self
abbrev S9:=@List.drop_length_add_append
abbrev YT:=@wpAnyH_ready
abbrev W5:=@List.length_filter_le
abbrev Pl:=@if_true
abbrev ub:=@Nat.min_eq_left
abbrev nr:=@Int.mul_ne_zero
abbrev Zw:=@IntKind.wrap_u8
abbrev al:=@results194
abbrev jc:=@results103
abbrev vT:=@results200
abbrev Hu:=@Int.eq_of_mul_eq_mul_right
abbrev PZ:=@List.all_eq_false
abbrev Tz:=@List.ext_getElem?
abbrev Py:=@List.mem_take_iff_getElem
abbrev nv:=@List.findIdx?_eq_none_iff
abbrev Yi:=@List.mem_iff_getElem
abbrev B3:=@Int.mul_nonneg
abbrev YY:=@results10
abbrev N8:=@Bool.not_eq_true
abbrev V':=@List.toList_toArray
abbrev Ww:=@Nat.Coprime.dvd_of_dvd_mul_left
abbrev bk:=@Option.isSome_some
abbrev M1:=@Tryz.zeroValue3
abbrev R3:=@Tryz.zeroValue4
abbrev S5:=@Tryz.zeroValue5
abbrev QK:=@Tryz.zeroValue9
abbrev O3:=@Lib.itoa_nonneg
abbrev WX:=@Rat.intCast_le_intCast
abbrev Wr:=@List.foldl_append
abbrev gr:=@Bool.not_eq_true'
abbrev Wg:=@Bool.eq_false_iff
abbrev V2:=@Tryz.underlying29
abbrev YN:=@Tryz.underlying32
abbrev Zf:=@Tryz.underlying65
abbrev TF:=@List.dropLast_concat_getLast
abbrev Gv:=@List.take_append_drop
abbrev V4:=@Lib.run_eql_slice_nil
abbrev OX:=@results62
abbrev O5:=@results46
abbrev aB:=@results28
abbrev T4:=@BitVec.ofInt_natCast
abbrev Yf:=@Nat.mod_eq_of_lt
abbrev W7:=@Nat.pow_le_pow_right
abbrev bz:=@Below.refl
abbrev YB:=@World.ownsRow.lt
abbrev Ti:=@List.map_cons
abbrev nx:=@beq_eq_false_iff_ne
abbrev nm:=@List.take_set_of_le
abbrev TY:=@Array.length_toList
abbrev Zm:=@UInt8.toNat_inj
abbrev Rk:=@Array.getElem?_eq_getElem
abbrev Ws:=@Or.inr
abbrev YM:=@BitVec.toNat_ofNat
abbrev E3:=@Option.isNone_some
abbrev RF:=@Nat.add_zero
abbrev Sy:=@Nat.lt_or_ge
abbrev QO:=@Nat.succ_mul
abbrev PI:=@Option.isSome_none
abbrev TQ:=@List.map_singleton
abbrev RL:=@Tryz.sizeOf3
abbrev T6:=@Tryz.sizeOf4
abbrev NB:=@Tryz.sizeOf5
abbrev TD:=@Tryz.sizeOf9
abbrev L2:=@Tryz.underlying165
abbrev Ps:=@Tryz.underlying216
abbrev VP:=@bodyPost_end
abbrev xv:=@beq_iff_eq
abbrev OC:=@results61
abbrev Wa:=@results18
abbrev JI:=@List.flatten_cons
abbrev Rc:=@List.length_range
abbrev Wk:=@Tryz.zeroValue165
abbrev Xa:=@Tryz.zeroValue216
abbrev E1:=@List.drop_eq_nil_of_le
abbrev Qj:=@Tryz.isAgg3
abbrev QC:=@Tryz.isAgg4
abbrev TB:=@Tryz.isAgg5
abbrev Mv:=@Tryz.isAgg9
abbrev Qm:=@run_convert_bytes_back
abbrev Zd:=@List.all_cons
abbrev aF:=@true_and
abbrev Tu:=@List.getElem_set
abbrev NA:=@Tryz.underlying0
abbrev B':=@List.countP_le_length
abbrev NY:=@List.eq_replicate_iff
abbrev L1:=@List.mem_filter
abbrev UP:=@Int.natCast_mul
abbrev X0:=@Nat.mul_comm
abbrev Q7:=@Int.natAbs_tmod
abbrev TG:=@Int.mul_comm
abbrev Em:=@Tryz.zeroValue0
abbrev WM:=@Region.noSelect_spec
abbrev Rj:=@results276
abbrev Pt:=@results254
abbrev ts:=@results128
abbrev aA:=@results105
abbrev zo:=@List.flatMap_append
abbrev Sr:=@List.getElem_of_mem
abbrev Zj:=@List.replicate_succ
abbrev Ty:=@Tryz.sizeOf165
abbrev y3:=@Tryz.sizeOf216
abbrev YU:=@run_underlying
abbrev P5:=@results44
abbrev Ru:=@Nat.lt_of_le_of_lt
abbrev Wb:=@List.find?_eq_none
abbrev tz:=@of_decide_eq_false
abbrev N4:=@List.getElem_range
abbrev cC:=@List.length_mapIdx
abbrev IC:=@List.sum_singleton
abbrev QQ:=@Bool.false_eq_true
abbrev Pm:=@List.all_replicate
abbrev Ua:=@World.grownBy.refl
abbrev Iy:=@Tryz.isAgg165
abbrev Ld:=@Tryz.isAgg216
abbrev aC:=@Nat.or_lt_two_pow
abbrev Yg:=@List.take_add_one
abbrev nB:=@Tryz.underlying20
abbrev X':=@info_parts
abbrev cB:=@List.filter_cons
abbrev R':=@Bool.not_not
abbrev QA:=@Nat.add_comm
abbrev Zg:=@List.mem_flatMap
abbrev VC:=@Int.lt_or_le
abbrev Oi:=@or_false
abbrev QV:=@List.all_nil
abbrev Q2:=@Tryz.sizeOf0
abbrev RS:=@Tryz.zeroValue20
abbrev Lb:=@Tryz.zeroValue49
abbrev Sq:=@wpList_plain
abbrev Jw:=@Region.free_spec
abbrev RN:=@List.foldl_cons
abbrev Uj:=@Int.natAbs_tdiv
abbrev Yr:=@Nat.div_le_self
abbrev gx:=@List.sum_append
abbrev Y1:=@Obj.cells.injEq
abbrev wa:=@results138
abbrev Ih:=@results112
abbrev FX:=@results207
abbrev hZ:=@results316
abbrev KA:=@results305
abbrev Te:=@results328
abbrev Hg:=@results324
abbrev TV:=@results260
abbrev Rt:=@results165
abbrev Wv:=@results104
abbrev Lp:=@Prod.mk.inj
abbrev Qn:=@Tryz.isAgg0
abbrev NN:=@Below.trans
abbrev L0:=@free_of_one
abbrev Yp:=@results96
abbrev Tj:=@results27
abbrev td:=@results29
abbrev UF:=@results30
abbrev yv:=@results43
abbrev OW:=@results60
abbrev nA:=@results12
abbrev RY:=@results19
abbrev XP:=@if_false
abbrev W0:=@Below.size
abbrev Zr:=@Bool.and_comm
abbrev Oz:=@List.map_take
abbrev Y9:=@Bool.and_true
abbrev P0:=@Tryz.sizeOf20
abbrev P2:=@Tryz.sizeOf49
abbrev W1:=@Below.setCell
abbrev Sv:=@eq_of_beq
def wq(x y:Int)(h:IntKind.i64.wrap x=y:=by rw[mn];omega):IntKind.i64.wrap x=y:=h
def dk(x:Int)(h:IntKind.i64.wrap x=x:=by rw[mn];omega):IntKind.i64.wrap x=x:=h
def Rd(k n:Nat)(h:k<n:=by omega):(k:Int)<(n:Int):=Int.ofNat_lt.2 h
def ST(k:Nat):(0:Int)<=(k:Int):=Int.natCast_nonneg k
abbrev EQ(b n c:Nat):arQ:=.slice (some ⟨b,0,none⟩) n c
instance:Coe J Nat:=⟨λw=>w.heap.size⟩
abbrev d6:arQ:=.slice none 0 0
abbrev O(b o:Nat):Addr:=⟨b,o,none⟩
abbrev U(x:Int):arQ:=.int .i64 x
def m9(h:σ:=by simp;omega):σ:=h
def Fd(h:σ:=by decide):σ:=h
def ri(h:σ:=by simpa using h):σ:=h
def Sk(h:σ:=by rw[h.len];omega):σ:=h
def YZ(h:σ:=by simp[maxLen];omega):σ:=h
def YE(h:σ:=by simpa using hl):σ:=h
def Yu(h:σ:=by simpa using hb):σ:=h
def OK(h:σ:=by rw[h.len];exact hl):σ:=h
def R0(h:σ:=by rw[HN.o];exact hlt):σ:=h
def WC(h:σ:=by unfold A4;simp;omega):σ:=h
def NL{P Q:Prop}(q:Q)(h:Q->P:=by intro q;go_roundg (g1-1);exact q;have:=HM.o;omega):P:=h q
def kf{P Q:Prop}(q:Q)(h:Q->P:=by intro q;go_roundg (g1-1);exact q;have:=HK.o;omega):P:=h q
abbrev o4:=Int×Int
abbrev o3:=List Int
abbrev l9:=Option Addr
abbrev l8:=List (List Int)
abbrev l7:=List (Int×Int)
abbrev k9:=List (Int×Int×Int)
def k8{Q P:Prop}(q:Q)(h:Q->P:=by intro this;omega):P:=h q
def j9(h:σ:=by rfl):σ:=h
def j8(h:σ:=by kernel_rfl):σ:=h
def j7(h:σ:=by simp):σ:=h
def j0(h:σ:=by omega):σ:=h
def e9{α:Sort _}(a:α):∃x,x=a:=⟨a,rfl⟩
def b9(p:Prop):Prop:=p
def cP{P:Program}{f:FuncId}{a:Array arQ}{w:J}{Q:Ending->J->Prop}{v:arQ}(h:Calls P f a w λe w'=>e=.returned v/\w=w')(k:Q (.returned v) w):Calls P f a w Q:=h.mono (λe w' ⟨y,z⟩=>z▸y▸k)
def E9{P:Program}{f:FuncId}{a:Array arQ}{w:J}{Q:Ending->J->Prop}{V:Type}{v:V->arQ}{E R:V->J->Prop}(h:Calls P f a w λe w'=>∃x,e=.returned (v x)/\E x w'/\R x w')(k:∀w' x,E x w'->R x w'->Q (.returned (v x)) w'):Calls P f a w Q:=h.mono (λe w' ⟨x,y,z,r⟩=>y▸k w' x z r)
def IR{P:Program}{f:FuncId}{a:Array arQ}{w:J}{Q:Ending->J->Prop}{v:arQ}{R:J->Prop}(h:Calls P f a w λe w'=>e=.returned v/\R w')(k:∀w',R w'->Q (.returned v) w'):Calls P f a w Q:=h.mono (λe w' ⟨y,r⟩=>y▸k w' r)
def GT{α:Sort _}(a:α):∃x,b9 (x=a):=⟨a,rfl⟩
def t8{G E A2 P:Prop}(a0:G)(Z:E)(H:A2)(h:b9 G->b9 E->b9 A2->P):P:=h a0 Z H
def b9.o{p:Prop}(h:b9 p):p:=h
def b9.out{p:Prop}(h:b9 p):p:=h
variable{P:J->Prop}{k b base n i:Nat}{a:l9}{w w':J}{v:arQ}{l:o3}{t:TypeId}{α:Type}{fid:FuncId}{ca:Array arQ}
def I{P:Prop}(h:P):b9 P:=h
def wQ:Go.Shelf.Ren:=⟨fun|171=>216|243=>284|246=>320|283=>335|284=>336|285=>337|286=>338|129=>351|317=>352|318=>353|319=>354|320=>355|337=>361|338=>362|n=>n,fun|3=>3|9=>9|2=>2|4=>4|171=>259|0=>0|53=>221|37=>49|5=>5|173=>261|212=>272|51=>216|20=>20|213=>273|46=>165|232=>283|233=>284|n=>n,fun|17=>3|18=>4|19=>5|n=>n⟩
def wP:Go.Proofs.LaysM.n171 prog wQ:={
 mixed:=by kernel_rfl
 f129:=func351.trans (If some j8)
 f171:=func216.trans (If some j8)
 f243:=func284.trans (If some j8)
 f246:=func320.trans (If some j8)
 f283:=func335.trans (If some j8)
 f284:=func336.trans (If some j8)
 f285:=func337.trans (If some j8)
 f286:=func338.trans (If some j8)
 f317:=func352.trans (If some j8)
 f318:=func353.trans (If some j8)
 f319:=func354.trans (If some j8)
 f320:=func355.trans (If some j8)
 f337:=func361.trans (If some j8)
 f338:=func362.trans (If some j8)
 t0:=NA
 a0:=Qn
 z0:=Q2
 v0:=Em
 t2:=Tryz.underlying2
 a2:=Tryz.isAgg2
 z2:=Tryz.sizeOf2
 v2:=Tryz.zeroValue2
 t3:=rb
 a3:=Qj
 z3:=RL
 v3:=M1
 t4:=nS
 a4:=QC
 z4:=T6
 v4:=R3
 t5:=V3
 a5:=TB
 z5:=NB
 v5:=S5
 t9:=QU
 a9:=Mv
 z9:=TD
 v9:=QK
 t20:=nB
 a20:=Tryz.isAgg20
 z20:=P0
 v20:=RS
 t37:=TW
 a37:=Tryz.isAgg49
 z37:=P2
 v37:=Lb
 t46:=L2
 a46:=Iy
 z46:=Ty
 v46:=Wk
 t51:=Ps
 a51:=Ld
 z51:=y3
 v51:=Xa
 t53:=Tryz.underlying221
 a53:=Tryz.isAgg221
 z53:=Tryz.sizeOf221
 v53:=Tryz.zeroValue221
 t171:=Tryz.underlying259
 a171:=Tryz.isAgg259
 z171:=Tryz.sizeOf259
 v171:=Tryz.zeroValue259
 t173:=Tryz.underlying261
 a173:=Tryz.isAgg261
 z173:=Tryz.sizeOf261
 v173:=Tryz.zeroValue261
 t212:=Tryz.underlying272
 a212:=Tryz.isAgg272
 z212:=Tryz.sizeOf272
 v212:=Tryz.zeroValue272
 t213:=Tryz.underlying273
 a213:=Tryz.isAgg273
 z213:=Tryz.sizeOf273
 t232:=Tryz.underlying283
 a232:=Tryz.isAgg283
 z232:=Tryz.sizeOf283
 v232:=Tryz.zeroValue283
 t233:=Tryz.underlying284
 a233:=Tryz.isAgg284
 z233:=Tryz.sizeOf284
 v233:=Tryz.zeroValue284
 g17:=by kernel_rfl
 g18:=by kernel_rfl
 g19:=by kernel_rfl
 i0:=by kernel_rfl
 i2:=by kernel_rfl
 i3:=by kernel_rfl
 i4:=by kernel_rfl
 i5:=by kernel_rfl
 i9:=by kernel_rfl
 i20:=by kernel_rfl
 i37:=by kernel_rfl
 i46:=by kernel_rfl
 i51:=by kernel_rfl
 i53:=by kernel_rfl
 i171:=by kernel_rfl
 i173:=by kernel_rfl
 i212:=by kernel_rfl
 i232:=by kernel_rfl
 i233:=by kernel_rfl
 m17:=by kernel_rfl
 m18:=by kernel_rfl
 m19:=by kernel_rfl }
def au{k:IntKind}{a b:Int}(h:a=b):ar (.int k a)=ar (.int k b):=by rw[h]
def ag{a b:Bool}(h:a=b):ar (bl a)=ar (bl b):=by rw[h]
abbrev C7(w w':J):Prop:=Below w.heap.size w w'
abbrev f8(f:FuncId)(a:Array arQ)(w:J)(v:arQ):Prop:=Calls prog f a w λe w'=>e=ar v/\C7 w w'
def C7.refl(w:J):C7 w w:=bz _ _
def WF{w:J}:C7 w w:=C7.refl w
def C7.trans{a b c:J}(h:C7 a b)(k:C7 b c):C7 a c:=NN h (Below.mono k h.size)
def C7.alloc(w:J)(o:Obj):C7 w (w.alloc o):=(bz _ _).alloc (i8 _) o
def WU{w:J}{o:Obj}:C7 w (w.alloc o):=C7.alloc w o
def C7.Qj{a b c:J}(h:C7 a b)(k:Below a b c):C7 a c:=NN h k
def C7.cells(h:C7 w w'):∀b o,b<w.heap.size->w'.cell? (O b o)=w.cell? (O b o):=λb o k=>h.cell (p:=(O b o)) k
def C7.DY(h:C7 w w'):∀b o,b<w.heap.size->w'.frozen? (O b o)=w.frozen? (O b o):=λb o k=>h.frozen (p:=(O b o)) k
def C7.o6(h:C7 w w'){a:Addr}(k:w.cell? a=some v):w'.cell? a=some v :=
 (h.cell (O4 w a k)).trans k
def On(base:Nat)(w:J)(P:J->Prop):Prop:=∀w2:J,(∀k,base<=k->k<w.heap.size->w2.heap[k]?=w.heap[k]?)->P w2
def On.here(h:On base w P):P w:=h w λ_ _ _=>rfl
def On.keep(h:On base w P)(hs:w.heap.size<=w'.heap.size)(H:∀k,base<=k->k<w.heap.size->w'.heap[k]?=w.heap[k]?):On base w' P :=
 λG h2=>h G λk E Z=>(h2 k E j0).trans (H k E Z)
def On.ext(h:On base w P)(hx:C7 w w'):On base w' P:=h.keep hx.size λk _ E=>hx.block k E
def On.set(h:On base w P){a:Addr}(ha:a.block<base)(v:arQ):On base (w.setCell a v) P :=
 h.keep j7 λk hk _=>GE w a k v j0
def On.mono{base':Nat}(h:On base w P)(hb:base'<=base):On base' w P:=λE H=>h E λk h1 G=>H k j0 G
structure d9(w:J)(a:l9)(n cap:Nat)(l:o3):Prop where
 hlen:l.length=n
 r8:n<=cap
 r9:cap<=9223372036854775807
 cell:∀k,k<n->∃b off,a=some (O b off)/\∀k,k<n->w.cell? (O b (off+k))=some (U (l[k]?.getD 0))
def d9.aq9{w:J}{a:l9}{n cap:Nat}{l:o3}(h:d9 w a n cap l):n<=cap/\cap<=9223372036854775807:=⟨h.r8,h.r9⟩
def d9.ext{cap:Nat}(h:d9 w a n cap l)(hx:C7 w w'):d9 w' a n cap l :=
 ⟨h.hlen,h.r8,h.r9,λk E=>let⟨b,off,e,hc⟩:=h.cell k E;⟨b,off,e,λk E=>hx.o6 (hc k E)⟩⟩
def d9.at{cap:Nat}(h:d9 w a n cap l)(E:k<n):
 ∃b off,a=some (O b off)/\w.cell? (O b (off+k))=some (U (l[k]?.getD 0)) :=
 let⟨b,off,e,hc⟩:=h.cell k E;⟨b,off,e,hc k E⟩
def d9.drewN{cap:Nat}(h:d9 w a n cap l)(m:Nat):d9 (w.drewN m) a n cap l:=h.ext (CI (C7.refl w) m)
def d9.alloc{cap:Nat}(h:d9 w a n cap l)(o:Obj):d9 (w.alloc o) a n cap l:=h.ext (C7.alloc w o)
abbrev E7(w w':J):Prop:=∃m,w'=w.drewN m
def E7.refl(w:J):E7 w w:=⟨0,rfl⟩
def E7.trans{a b c:J}(h:E7 a b)(k:E7 b c):E7 a c:=by
 obtain⟨m,rfl⟩:=h;obtain⟨n,rfl⟩:=k;exact⟨m+n,World.drewN_drewN _ _ _⟩
def E7.ext(h:E7 w w'):C7 w w':=by obtain⟨m,rfl⟩:=h;exact CI (C7.refl w) m
def C7.drew(w:J):C7 w w.drew:=CI (C7.refl w) 1
def cn{w:J}:C7 w w.drew:=C7.drew w
def be{P:Program}{f:FuncId}{args:Array arQ}
 (h:Calls P f args (w.drewN n) λe w'=>e=ar v/\w.drewN n=w'):Calls P f args (w.drewN n) λe E=>e=ar v/\∃m,E=w.drewN m :=
 h.mono λ_ _ ⟨G,hm⟩=>⟨G,n,hm.symm⟩
def bH(l:o3):Array arQ:=(l.map (Value.int .i64)).toArray
def yU(l:o3)(k:Nat)(h:k<JL l):(bH l)[k]?=some (U (l[k]?.getD 0)):=by simp[bH,h]
def wM(l:o3)(k:Nat)(x:Int):(bH l).setIfInBounds k (U x)=bH (l.set k x):=by simp[bH]
def nM(w:J)(b:Nat)(t:TypeId)(l:o3):Prop:=w.heap[b]?=some (QD (bH l) t (0,0))
def nM.cell(h:nM w b t l)(E:k<JL l):w.cell? (O b k)=some (U (l[k]?.getD 0)):=by
 rw[aR w b k _ t _ h,yU l k E]
def nM.free(h:nM w b t l)(k:Nat):w.frozen? (O b k)=false:=mo w b k _ t h
def nM.lt(h:nM w b t l):b<w.heap.size:=In h
def nM.set(h:nM w b t l)(k:Nat)(x:Int):nM (w.setCell (O b k) (U x)) b t (l.set k x):=by
 have:=cE w b k _ t (U x) h;rw[wM]at this;exact this
def nM.ext(h:nM w b t l)(hx:C7 w w'):nM w' b t l:=(hx.block b h.lt).trans h
def nM.ints(h:nM w b t l){cap:Nat}(E:JL l=n)(hc:n<=cap)(hm:cap<=9223372036854775807):d9 w (some (O b 0)) n cap l :=
 ⟨E,hc,hm,λ_ _=>⟨b,0,rfl,λk hk=>by rw[hI];exact h.cell j0⟩⟩
def nM.other(h:nM w b t l){a:Addr}(E:b≠a.block)(v:arQ):nM (w.setCell a v) b t l :=
 (GE w a b v E).trans h
def Si(w:J)(b:Nat)(t:TypeId)(vs:List arQ):Prop:=w.heap[b]?=some (QD vs.toArray t (0,0))
def ai(w:J)(o:Obj)(n:Nat)(h:n=w.heap.size):(w.alloc o).heap[n]?=some o:=by rw[h];exact vC w o
def IO{w:J}{o:Obj}{n:Nat}(h:n=w.heap.size):(w.alloc o).heap[n]?=some o:=ai w o n h
def aZ(w:J)(o:Obj)(n:Nat)(h:n<w.heap.size):(w.alloc o).heap[n]?=w.heap[n]?:=by rw[World.alloc,Array.getElem?_push,f7 j0]
def cW(h:k<JL l):l.take (k+1)=l.take k++[l[k]?.getD 0]:=by
 rw[xl h];simp[h]
def OE(l:o3):Int:=l.foldl (λa x=>wrap64 (a+x)) 0
def uW(l:o3)(x:Int):OE (l++[x])=wrap64 (OE l+x):=by simp[OE]
def A4(n lo hi:Int):Bool:=decide (lo<=n)&&decide (n<=hi)
def gA{E:List α}:E.toArray[i]?=E[i]?:=List.getElem?_toArray
def gB{a:α}{l:List α}:(a::l)[i+1]?=l[i]?:=SB
def gC{a:α}{l:List α}:(a::l)[0]?=some a:=XT
def sA{E:List α}{a:α}:E.toArray.setIfInBounds i a=(E.set i a).toArray:=List.setIfInBounds_toArray E i a
def sB{x:α}{E:List α}{a:α}:(x::E).set 0 a=a::E:=MY
def sC{x:α}{E:List α}{a:α}:(x::E).set (i+1) a=x::E.set i a:=List.set_cons_succ
section
variable{P:Program}{md:Region.Mode}{ops:Array Oper}{Q:Exit->Act->J->Prop}{S:J->Prop}{fuel:Nat}{listed:Array Bool}{a:Act}{w:J}
def tk(i:Nat){oi:Oper}{v:arQ}{G:Array Bool}{H:Act}(h:wpAnyH P md ops Q S fuel G H w)(hi:ops[i]?=some oi:=by simp only[gA,gB,gC];rfl)(hs:Region.noSelect ops=true:=by kernel_rfl)
 (hf:Region.free md ops listed i=true:=by kernel_rfl) (hr:(Region.ready md ops listed).contains i=true:=by kernel_rfl) (hQ:∀c a w,Q (.panic c) (a.put oi.dst v) w->Q (.panic c) a w:=by exact λ_ _ _ h=>h)
 (Z:YieldsIf P ops S oi v a:=by first|(refine xt ⟨by rfl,?_⟩;intro w E;(try dsimp only at E);go_simp;(try with_reducible rfl))|exact Ws ⟨by rfl,rfl⟩) (hS:S w:=by assumption)
 (hl:listed.setIfInBounds i true=G:=by(try simp only[sA,sB,sC]);rfl) (ha:a.put oi.dst v=H:=by(try simp only[Act.put,sA,sB,sC]);rfl):wpAnyH P md ops Q S (fuel+1) listed a w:=by subst hl ha;exact wpAnyH_take hi hs hf hr hQ Z hS h
def sk(i:Nat){oi:Oper}{E:Array Bool}{G:Act}(h:wpAnyH P md ops Q S fuel E G w)(hi:ops[i]?=some oi:=by simp only[gA,gB,gC];rfl)(hs:Region.noSelect ops=true:=by kernel_rfl)
 (hf:Region.free md ops listed i=true:=by kernel_rfl) (hr:(Region.ready md ops listed).contains i=true:=by kernel_rfl) (hQ:∀c a w,Q (.panic c) (a.put oi.dst undef) w->Q (.panic c) a w:=by exact λ_ _ _ h=>h)
 (H:YieldsIf P ops S oi undef a:=by exact Ws ⟨by rfl,rfl⟩) (hS:S w:=by assumption)
 (Z:listed.setIfInBounds i true=E:=by(try simp only[sA,sB,sC]);rfl) (ha:a.put oi.dst undef=G:=by(try simp only[Act.put,sA,sB,sC]);rfl):wpAnyH P md ops Q S (fuel+1) listed a w:=by subst Z ha;exact wpAnyH_take hi hs hf hr hQ H hS h
def rd(i:Nat){o:Oper}(h:∀K':Act->J->Prop,Shut (∀a w,S w->(S w->wpAnyH P md ops Q S fuel (listed.setIfInBounds i true) a w)->K' a w)->if Region.wanted o (yielded ops a.tmps)=true then Oper.wp P o a w K' Q else K' (a.put o.dst undef) w)
 (hr:Region.ready md ops listed=[i]:=by kernel_rfl) (ho:ops[i]?=some o:=by simp only[gA,gB,gC];rfl) :
 wpAnyH P md ops Q S (fuel+1) listed a w:=YT hr j7 (AllReadyH.cons ho h WW)
def Rg{i:Nat}{o:Oper}{rs:List Nat}(h:∀K':Act->J->Prop,Shut (∀a w,S w->(S w->wpAnyH P md ops Q S fuel (listed.setIfInBounds i true) a w)->K' a w)->if Region.wanted o (yielded ops a.tmps)=true then Oper.wp P o a w K' Q else K' (a.put o.dst undef) w)
 (hs:AllReadyH P md ops Q S fuel listed a w rs) (ho:ops[i]?=some o:=by simp only[gA,gB,gC];rfl):AllReadyH P md ops Q S fuel listed a w (i::rs):=AllReadyH.cons ho h hs
end
abbrev an:=@And.intro
def KO{P Q S:Prop}(s:b9 S)(k:b9 Q)(h:b9 S->b9 Q->P:=by intro s k;refine hK.out _ _ s.out (λx=>?_);(try simp only[Act.put,sA,sB,sC]);exact k.out x):P:=h s k
def KL{P Q S:Prop}(s:b9 S)(k:b9 Q)(h:b9 S->b9 Q->P:=by intro s k;refine hK.out _ _ (λ_=>s.out) ?_;(try simp only[Act.put,sA,sB,sC]);exact k.out s.out):P:=h s k
def Zk(h:σ:=by
 go_in
 go_wp2
 all_goals go_ret;refine⟨?_,rfl⟩;simp[A4, *]
 intro h;omega
 ):σ:=h
def av(n lo hi:Int)(w:J):
 Calls prog 82 #[U n,U lo,U hi] w λe w'=>e=ar (bl (A4 n lo hi))/\w=w':=by
 exact Zk
def pk{n lo hi:Int}{w:J}:
 Calls prog 82 #[U n,U lo,U hi] w λe w'=>e=ar (bl (A4 n lo hi))/\w=w':=av n lo hi w
def bj(n lo hi:Int)(w:J):
 Calls prog 32 #[U n,U lo,U hi] w λe w'=>e=ar (bl (A4 n lo hi))/\w=w':=by
 exact Zk
def ta{n lo hi:Int}{w:J}:
 Calls prog 32 #[U n,U lo,U hi] w λe w'=>e=ar (bl (A4 n lo hi))/\w=w':=bj n lo hi w
def sw(h:σ:=by
 simp[intOf];omega
 ):σ:=h
def PS(h:σ:=by
 exact⟨0,gi _,rfl,rfl⟩
 ):σ:=h
def Un(h:σ:=by
 exact⟨k+1,by omega,by go_num,by rw[cW (k8 h.hlen),uW]⟩
 ):σ:=h
def zz{cap:Nat}(h:d9 w a n cap l):
 Calls prog 296 #[GI a n cap] w λe w'=>e=ar (U (OE l))/\w=w':=by
 have⟨hn,hm⟩:=h.aq9;go_in
 go_wp2
 go_loop [3,8] (λs i=>∃k:Nat,k<=n/\i=U k/\s=U (OE (l.take k))) (λ_ i=>n-(intOf i).toNat)
 ·exact PS
 obtain⟨k,hk,rfl,rfl⟩:=hrel;by_cases E:k<n
 ·obtain⟨b,off,rfl,hc⟩:=h.at E;go_wp2
  all_goals
   go_round
   case rel=>exact Un
   exact sw
 go_wp2;go_ret;exact⟨au (by rw[bR (k8 h.hlen)]),rfl⟩
def xQ{cap:Nat}(h:d9 w a n cap l):
 Calls prog 241 #[GI a n cap] w λe w'=>e=ar (U (OE l))/\w=w':=by
 have⟨hn,hm⟩:=h.aq9;go_in
 go_wp2
 go_loop [3,4] (λs i=>∃k:Nat,k<=n/\i=U k/\s=U (OE (l.take k))) (λ_ i=>n-(intOf i).toNat)
 ·exact PS
 obtain⟨k,hk,rfl,rfl⟩:=hrel;by_cases E:k<n
 ·obtain⟨b,off,rfl,hc⟩:=h.at E;go_wp2
  all_goals
   go_round
   case rel=>exact Un
   exact sw
 go_wp2;go_ret;exact⟨au (by rw[bR (k8 h.hlen)]),rfl⟩
def gw(l:o3)(most:Int):Bool:=l.all (A4 · 0 most)&&A4 (JL l) 1 5
def sJ{p:Int->Bool}(h:l.all p=true)(E:k<JL l):p (l[k]?.getD 0)=true:=by
 have:=gy.1 h (l[k]) (eN E);simpa[E]using this
def Lu(h:σ:=by
 exact⟨k+1,by omega,by go_num,by rw[cW (k8 HL.o),tn,HA.o];simpa using HB.o⟩
 ):σ:=h
def mO{cap:Nat}(most:Int)(h:d9 w a n cap l):
 Calls prog 239 #[GI a n cap,U most] w λe w'=>e=ar (bl (gw l most))/\w=w':=by
 have⟨hn,hm⟩:=h.aq9;go_in
 go_wp2
 go_loop [5] (λi=>∃k:Nat,k<=n/\i=U k/\(l.take k).all (A4 · 0 most)=true) (λi=>n-(intOf i).toNat)
 ·exact PS
 obtain⟨k,hk,rfl,G⟩:=hrel;have HA:=I G;clear G;by_cases E:k<n
 ·obtain⟨b,off,rfl,hc⟩:=h.at E;have HL:=I h.hlen;by_cases hb:A4 (l[k]?.getD 0) 0 most=true
  ·have HB:=I hb;go_wp2_with (go_at_call 32;refine cP ta ?_)
   go_round
   case rel=>exact Lu
   exact sw
  have HB:=I hb;simp only[N8]at hb;go_wp2_with (go_at_call 32;refine cP ta ?_);go_ret;refine⟨ag ?_,rfl⟩
  symm;unfold gw;cases hx:l.all (A4 · 0 most)
  ·rfl
  exact absurd (sJ hx (k8 HL.o)) HB.o
 have HL:=I h.hlen;go_wp2_with (go_at_call 32;refine cP ta ?_);go_ret;refine⟨ag ?_,rfl⟩;have:=HA.o;have H:=HL.o;rw[bR j0]at this;simp only[gw,this,y6];rw[H]
def M8(P:Program)(w:J)(fid:FuncId)(ca:Array arQ)(p:Int->Bool):Prop :=
 ∀x (w1:J),C7 w w1->Calls P fid (#[U x]++ca) w1 λe w2=>e=ar (bl (p x))/\C7 w1 w2
def M8.ext{P:Program}{p:Int->Bool}(h:M8 P w fid ca p)(hx:C7 w w'):M8 P w' fid ca p :=
 λx E k=>h x E (hx.trans k)
def NE(P:Program)(fid:FuncId):Prop:=∀(args:Array arQ) (w:J),(callFunc fid args).run P w=.ok (.enter fid args) w
def cR {P: Program}{fid: FuncId}{fn: Func}(h : P.funcs[fid]? = some fn)(hn : (fn.name == "runtime.NumGoroutine") = false)(hb : fn.body.isNone = false) : NE P fid := by
 intro args w;have hn' : fn.name ≠ "runtime.NumGoroutine" := by simpa using hn
 simp[callFunc,h,hn'];intro hx;rw[hx]at hb;cases hb
def dg{α:Type}(p:α->Bool)(l:List α):Int:=match l.findIdx? p with|some i=>(i:Int)|none=>-1
def fJ{p:α->Bool}{l:List α}{d:α}(E:k<JL l)(H:(l.take k).all (λx=>!p x)=true)(G:p (l[k]?.getD d)=true):dg p l=k:=by
 have:l.findIdx? p=some k:=by
  rw[Tp];refine⟨E,by simpa[E]using G,λj hj=>?_⟩;have:=gy.1 H (l[j]) (by rw[Py];exact⟨j,by omega,rfl⟩)
  simpa using this
 simp[dg,this]
def eD{p:α->Bool}{l:List α}(E:l.all (λx=>!p x)=true):dg p l=-1:=by
 have:l.findIdx? p=none:=by
  rw[nv];intro x hx;have:=gy.1 E x hx
  simpa using this
 simp[dg,this]
def iG(p:α->Bool)(l:List α):decide (0<=dg p l)=l.any p:=by
 by_cases h:l.any p=true
 ·rw[h];unfold dg;cases G:l.findIdx? p with
  | some i=>simp
  | none =>
    rw[nv]at G;have⟨x,hx,E⟩:=i'.1 h;rw[G x hx]at E;cases E
 rw[eD ri];simp only[N8]at h;rw[h];rfl
def Uk(h:σ:=by
 have HB:=I hb;go_wp2_with fail;refine HF.mono ?_;rintro e w2 ⟨rfl,C4⟩;go_wp2;go_ret;exact⟨au (fJ (k8 HL.o) HA.o HB).symm,hx.trans (by assumption)⟩
 ):σ:=h
def WJ(h:σ:=by
 have HL:=I h.hlen;go_wp2;go_ret;refine⟨au ?_,hx⟩;have:=HA.o;rw[bR (k8 HL.o)]at this;exact(eD this).symm
 ):σ:=h
def lO{cap:Nat}{p:Int->Bool}(h:d9 w a n cap l)(hg:NE prog fid)(H:M8 prog w fid ca p):
 f8 228 #[GI a n cap,.func (.func fid) #[] ca] w (U (dg p l)):=by
 have⟨hn,hm⟩:=h.aq9;have Tr:∀(args:Array arQ) (w:J),(callFunc fid args).run prog w=.ok (.enter fid args) w:=hg;unfold f8;go_in
 go_wp2
 go_loopw [8] (λi wr=>∃k:Nat,k<=n/\i=U k/\(l.take k).all (λx=>!p x)=true/\C7 w wr) (λi _=>n-(intOf i).toNat)
 ·exact⟨0,gi _,rfl,rfl,WF⟩
 obtain⟨k,hk,rfl,G,hx⟩:=hrel;have HA:=I G;clear G;by_cases E:k<n
 ·have Z:=h.ext hx;obtain⟨b,off,rfl,hc⟩:=Z.at E;have HL:=I h.hlen;have HF:=I (H (l[k]?.getD 0) wr hx);by_cases hb:p (l[k]?.getD 0)=true
  ·exact Uk
  have HB:=I hb;simp only[N8]at hb;go_wp2_with fail;refine IR HF λw2 C4=>?_;go_wp2
  go_roundw
  case rel=>exact⟨k+1,by omega,by go_num,by rw[cW (k8 HL.o),tn,HA.o];simpa using HB.o,hx.trans (by assumption)⟩
  exact sw
 exact WJ
def YQ(h:σ:=by
 (try unfold f8);go_in
 go_wp2_with fail;refine HC.mono ?_;rintro e w2 ⟨rfl,C4⟩;go_wp2
 all_goals go_ret;refine⟨ag ?_,C4⟩;rw[<-iG]
 ):σ:=h
def dH{cap:Nat}{p:Int->Bool}(h:d9 w a n cap l)(hg:NE prog fid)(E:M8 prog w fid ca p):
 f8 156 #[GI a n cap,.func (.func fid) #[] ca] w (bl (l.any p)):=by
 have HC:=I (lO h hg E);exact YQ
end
section
variable{w:J}{a:l9}{n:Nat}{l:o3}
def Tryz.Sv:(prog.info? 3).map (λi=>(i.zero,i.size,i.bytes))=some (some (U 0),1,8):=by kernel_rfl
def kj(n:Nat)(hn:n<=1099511627776)(w:J):
 (Instr.makeSlice 29 (U n) (U n)).run prog w=.ok (EQ w n n) (w.alloc (QD (bH (List.replicate n 0)) 3)):=by
 have⟨i,hi,H,E,G⟩:=X' Tryz.Sv;have hr:=run_make (P:=prog) w 29 3 i (U 0) V2 hi H .i64 .i64 n n j0 (Int.le_refl _) (by rw[G];omega) j0;simp only[gg]at hr;rw[hr,E];have:madeCells (Value.int .i64 0).cells (n*1)=bH (List.replicate n 0):=by
  apply Array.toList_inj.1;show(madeCells #[Value.int .i64 0] (n*1)).toList=_;rw[toList_madeCells_one];simp[bH]
 rw[this]
abbrev FS(x:Int)(a:l9)(n cap:Nat):arQ:=.agg #[.int .i64 x,GI a n cap]
def aV(lo x:Int)(l:o3):Bool:=gw l 100&&A4 x lo (OE l)
def jC(l:o3)(most:Int):gw l most=(!(l.any (λx=>!A4 x 0 most))&&A4 (JL l) 1 5):=by
 unfold gw;congr 1;rw[xy];simp
def M2(s:Int)(k:Nat):Bool:=decide (s/2^k % 2=1)
def Gd(s k:Int):Bool:=decide (0<=s)&&(A4 k 0 4&&M2 s k.toNat)
def EH(n:Int):Int:=if A4 n 0 5 then 2^n.toNat else 0
def TE(a b:Nat)(ha:a<9223372036854775808)(hb:b<9223372036854775808):bits .and .i64 (a:Int) (b:Int)=((a &&& b:Nat):Int):=by
 have hx:a &&& b<2^63:=Nat.and_lt_two_pow _ j0;have G:(BitVec.ofInt 64 (a:Int)).toNat=a:=by rw[T4,YM];exact Yf j0
 have E:(BitVec.ofInt 64 (b:Int)).toNat=b:=by rw[T4,YM];exact Yf j0
 show IntKind.i64.wrap ((BitVec.ofInt 64 (a:Int) &&& BitVec.ofInt 64 (b:Int)).toNat:Int)=_;rw[BitVec.toNat_and,G,E,mn];omega
def S2(a b:Nat)(ha:a<9223372036854775808)(hb:b<9223372036854775808):bits .or .i64 (a:Int) (b:Int)=((a ||| b:Nat):Int):=by
 have hx:a ||| b<2^63:=aC j0 j0
 have G:(BitVec.ofInt 64 (a:Int)).toNat=a:=by rw[T4,YM];exact Yf j0
 have E:(BitVec.ofInt 64 (b:Int)).toNat=b:=by rw[T4,YM];exact Yf j0
 show IntKind.i64.wrap ((BitVec.ofInt 64 (a:Int) ||| BitVec.ofInt 64 (b:Int)).toNat:Int)=_;rw[BitVec.toNat_or,G,E,mn];omega
def sL(x:Int)(h:0<=x)(h':x<=9223372036854775807):bits BinOp.and IntKind.i64 x 1=x % 2:=by
 obtain⟨n,rfl⟩:∃n:Nat,x=n:=⟨x.toNat,by omega⟩;have:=TE n 1 j0 j0;rw[Nat.and_one_is_mod]at this;have E:((n % 2:Nat):Int)=(n:Int) % 2:=j0;exact this.trans E
def fg(k:Nat):(1:Int)<=2^k:=by
 have:(0:Int)<2^k:=Int.pow_pos Fd;omega
def gj(k:Nat)(h:k<=5):(2:Int)^k<=32:=by
 have:k=0∨k=1∨k=2∨k=3∨k=4∨k=5:=j0;rcases this with rfl|rfl|rfl|rfl|rfl|rfl<;>decide
def oJ(s:Int)(k:Nat)(h:0<=s):0<=s/2^k/\s/2^k<=s:=by
 have:=fg k;exact⟨Int.ediv_nonneg h j0,Int.ediv_le_self _ h⟩
def lW(s:Int)(k:Nat)(h:0<=s)(h':s<=9223372036854775807):(bits BinOp.and IntKind.i64 (s/2^k) 1 == 1)=M2 s k:=by
 have:=oJ s k h;rw[sL _ this.1 j0];unfold M2;rw[yy];simp
def qJ(k:Nat)(h:k<=5):wrap64 ((2:Int)^k)=2^k:=by
 have:=fg k;have:=gj k h;unfold wrap64;omega
def gZ(s k:Int)(w:J)(G:s<=9223372036854775807):
 Calls prog 202 #[U s,U k] w λe w'=>e=ar (bl (Gd s k))/\w=w':=by
 by_cases hs:0<=s
 ·cases E:A4 k 0 4
  ·go_in
   go_wp2_with (go_at_call 82;refine cP pk ?_);go_ret;exact⟨ag (by unfold Gd;rw[E];simp),rfl⟩
  obtain⟨n,rfl⟩:∃n:Nat,k=n:=⟨k.toNat,by unfold A4 at E;simp at E;omega⟩;have hn:n<=4:=by unfold A4 at E;simp at E;omega
  have hb:=lW s n hs G;go_in
  go_wp2_with (go_at_call 82;refine cP pk ?_);go_ret;exact⟨ag (by unfold Gd;rw[E];simp[hs]),rfl⟩
 go_in
 go_wp2;go_ret;exact⟨ag (by unfold Gd;rw[Ok j0];rfl),rfl⟩
def et(n:Int)(w:J):Calls prog 83 #[U n] w λe w'=>e=ar (U (EH n))/\w=w':=by
 cases E:A4 n 0 5
 ·go_in
  go_wp2_with (go_at_call 82;refine cP pk ?_);go_ret;exact⟨au (by unfold EH;rw[E];rfl),rfl⟩
 obtain⟨k,rfl⟩:∃k:Nat,n=k:=⟨n.toNat,by unfold A4 at E;simp at E;omega⟩;have G:k<=5:=by unfold A4 at E;simp at E;omega
 have hw:=qJ k G;go_in
 go_wp2_with (go_at_call 82;refine cP pk ?_);go_ret;exact⟨au (by unfold EH;rw[E];simpa using qJ k G),rfl⟩
def dj(n:Int)(w:J):Calls prog 33 #[U n] w λe w'=>e=ar (U (EH n))/\w=w':=by
 cases E:A4 n 0 5
 ·go_in
  go_wp2_with (go_at_call 32;refine cP ta ?_);go_ret;exact⟨au (by unfold EH;rw[E];rfl),rfl⟩
 obtain⟨m,rfl⟩:∃k:Nat,n=k:=⟨n.toNat,by unfold A4 at E;simp at E;omega⟩;have hn:m<=5:=by unfold A4 at E;simp at E;omega
 go_in
 go_wp2_with (go_at_call 32;refine cP ta ?_)
 go_loop [3,4] (λs i=>∃(k:Nat) (z:Int),k<=m/\i=U k/\s=U z/\0<=z/\z<=32/\b9 (z=2^k)) (λ_ i=>m-(intOf i).toNat)
 ·exact⟨0,1,gi _,rfl,rfl,by omega,by omega,I j7⟩
 obtain⟨k,z,Iq,rfl,rfl,F8,Li,H⟩:=hrel;by_cases hlt:k<m
 ·go_wp2
  go_round
  case rel =>
   refine⟨k+1,z*2,by omega,by go_num,rfl,by omega,?_,I (by rw[H.o,Int.pow_succ])⟩;have:=gj (k+1) j0;rw[Int.pow_succ,<-H.o]at this;exact this
  exact sw
 go_wp2;go_ret;have G:k=m:=j0;subst G;exact⟨au (by unfold EH;rw[E];simpa using H.o),rfl⟩
def vL(k:Int)(h:A4 k 0 4=true):EH k=2^k.toNat:=by
 unfold EH;rw[f9];unfold A4 at *;simp at *;omega
def tL(n:Int)(w:J):Calls prog 102 #[U n] w λe w'=>e=ar (U (EH n))/\w=w':=by
 go_in
 go_wp2_with (go_at_call 33;refine cP (dj _ _) ?_);go_ret;exact⟨rfl,rfl⟩
def bE(s k:Int)(w:J)(h':s<=9223372036854775807):
 Calls prog 99 #[U s,U k] w λe w'=>e=ar (bl (Gd s k))/\w=w':=by
 cases E:A4 k 0 4
 ·go_in
  go_wp2_with (go_at_call 32;refine cP ta ?_);go_ret;exact⟨ag (by unfold Gd;rw[E];simp),rfl⟩
 by_cases hs:0<=s
 ·obtain⟨n,rfl⟩:∃n:Nat,k=n:=⟨k.toNat,by unfold A4 at E;simp at E;omega⟩;have hn:n<=4:=by unfold A4 at E;simp at E;omega
  have hc:EH (n:Int)=2^n:=by rw[vL _ E];simp
  have hp:=fg n;have G:=oJ s n hs;have PH:=G.1;have hne:((2:Int)^n == 0)=false:=m9;have H:=I (show(s/2^n % 2 == 1)=M2 s n by unfold M2;rw[yy];simp);have HD:=I G;clear G;go_in
  go_wp2_with (first|(go_at_call 32;refine cP ta ?_)|(go_at_call 102;refine cP (tL _ _) ?_));go_ret;exact⟨ag (by rw[H.o];unfold Gd;rw[E];simp[hs]),rfl⟩
 go_in
 go_wp2_with (go_at_call 32;refine cP ta ?_);go_ret;exact⟨ag (by unfold Gd;rw[Ok j0];rfl),rfl⟩
def D3(b:Bool):Int:=if b then 1 else 0
def fH(b:Bool)(w:J):Calls prog 170 #[bl b] w λe w'=>e=ar (U (D3 b))/\w=w':=by
 cases b
 all_goals
  go_in
  go_wp2;go_ret;exact⟨rfl,rfl⟩
def ee(s:Int)(l:o3):Nat->Int
 | 0=>0
 | k+1=>if M2 s k then wrap64 (ee s l k+l[k]?.getD 0) else ee s l k
def dE(s:Int)(k:Nat)(h:0<=s)(hk:k<=4):Gd s (k:Int)=M2 s k:=by
 unfold Gd A4;rw[UV h,UV j0,UV j0];simp
def kb(h:σ:=by
 exact⟨k+1,by omega,by go_num,by simp only[ee,HB.o];rfl⟩
 ):σ:=h
def ul{cap:Nat}(s:Int)(h:d9 w a n cap l)(Z:0<=s)(H:s<=9223372036854775807)(h5:n<=60):
 Calls prog 234 #[GI a n cap,U s] w λe w'=>e=ar (U (ee s l n))/\w=w':=by
 have⟨hn,hm⟩:=h.aq9;go_in
 go_wp2
 go_loop [5,10] (λt i=>∃k:Nat,k<=n/\i=U k/\t=U (ee s l k)) (λ_ i=>n-(intOf i).toNat)
 ·exact PS
 obtain⟨k,hk,rfl,rfl⟩:=hrel;by_cases G:k<n
 ·obtain⟨b,off,rfl,hc⟩:=h.at G;have hb:=lW s k Z H;cases E:M2 s k
  all_goals
   rw[E]at hb;have HB:=I E;clear E;go_wp2
   go_round
   case rel=>exact kb
   exact sw
 go_wp2;go_ret;have DV:k=n:=j0;subst DV;exact⟨rfl,rfl⟩
def cN(n:Nat):Nat:=2^n
def nw(n:Nat):(cN n:Int)=2^n:=by unfold cN;simp
def bp(n:Nat)(h:n<=5):1<=cN n/\cN n<=32:=by
 have G:=fg n;have E:=gj n h;rw[<-nw]at G E;omega
def dP(n:Nat)(h:n<=5):EH (n:Int)=(cN n:Int):=by
 unfold EH;rw[f9 WC,nw];simp
def xE(n:Nat)(h:n<=5)(w:J):Calls prog 33 #[U n] w λe w'=>e=ar (U (cN n:Int))/\w=w':=by
 have:=dj n w
 rwa [dP n h]at this
def wo(n:Nat)(h:n<=5)(w:J):Calls prog 83 #[U n] w λe w'=>e=ar (U (cN n:Int))/\w=w':=by
 have:=et n w
 rwa [dP n h]at this
def bs(l:List UInt8):ByteArray:=⟨l.toArray⟩
def ch(l E:List UInt8):bs l++bs E=bs (l++E):=by
 unfold bs;apply ByteArray.ext;simp
def aY(l:List UInt8):(bs l).size=JL l:=by
 show(l.toArray).size=_;simp
def Hj(m:Nat):List UInt8:=if m=0 then [] else Lib.decDigits m
def kS{m:Nat}(h:m≠0):Hj m=Hj (m/10)++[UInt8.ofNat (48+m % 10)]:=by
 unfold Hj;rw[f7 h,Lib.decDigits];split
 ·rename_i E;rw[f9 j0,Yf E];rfl
 rw[f7 j0]
def ec{w':J}{name:String}{k:IntKind}{zs:o3}(h:Lib.TabIs prog w name k zs)(hx:C7 w w'):Lib.TabIs prog w' name k zs:=Lib.tabBelow_of_tabIs h w' hx
def Pc(h:σ:=by
 have⟨W,hW⟩:=e9 (Sort.grow (w.drewN k) os);rw[<-hW]at HX;rw[<-hW];clear hW;go_wp2;go_ret;exact⟨rfl,HX⟩
 ):σ:=h
def yP {w: J}(n : Nat)(hn : n <= 1000000)(ht : Lib.TabIs prog w "internal/strconv.uint64pow10" .u64 Lib.pow10Tab) :
 f8 147 #[U n] w (aE (bs (Lib.decDigits n))):=by
 have HC:=I (Any.strconv_Itoa wP (n:Int) j0 j0 w ht);unfold f8;go_in
 go_wp2_with fail;refine HC.mono ?_;rintro e w' ⟨rfl,k,os,rfl⟩;have HX:b9 (C7 w _):=Lib.below_grow _ w (i8 _) k os;rw[O3];exact Pc
def cj{a b:ByteArray}(h:a=b):ar (aE a)=ar (aE b):=by rw[h]
def iQ(x:UInt8){y:Int}(E:(x.toNat:Int)=y):(convert 49 9 (EQ w 1 1)).run prog (w.alloc (QD #[.int .u8 y] 5))=.ok (aE (bs [x])) (w.alloc (QD #[.int .u8 y] 5)):=by
 subst E;exact Qm (P:=prog) (w.alloc (QD #[.int .u8 (x.toNat:Int)] 5)) 49 9 5 (O w 0) 1 [x] TW V3 QU (λj G=>by
  obtain rfl:j=0:=by simp at G;omega
  simp[Addr.add])
def KM(h:σ:=by
 have Q0:IntKind.u8.wrap (48+(d:Int))=48+(d:Int):=by rw[Zw];omega
 have GD:IntKind.i64.wrap (48+(d:Int))=48+(d:Int):=by rw[mn];omega
 have hwq:IntKind.i64.wrap (q:Int)=(q:Int):=by rw[mn];omega
 have hcv:=iQ (w:=wr) x (y:=48+(d:Int)) (by rw[hx,Q4];omega);have PG:¬9223372036854775807<(bs [x]).size+(bs l).size:=by rw[aY,aY];simp;omega
 have HA:=I (ch [x] l);clear hd hq hx;clear NF;go_wp2_with fail;rw[HA.o];refine NL ?_;exact⟨q,[x]++l,I (k8 HM.o),rfl,rfl,I (by rw[<-yf,<-HS.o];exact Rq),I (HX.trans WU),I j0⟩
 ):σ:=h
def R5(h:σ:=by
 subst h0;have HZ:=I (show bs (Lib.decDigits 0)={ data:=#[48] } by rw[Lib.decDigits_one j0];rfl);(try unfold f8);go_in
 go_wp2;go_ret;exact⟨cj HZ.symm,WF⟩
 ):σ:=h
def T5(h:σ:=by
 exact⟨n,[],I (i8 _),rfl,rfl,HD,I WF,I hn⟩
 ):σ:=h
def Ly(h:σ:=by
 subst NF;have HF:=I (show bs l=bs (Lib.decDigits n)by rw[<-Rq.o];rfl);go_wp2;go_ret;exact⟨cj HF.o,HX⟩
 ):σ:=h
def zd(n:Nat)(hn:n<=1000000):
 f8 88 #[U n] w (aE (bs (Lib.decDigits n))):=by
 by_cases h0:n=0
 ·exact R5
 have hz:((n:Int) == 0)=false:=m9;have adx:¬(n:Int)<0:=j0;have hlen:JL (Lib.decDigits n)<=21:=by
  have:=Yv (n:Int) j0 j0
  rwa [O3]at this
 have HL:=I hlen;have HD:=I (show Hj n++[]=Lib.decDigits n by unfold Hj;rw[f7 h0,C3]);clear hlen;unfold f8;go_in
 go_wp2
 go_loopg [0,4] n (λgk H G wr=>∃(m:Nat) (l:List UInt8),b9 (m<=gk)/\H=U m/\G=aE (bs l)/\b9 (Hj m++l=Lib.decDigits n)/\b9 (C7 w wr)/\b9 (m<=1000000))
 ·exact T5
 rename Nat=>g1;rename J=>wr;obtain⟨m,l,HM,rfl,rfl,Rq,HX,E⟩:=hrel;by_cases NF:m=0
 ·exact Ly
 have Q8:((m:Int) != 0)=true:=m9;have hm6:m<=1000000:=E.o;have PC:Int.tmod (m:Int) 10=((m % 10:Nat):Int):=by rw[mx j0];omega
 have hdiv:Int.tdiv (m:Int) 10=((m/10:Nat):Int):=by rw[cr j0];omega
 have⟨d,hd⟩:=e9 (m % 10);have⟨q,hq⟩:=e9 (m/10);rw[<-hd]at PC;rw[<-hq]at hdiv;have adO:d<10:=j0;have⟨x,hx⟩:=e9 (UInt8.ofNat (48+d));have HS:=I (show Hj m=Hj q++[x]by rw[hx,hd,hq];exact kS NF);have hqm:q<m:=j0;have PD:JL l<=21:=by
  have Z:=HL.o;rw[<-Rq.o,SW]at Z;omega
 have hdn:¬(d:Int)<0:=j0;exact KM
def Sa(h:σ:=by
 have hq:=λm=>be (mO 100 (h1.drewN m))
 cases hs:gw l 100
 all_goals
  have HS:=I hs;rw[hs]at hq;have HQ:=I hq;clear hq hs;(try unfold f8);go_in
  go_wp2
  go_quiet ((first|(go_at_call 239;exact HQ.o _)|(go_at_call 241;exact be (xQ (h1.drewN _)))|(go_at_call 32;exact be ta)))
  go_wp2;go_ret;refine⟨ag ?_,CI WU _⟩;simp only[aV,HS.o,y6,cy]
 ):σ:=h
def sl{x:Int}{cap:Nat}(h:d9 w a n cap l):
 f8 171 #[FS x a n cap] w (bl (aV 1 x l)):=by
 have h1:=h.alloc (QD #[U x,GI a n cap] 97);exact Sa
def pf:NE prog 297:=cR func297 j8 j8
def V1(h:σ:=by
 go_in
 go_wp2_with (go_at_call 82;refine pk.mono ?_;rintro e w' ⟨rfl,rfl⟩);go_ret;exact⟨rfl,rfl⟩
 ):σ:=h
def qi(x:Int)(w:J):Calls prog 297 #[U x] w λe w'=>e=ar (bl (!A4 x 0 100))/\w=w':=by
 exact V1
def nk(w:J):M8 prog w 297 #[] (λx=>!A4 x 0 100) :=
 λx E _=>(qi x E).mono λe w' ⟨G,hw⟩=>⟨G,hw▸WF⟩
def dy(h:σ:=by
 have HC:=I (dH h1 qq0 (qq1 _));have HL:=I h.hlen;cases D7:A4 n 1 5
 ·have HI:=I D7;(try unfold f8);go_in
  go_wp2_with (go_at_call 82;refine pk.mono ?_;rintro e w' ⟨rfl,rfl⟩);go_ret;refine⟨ag ?_,HX⟩;simp only[aV,gw,HL.o,HI.o,Bool.and_false,cy]
 ·have HI:=I D7;cases hany:l.any (λx=>!A4 x 0 100)
  all_goals
   have HA:=I hany;rw[hany]at HC;clear hany;(try unfold f8);go_in
   go_wp2_with (go_at_call 82;refine pk.mono ?_;rintro e w' ⟨rfl,rfl⟩)
  ·refine HC.mono ?_;rintro e w1 ⟨rfl,hx⟩;have hcs:=hx.cells;have A0:=I (HX.trans hx);have h2:=h1.ext hx;clear hx;go_wp2
   go_quiet ((first|(go_at_call 296;exact be (zz (h2.drewN _)))|(go_at_call 82;exact be pk)))
   go_wp2;go_ret;refine⟨ag ?_,CI A0.o _⟩;simp only[aV,jC,HL.o,HI.o,HA.o,Bool.not_false,y6]
  refine HC.mono ?_;rintro e w1 ⟨rfl,hx⟩;have A0:=I (HX.trans hx);clear hx;go_wp2;go_ret;refine⟨ag ?_,A0⟩;simp only[aV,jC,HA.o,Bool.not_true,cy]
 ):σ:=h
def rx{x:Int}{cap:Nat}(h:d9 w a n cap l):
 f8 235 #[FS x a n cap] w (bl (aV 1 x l)):=by
 have h1:=h.alloc (QD #[U x,GI a n cap] 97);have HX:=I (C7.alloc w (QD #[U x,GI a n cap] 97));have qq0:=@pf;have qq1:=@nk;exact dy
end
section
variable{w w':J}{a:l9}{n k base base':Nat}{l:o3}{L:l8}{fid:FuncId}{K:Act->J->Prop}{Q:Exit->Act->J->Prop}{v:arQ}{vs:List arQ}
def lB(q:Int)(l:o3)(s:Int):Bool:=decide (q<=ee s l (JL l))
def To{q:Int}{cap:Nat}(s:Int)(h:d9 w a n cap l)(H:0<=s)(G:s<=9223372036854775807)(E:n<=60):
 f8 237 #[FS q a n cap,U s] w (bl (lB q l s)):=by
 have hi:=h.alloc (QD #[U q,GI a n cap] 97);have Z:=I h.hlen;unfold f8;go_in
 go_wp2
 go_quiet ((go_at_call 234;exact be (ul s (hi.drewN _) H G E)))
 go_wp2;go_ret;exact⟨ag (by unfold lB;rw[Z.o]),CI WU _⟩
def Dt{q:Int}{cap:Nat}(s:Int)(h:d9 w a n cap l)(h0:0<=s)(Z:s<=9223372036854775807)(h5:n<=5):
 f8 172 #[FS q a n cap,U s] w (bl (lB q l s)):=by
 have hi:=h.alloc (QD #[U q,GI a n cap] 97);have HL:=I h.hlen;unfold f8;go_in
 go_wp2
 go_loop [5,6] (λt i=>∃k:Nat,k<=n/\i=U k/\t=U (ee s l k)) (λ_ i=>n-(intOf i).toNat)
 ·exact PS
 obtain⟨k,hk,rfl,rfl⟩:=hrel;by_cases G:k<n
 ·obtain⟨b,off,rfl,hc⟩:=hi.at G;have H:=dE s k h0 j0;cases E:M2 s k
  all_goals
   rw[E]at H;have HB:=I E;clear E;go_wp2_with (go_at_call 99;refine cP (bE _ _ _ Z) ?_)
   go_round
   case rel=>exact kb
   exact sw
 go_wp2;go_ret;have DV:k=n:=j0;subst DV;exact⟨ag (by unfold lB;rw[HL.o]),WU⟩
def it{lo x:Int}(h:aV lo x l=true):1<=JL l/\JL l<=5:=by
 unfold aV gw A4 at h;simp only[eI,ef]at h;omega
structure dB(w:J)(a:l9)(n cap:Nat)(L:l8):Prop where
 hlen:L.length=n
 r8:n<=cap
 r9:cap<=9223372036854775807
 cell:∀k,k<n->∃b off,a=some (O b off)/\∀k,k<n->∃a' n' c',w.cell? (O b (off+k))=some (GI a' n' c')/\d9 w a' n' c' (L[k]?.getD [])
def dB.aq9{w:J}{a:l9}{n cap:Nat}{L:l8}(h:dB w a n cap L):n<=cap/\cap<=9223372036854775807:=⟨h.r8,h.r9⟩
def dB.ext{cap:Nat}(h:dB w a n cap L)(hx:C7 w w'):dB w' a n cap L :=
 ⟨h.hlen,h.r8,h.r9,λk E=>let⟨b,off,e,hc⟩:=h.cell k E;⟨b,off,e,λk E=>let⟨a',G,c',Z,H⟩:=hc k E;⟨a',G,c',hx.o6 Z,H.ext hx⟩⟩⟩
def dB.at{cap:Nat}(h:dB w a n cap L)(Z:k<n):
 ∃b off H E G,a=some (O b off)/\w.cell? (O b (off+k))=some (GI H E G)/\d9 w H E G (L[k]?.getD []) :=
 let⟨b,off,e,hc⟩:=h.cell k Z;let⟨H,E,G,h1,h2⟩:=hc k Z;⟨b,off,H,E,G,e,h1,h2⟩
def dB.alloc{cap:Nat}(h:dB w a n cap L)(o:Obj):dB (w.alloc o) a n cap L:=h.ext (C7.alloc w o)
def fw{α:Type}{L:List (List α)}(h:k<JL L):L.take (k+1)=L.take k++[L[k]?.getD []]:=by
 rw[xl h];simp[h]
def Tryz.VP:(prog.info? 29).map (λi=>(i.zero,i.size,i.bytes))=some (some d6,1,24):=by kernel_rfl
def Xp(w:J)(B:Nat)(vs:List arQ)(L:l8)(k:Nat):Prop :=
 ∀j,j<k->∃b m,vs[j]?=some (EQ b m m)/\B<b/\JL (L[j]?.getD [])=m/\nM w b 3 (L[j]?.getD [])
def ey(P:Program)(w:J)(fid:FuncId)(ca:Array arQ)(p:o3->Bool):Prop :=
 ∀(l:o3) (a:l9) (n c:Nat) (w1:J),C7 w w1->d9 w1 a n c l->Calls P fid (#[GI a n c]++ca) w1 λe w2=>e=ar (bl (p l))/\C7 w1 w2
def Yo(h:σ:=by
 exact⟨k+1,by omega,by go_num,I (by rw[fw (k8 HL.o),tn,HA.o];simpa using HB.o),hx.trans (by assumption)⟩
 ):σ:=h
def rC{cap:Nat}{ca:Array arQ}{p:o3->Bool}(h:dB w a n cap L)(hg:NE prog fid)(H:ey prog w fid ca p):
 f8 203 #[GI a n cap,.func (.func fid) #[] ca] w (U (dg p L)):=by
 have⟨hn,hm⟩:=h.aq9;have Tr:∀(args:Array arQ) (w:J),(callFunc fid args).run prog w=.ok (.enter fid args) w:=hg;unfold f8;go_in
 go_wp2
 go_loopw [8] (λi wr=>∃k:Nat,k<=n/\i=U k/\b9 ((L.take k).all (λx=>!p x)=true)/\C7 w wr) (λi _=>n-(intOf i).toNat)
 ·exact⟨0,gi _,rfl,I rfl,WF⟩
 obtain⟨k,hk,rfl,HA,hx⟩:=hrel;by_cases E:k<n
 ·obtain⟨b,off,a',G,Z,rfl,hc,hr⟩:=(h.ext hx).at E;have HL:=I h.hlen;have HF:=I (H (L[k]?.getD []) a' G Z wr hx hr);clear hr;by_cases hb:p (L[k]?.getD [])=true
  ·exact Uk
  have HB:=I hb;simp only[N8]at hb;go_wp2_with fail;refine IR HF λw2 C4=>?_;go_wp2
  go_roundw
  case rel=>exact Yo
  exact sw
 exact WJ
def nI{cap:Nat}{ca:Array arQ}{p:o3->Bool}(h:dB w a n cap L)(hg:NE prog fid)(E:ey prog w fid ca p):
 f8 291 #[GI a n cap,.func (.func fid) #[] ca] w (bl (L.any p)):=by
 have HC:=I (rC h hg E);exact YQ
def Hx(w:J)(v v':arQ):Prop:=∀k,v'.ownBlock=some k->v.ownBlock=some k∨w.heap.size<=k
def Hx.refl(w:J)(v:arQ):Hx w v v:=λk E=>.inl E
def aj{w0:J}{row:Option Nat}(h:C7 w0 w)(hg:w.grownBy w' row)(hr:∀k,row=some k->w0.heap.size<=k):C7 w0 w':=Below.grown h hg h.size hr
section
variable{P:Program}(w:J)
def kn(h:σ:=by
 rw[hr]at hrun;simp only[Result.ok.injEq]at hrun;obtain⟨rfl,rfl⟩:=hrun;intro k hk;exact .inr (wZ (tu (show some w.heap.size=some k from hk)))
 ):σ:=h
def rV(base:Nat)(t ty e:TypeId)(i:TypeInfo)(z:arQ)(size bytes:Nat)(ht:P.underlying t=some (.slice e))(hi:P.info? e=some i)(hz:i.zero=some z)
 (H:i.size=size) (hby:i.bytes=bytes) (hzs:z.cells.size=size) (hsz:0<size)
 (v:arQ) (n:Nat) (xs:List arQ) (Fm:w.ownsRow base e size v n xs)
 (a:Addr) (m c:Nat) (news:List arQ) (hl:JL news=m*size) (E:∀j u,news[j]?=some u->w.cell? (a.add j)=some u) (h1:∀u∈news,u.oneCell'=true)
 (h63:n+m<=maxLen) (G:(n+m)*bytes<=140737488355328) (hbase:base<=w.heap.size) :
 ∃v' w',(Builtin.append_ #[t,t] ty #[v,GI (some a) m c]).run P w=.ok v' w'/\w'.ownsRow base e size v' (n+m) (xs++news)/\w.grownBy w' v.ownBlock/\Hx w v v':=by
 obtain⟨v',w',hrun,h2,h3,_⟩:=run_append_own (P:=P) w base t ty e i z size bytes ht hi hz H hby hzs hsz v n xs Fm a m c news hl E h1 h63 G hbase;refine⟨v',w',hrun,h2,h3,?_⟩;subst H;subst hby;have hsmall:n+m<=9223372036854775807:=by simp only[maxLen]at h63;omega
 rcases Fm.2 with⟨rfl,rfl⟩|⟨g,cap,cur,rfl,YW,hg,hnc,K3,hcs,htake⟩
 ·by_cases hm:m=0
  ·subst hm;intro k hk;rcases h2.2 with⟨rfl,_⟩|⟨g',cap',cur',rfl,_,Ra,_⟩
   ·simp[Value.ownBlock]at hk
   have hn:news=[]:=QX YE;subst hn;have:(Builtin.append_ #[t,t] ty #[GI none 0 0,GI (some a) 0 c]).run P w=.ok d6 w:=by
    simp[Builtin.append_,YU ht,sizeOf,typeInfo,hi,Builtin.lenOf,Builtin.firstCells,loadCells,loadCellsFrom]
   rw[this]at hrun;simp at hrun
  have hr:=run_append_nil (P:=P) w t ty e i z ht hi hz a m c news hl E j0 j0 (by have hb:=G;simp only[hI]at hb;omega);exact kn
 by_cases Z:n+m<=cap
 ·have PG:n*i.size+JL news<=cur.size:=by rw[hl,hcs,<-Nat.add_mul];exact Nat.mul_le_mul_right _ Z
  have hr:=run_append_room (P:=P) w t ty e i ht hi g n cap cur hg a m c news hl E h1 Z PG;rw[hr]at hrun;simp only[Result.ok.injEq]at hrun;obtain⟨rfl,rfl⟩:=hrun;intro k hk;exact .inl hk
 have holds:∀j u,xs[j]?=some u->w.cell? (((O g 0):Addr).add j)=some u:=Fm.cells (g:=g) rfl;have hr:=run_append_grow (P:=P) w t ty e i z ht hi hz (O g 0) n cap xs Fm.1 holds a m c news hl E j0 j0 (growslice_fits j0 G);exact kn
def fI{o:Oper}{a:Act}{K:Act->J->Prop}{Q:Exit->Act->J->Prop}(s x:Operand)(t:TypeId)
 (ho:o.op=.call { callee:=.builtin .append,args:=#[s,x],argTypes:=#[t,t] })
 (base:Nat) (e:TypeId) (i:TypeInfo) (z:arQ) (size bytes:Nat) (ht:P.underlying t=some (.slice e)) (hi:P.info? e=some i) (hz:i.zero=some z)
 (G:i.size=size) (hby:i.bytes=bytes) (hzs:z.cells.size=size) (hsz:0<size)
 (v:arQ) (n:Nat) (xs:List arQ) (hs:a.eval s=v) (Fm:w.ownsRow base e size v n xs)
 (ad:Addr) (m c:Nat) (news:List arQ) (hx:a.eval x=GI (some ad) m c) (hl:JL news=m*size) (H:∀j u,news[j]?=some u->w.cell? (ad.add j)=some u) (h1:∀u∈news,u.oneCell'=true)
 (h63:n+m<=maxLen) (E:(n+m)*bytes<=140737488355328) (Z:base<=w.heap.size)
 (h:∀v' w',w'.ownsRow base e size v' (n+m) (xs++news)->w.grownBy w' v.ownBlock->Hx w v v'->K (a.put o.dst v') w'):o.wp P a w K Q:=by
 have⟨v',w',hr,h2,h3,h4⟩:=rV (P:=P) w base t o.type e i z size bytes ht hi hz G hby hzs hsz v n xs Fm ad m c news hl H h1 h63 E Z;unfold Oper.wp execOp;simp only[ho,resolve,invoke,builtin,Sem.run_bind,Sem.run_pure,Result.andThen_ok,List.map_toArray,Ti,List.map_nil,hs,hx,hr];exact h v' w' h2 h3 h4
def gX{o:Oper}{a:Act}{K:Act->J->Prop}{Q:Exit->Act->J->Prop}(s x:Operand)(t:TypeId)
 (ho:o.op=.call { callee:=.builtin .append,args:=#[s,x],argTypes:=#[t,t] })
 (base:Nat) (e:TypeId) (i:TypeInfo) (size:Nat) (H:P.underlying t=some (.slice e)) (hi:P.info? e=some i)
 (v:arQ) (n:Nat) (Z:List arQ) (hs:a.eval s=v) (Fm:w.ownsRow base e size v n Z) (c:Nat) (hx:a.eval x=GI none 0 c)
 (h:K (a.put o.dst v) w):o.wp P a w K Q:=by
 have E:(Builtin.append_ #[t,t] o.type #[v,GI none 0 c]).run P w=.ok v w:=by
  rcases Fm.2 with⟨rfl,rfl⟩|⟨g,cap,cur,rfl,_,_,G,_⟩
  ·simp[Builtin.append_,YU H,sizeOf,typeInfo,hi,Builtin.lenOf,Builtin.firstCells]
  simp[Builtin.append_,YU H,sizeOf,typeInfo,hi,Builtin.lenOf,Builtin.firstCells,G,storeCells]
 unfold Oper.wp execOp;simp only[ho,resolve,invoke,builtin,Sem.run_bind,Sem.run_pure,Result.andThen_ok,List.map_toArray,Ti,List.map_nil,hs,hx,E];exact h
def bU{ops:Array Oper}{o:Oper}{a:Act}{K:Act->J->Prop}{Q:Exit->Act->J->Prop}{E:Prop}(G:o.guard=none)(h:o.wp P a w K Q):
 if Region.wanted o (yielded ops a.tmps)=true then Oper.wp P o a w K Q else E:=by
 have hw:Region.wanted o (yielded ops a.tmps)=true:=by simp[Region.wanted,G]
 rw[f9 hw];exact h
end
def r'(w:J)(base:Nat)(v:arQ)(l:o3):Prop:=w.ownsRow base 3 1 v (JL l) (l.map (Value.int .i64))
def DQ(w:J)(base:Nat)(v:arQ)(vs:List arQ):Prop:=w.ownsRow base 29 1 v (JL vs) vs
def j'(h:σ:=by
 rcases h.2 with⟨rfl,h0⟩|⟨g,cap,cur,rfl,_,_,h1,h2,_⟩
 ·exact⟨none,0,by rw[h0],by omega,by omega⟩
 ·exact⟨_,cap,rfl,h1,by simpa[maxLen]using h2⟩
 ):σ:=h
def r'.form(h:r' w base v l):∃a cap,v=GI a (JL l) cap/\JL l<=cap/\cap<=9223372036854775807:=by
 exact j'
def r'.var(h:r' w base v l):∃a n cap,v=GI a n cap/\b9 (JL l=n):=by
 obtain⟨a,cap,e,_⟩:=h.form;exact⟨a,_,cap,e,rfl⟩
def TR(h:σ:=by
 simp only[nP]at he;obtain⟨rfl,rfl,rfl⟩:=he;exact⟨h0,i8 _,by omega,λk hk=>absurd hk j0⟩
 ):σ:=h
def r'.ints{cap:Nat}(h:r' w base (GI a n cap) l):d9 w a n cap l:=by
 rcases h.2 with⟨he,h0⟩|⟨g,cap',E,he,_,hg,Z,H,hs,G⟩
 ·exact TR
 simp only[nP]at he;obtain⟨rfl,rfl,rfl⟩:=he;refine⟨rfl,Z,by simpa[maxLen]using H,λk hk=>⟨g,0,rfl,λk hk=>?_⟩⟩;rw[hI,aR w g k E _ (0,0) hg];have:(E.toList.take (JL l*1))[k]?=some (U (l[k]?.getD 0)):=by rw[G];simp[hk]
 rw[XD,f9 j0]at this
 simpa using this
def r'.lt(h:r' w base v l):∀k,v.ownBlock=some k->base<=k/\k<w.heap.size:=YB h
def VO(h:σ:=by
 refine⟨h.1,?_⟩;rcases h.2 with hn|⟨g,cap,cur,rfl,hb,Kb,rest⟩
 ·exact .inl hn
 ·exact .inr ⟨g,cap,cur,rfl,hb,(hk g rfl).trans Kb,rest⟩
 ):σ:=h
def r'.keep(h:r' w base v l)(hk:∀k,v.ownBlock=some k->w'.heap[k]?=w.heap[k]?):r' w' base v l:=by
 exact VO
def r'.ext(h:r' w base v l)(hx:C7 w w'):r' w' base v l:=h.keep λk E=>hx.block k (h.lt k E).2
def r'.on(h:r' w base v l):On base w (λW=>r' W base v l):=λw2 G=>h.keep λk E=>G k (h.lt k E).1 (h.lt k E).2
def Wf(h:σ:=by
 refine⟨h.1,?_⟩;rcases h.2 with hn|⟨g,cap,cur,rfl,FD,rest⟩
 ·exact .inl hn
 ·exact .inr ⟨g,cap,cur,rfl,by omega,rest⟩
 ):σ:=h
def r'.mono(h:r' w base v l)(hb:base'<=base):r' w base' v l:=by
 exact Wf
def r'.nil(w:J)(base:Nat):r' w base d6 []:=WD w base _ 1
def C1{w:J}{base:Nat}:r' w base d6 []:=r'.nil w base
def DQ.form(h:DQ w base v vs):∃a cap,v=GI a (JL vs) cap/\JL vs<=cap/\cap<=9223372036854775807:=by
 exact j'
def DQ.var(h:DQ w base v vs):∃a n cap,v=GI a n cap/\b9 (JL vs=n):=by
 obtain⟨a,cap,e,_⟩:=h.form;exact⟨a,_,cap,e,rfl⟩
def LS(h:σ:=by
 rcases h.2 with⟨he,h0⟩|⟨g,cap',cur,he,hb,hg,h1,h2,hs,ht⟩
 ·simp only[nP]at he;omega
 ·simp only[nP]at he;obtain⟨rfl,rfl,rfl⟩:=he;refine⟨g,rfl,hb,λk hk=>?_⟩;rw[aR w g k cur _ (0,0) hg];have:(cur.toList.take (vs.length*1))[k]?=vs[k]?:=by rw[ht]
  rw[XD,f9 j0]at this
  simpa using this
 ):σ:=h
def DQ.cell{cap:Nat}(h:DQ w base (GI a n cap) vs)(hk:k<n):∃g,a=some (O g 0)/\base<=g/\∀k,k<n->w.cell? (O g k)=vs[k]?:=by
 exact LS
def YA(h:σ:=by
 obtain⟨a',cap',he,_⟩:=h.form;simp only[nP]at he;exact he.2.1.symm
 ):σ:=h
def DQ.len{cap:Nat}(h:DQ w base (GI a n cap) vs):JL vs=n:=by
 exact YA
def DQ.lt(h:DQ w base v vs):∀k,v.ownBlock=some k->base<=k/\k<w.heap.size:=YB h
def DQ.keep(h:DQ w base v vs)(hk:∀k,v.ownBlock=some k->w'.heap[k]?=w.heap[k]?):DQ w' base v vs:=by
 exact VO
def DQ.ext(h:DQ w base v vs)(hx:C7 w w'):DQ w' base v vs:=h.keep λk E=>hx.block k (h.lt k E).2
def DQ.on(h:DQ w base v vs):On base w (λW=>DQ W base v vs):=λw2 G=>h.keep λk E=>G k (h.lt k E).1 (h.lt k E).2
def DQ.nil(w:J)(base:Nat):DQ w base d6 []:=WD w base _ 1
def I4(h:σ:=by
 intro k hk KP;rcases h.2 with⟨rfl,_⟩|⟨g,cap,cur,rfl,_,hg,_⟩
 ·simp[Value.ownBlock]at hk
 ·rcases h'.2 with⟨rfl,_⟩|⟨g',cap',cur',rfl,_,Ra,_⟩
  ·simp[Value.ownBlock]at KP
  simp only[Value.ownBlock,bq]at hk KP;subst hk KP;rw[hg]at Ra;simp at Ra
 ):σ:=h
def r'.apart{E:arQ}(h:r' w base v l)(h':DQ w base' E vs):∀k,v.ownBlock=some k->E.ownBlock≠some k:=by
 exact I4
section
variable{P:Program}{w:J}{ops:Array Oper}{rest:List Oper}{o:Oper}{a:Act}{Q:Exit->Act->J->Prop}
def sv(h:σ:=by
 rcases Nat.eq_zero_or_pos m with h0|h0
 ·exact h0
 ·obtain⟨b,off,e,_⟩:=Ho.cell 0 h0;cases e
 ):σ:=h
def aO{K:Act->J->Prop}(s x:Operand)(ho:o.op=.call { callee:=.builtin .append,args:=#[s,x],argTypes:=#[29,29] })
 (base:Nat) (v:arQ) (l:o3) (hs:a.eval s=v) (Fm:r' w base v l) (ao:l9) (m c:Nat) (H:o3) (hx:a.eval x=GI ao m c) (Ho:d9 w ao m c H) (hb:JL l+m<=1099511627776) (E:base<=w.heap.size)
 (h:∀G w',r' w' base G (l++H)->w.grownBy w' v.ownBlock->Hx w v G->K (a.put o.dst G) w'):o.wp prog a w K Q:=by
 have⟨i,hi,F8,Li,J6⟩:=X' Tryz.Sv;cases ao with
 | none =>
   have hm:m=0:=by
    exact sv
   subst hm;have hl:H=[]:=QX Ho.hlen;subst hl;refine gX w s x 29 ho base 3 i 1 V2 hi v (JL l) _ hs Fm c hx ?_;exact h v w (by simpa using Fm) (Ua _ _) (Hx.refl _ _)
 | some ad =>
   refine fI w s x 29 ho base 3 i (U 0) 1 8 V2 hi F8 Li J6 rfl Fd v (JL l) (l.map (Value.int .i64)) hs Fm ad m c (H.map (Value.int .i64)) hx (by simp[Ho.hlen]) ?_ ?_ YZ j0 E ?_
   ·intro j u Z;have hj:j<m:=by
     have:=(O2.1 Z).1
     simpa[Ho.hlen]using this
    have hj':j<JL H:=k8 Ho.hlen;have⟨b,off,e,hc⟩:=Ho.cell j hj;simp only[bq]at e;subst e;have ha:((O b off):Addr).add j=(O b (off+j)):=by unfold Addr.add;split<;>simp_all
    rw[ha,hc j hj];simp only[vM,Id hj',yl,bq,Nm]at Z⊢;exact Z
   ·intro u Z;obtain⟨z,_,rfl⟩:=C'.1 Z;rfl
   intro G w' h1 h2 h3;refine h G w' ?_ h2 h3;unfold r';rw[SW,Ho.hlen,sr];exact h1
def bK(NH:o.guard=none)(s x:Operand)(ho:o.op=.call { callee:=.builtin .append,args:=#[s,x],argTypes:=#[29,29] })
 (base:Nat) (v:arQ) (l:o3) (hs:a.eval s=v) (Fm:r' w base v l) (ao:l9) (m c:Nat) (H:o3) (hx:a.eval x=GI ao m c) (Ho:d9 w ao m c H) (hb:JL l+m<=1099511627776) (E:base<=w.heap.size)
 (h:∀G w',r' w' base G (l++H)->w.grownBy w' v.ownBlock->Hx w v G->wpList prog ops Q rest (a.put o.dst G) w'):wpList prog ops Q (o::rest) a w :=
 Sq NH λ_ Z=>aO s x ho base v l hs Fm ao m c H hx Ho hb E λG w' h1 h2 h3=>Z _ _ (h G w' h1 h2 h3)
def du{K:Act->J->Prop}(s x:Operand)(ho:o.op=.call { callee:=.builtin .append,args:=#[s,x],argTypes:=#[89,89] })
 (base:Nat) (v:arQ) (vs:List arQ) (hs:a.eval s=v) (Fm:DQ w base v vs) (ad:Addr) (u:arQ) (c:Nat) (hx:a.eval x=GI (some ad) 1 c)
 (E:w.cell? ad=some u) (h1c:u.oneCell'=true) (hb:JL vs<=1099511627775) (G:base<=w.heap.size)
 (h:∀H w',DQ w' base H (vs++[u])->w.grownBy w' v.ownBlock->Hx w v H->K (a.put o.dst H) w'):o.wp prog a w K Q:=by
 have⟨i,hi,F8,Li,J6⟩:=X' Tryz.VP;refine fI w s x 89 ho base 29 i d6 1 24 Tryz.underlying89 hi F8 Li J6 rfl Fd v (JL vs) vs hs Fm ad 1 c [u] hx rfl ?_ ?_ YZ j0 G ?_
 ·intro j u' Z
  match j with
  | 0=>simpa[Addr.add]using Z▸E
  | j+1=>simp at Z
 ·intro u' Z;simp only[Se]at Z;rw[Z];exact h1c
 intro H w' h1 h2 h3;refine h H w' ?_ h2 h3;unfold DQ;rw[SW];exact h1
def eY(NH:o.guard=none)(s x:Operand)(ho:o.op=.call { callee:=.builtin .append,args:=#[s,x],argTypes:=#[89,89] })
 (base:Nat) (v:arQ) (vs:List arQ) (hs:a.eval s=v) (Fm:DQ w base v vs) (ad:Addr) (u:arQ) (c:Nat) (hx:a.eval x=GI (some ad) 1 c)
 (E:w.cell? ad=some u) (Z:u.oneCell'=true) (hb:JL vs<=1099511627775) (G:base<=w.heap.size)
 (h:∀H w',DQ w' base H (vs++[u])->w.grownBy w' v.ownBlock->Hx w v H->wpList prog ops Q rest (a.put o.dst H) w'):wpList prog ops Q (o::rest) a w :=
 Sq NH λ_ hK=>du s x ho base v vs hs Fm ad u c hx E Z hb G λH w' h1 h2 h3=>hK _ _ (h H w' h1 h2 h3)
end
def d9.one(w:J)(x:Int)(t:TypeId):d9 (w.alloc (QD #[U x] t)) (some (O w 0)) 1 1 [x] :=
 ⟨rfl,i8 _,by omega,λk E=>⟨_,0,rfl,λk E=>by
  obtain rfl:k=0:=j0
  simp⟩⟩
section
variable{ops:Array Oper}{rest:List Oper}{o:Oper}{a:Act}{Q:Exit->Act->J->Prop}
def Je(h:σ:=by
 obtain⟨a',n',c',rfl,hn⟩:=ho.var;exact h a' n' c' w' hn (I (aj (HX.trans WU) hg λj hj=>fy hW (HO.lt j hj).1)) (I ho)
 ):σ:=h
def Ub{W wr:J}{b:l9}{n q base g:Nat}{l:o3}{s xo:Operand}{t:TypeId}(x:Int)(HO:b9 (r' wr base (GI b n q) l))(HX:b9 (C7 W wr))(hb:JL l+1<=1099511627776)
 (h:∀(a':l9) (n' c':Nat) (w':J),b9 (JL (l++[x])=n')->b9 (C7 W w')->b9 (r' w' base (GI a' n' c') (l++[x]))->wpList prog ops Q rest (a.put o.dst (GI a' n' c')) w')
 (E:o.guard=none:=by exact rfl) (ho:o.op=.call { callee:=.builtin .append,args:=#[s,xo],argTypes:=#[29,29] }:=by exact rfl)
 (hs:a.eval s=GI b n q:=by exact rfl) (hx:a.eval xo=EQ g 1 1:=by exact rfl) (hg:g=wr.heap.size:=by simp) (hW:W.heap.size<=base:=by first|exact i8 _|omega|(simp<;>omega)) (hB:base<=wr.heap.size+1:=by first|omega|(simp<;>omega)) :
 wpList prog ops Q (o::rest) a (wr.alloc (QD #[U x] t)):=by
 subst hg;refine bK E s xo ho base _ l hs (HO.ext WU) _ 1 _ [x] hx (d9.one _ _ _) hb m9 λv' w' ho hg _=>?_;exact Je
end
def EK(k:Int)(n:Nat):o3:=(List.range n).map λ(i:Nat)=>k+(i:Int)
def xX(k:Int)(n:Nat):JL (EK k n)=n:=by simp[EK]
def r'.set{g cap:Nat}(h:r' w base (EQ g n cap) l)(k:Nat)(x:Int):
 r' (w.setCell (O g k) (U x)) base (EQ g n cap) (l.set k x):=by
 obtain⟨a',c',E,_⟩:=r'.form h;simp only[nP]at E;obtain⟨_,rfl,_⟩:=E;have:=(Yk h k (U x)).1;unfold r';rw[k7,List.map_set];exact this
def WE(h:σ:=by
 rcases h.2 with⟨he,h0⟩|⟨g,cap',cur,he,hb,hg,_⟩
 ·simp only[nP]at he;omega
 ·simp only[nP]at he;obtain⟨rfl,_⟩:=he;exact⟨g,rfl,hb,λj=>mo w g j cur _ hg,In hg⟩
 ):σ:=h
def r'.block{cap:Nat}(h:r' w base (GI a n cap) l)(hk:k<n):∃g,a=some (O g 0)/\base<=g/\(∀j,w.frozen? (O g j)=false)/\g<w.heap.size:=by
 exact WE
structure bF(w:J)(base:Nat)(vs:List arQ)(L:l8):Prop where
 len:vs.length=L.length
 row:∀i,i<L.length->r' w base (vs[i]?.getD undef) (L[i]?.getD [])
 apart:∀i j k,i<j->j<L.length->(vs[i]?.getD undef).ownBlock=some k->(vs[j]?.getD undef).ownBlock≠some k
def bF.keep(h:bF w base vs L)(E:∀i k,i<JL L->(vs[i]?.getD undef).ownBlock=some k->w'.heap[k]?=w.heap[k]?):bF w' base vs L :=
 ⟨h.len,λi hi=>(h.row i hi).keep λk G=>E i k hi G,h.apart⟩
def bF.ext(h:bF w base vs L)(hx:C7 w w'):bF w' base vs L :=
 h.keep λi k hi E=>hx.block k ((h.row i hi).lt k E).2
def bF.nil(w:J)(base:Nat):bF w base [] []:=⟨rfl,λi hi=>absurd hi j7,λi j k _ E=>absurd E j7⟩
def bF.on(h:bF w base vs L):On base w (λW=>bF W base vs L) :=
 λw2 G=>h.keep λi k hi E=>G k ((h.row i hi).lt k E).1 ((h.row i hi).lt k E).2
def R9(h:σ:=by
 have h':=h.ext hx;refine⟨by simp[h.len],λi hi=>?_,λi j k Q9 hj hk=>?_⟩
 ·by_cases hl:i<L.length
  ·rw[tv OK,tv hl];exact h'.row i hl
  have:i=L.length:=by simp at hi;omega
  subst this;rw[<-h.len];simp only[Wo,Nm];rw[h.len];simp only[Wo,Nm];exact ho.mono hb
 ·by_cases hl:j<L.length
  ·rw[tv Sk]at hk;rw[tv OK];exact h.apart i j k Q9 hl hk
  have:j=L.length:=by simp at hj;omega
  subst this;rw[tv Sk]at hk;rw[<-h.len];simp only[Wo,Nm];intro KP;have h1:=((h.row i j0).lt k hk).2;have h2:=(ho.lt k KP).1;omega
 ):σ:=h
def bF.snoc(h:bF w base vs L)(hx:C7 w w')(ho:r' w' w v l)(hb:base<=w.heap.size):bF w' base (vs++[v]) (L++[l]):=by
 exact R9
def bZ(w:J)(base:Nat)(v:arQ)(L:l8):Prop:=∃vs,DQ w base v vs/\bF w base vs L
def bZ.form(h:bZ w base v L):∃a cap,v=GI a (JL L) cap/\JL L<=cap/\cap<=9223372036854775807:=by
 obtain⟨vs,G,E⟩:=h;have:=G.form
 rwa [E.len]at this
def bZ.var(h:bZ w base v L):∃a n cap,v=GI a n cap/\b9 (JL L=n):=by
 obtain⟨a,cap,e,_⟩:=h.form;exact⟨a,_,cap,e,rfl⟩
def bZ.ext(h:bZ w base v L)(hx:C7 w w'):bZ w' base v L :=
 let⟨vs,h1,h2⟩:=h;⟨vs,h1.ext hx,h2.ext hx⟩
def bZ.on(h:bZ w base v L):On base w (λW=>bZ W base v L) :=
 let⟨vs,H,G⟩:=h;λE hw=>⟨vs,H.on E hw,G.on E hw⟩
def bZ.nil(w:J)(base:Nat):bZ w base d6 []:=⟨[],DQ.nil w base,bF.nil w base⟩
def bZ.Kq{cap:Nat}(h:bZ w base (GI a n cap) L):dB w a n cap L:=by
 have⟨a',E,he,h1,h2⟩:=h.form;simp only[nP]at he;obtain⟨rfl,rfl,rfl⟩:=he;obtain⟨vs,h3,H⟩:=h;refine⟨rfl,h1,h2,λk G=>?_⟩;obtain⟨g,rfl,_,hc⟩:=h3.cell G;refine⟨g,0,rfl,λk G=>?_⟩;have hv:k<JL vs:=by rw[H.len];exact G
 obtain⟨a',E,Z,_⟩:=(H.row k G).form;have ho:=H.row k G;rw[Z]at ho;refine⟨a',_,E,?_,ho.ints⟩;rw[hI,hc k G,<-Z];simp[hv]
def nM.own{b:Nat}(h:nM w b 3 l)(hb:base<=b)(E:JL l=n)(hm:n<=1099511627776):r' w base (EQ b n n) l:=by
 subst E;refine⟨by simp,.inr ⟨b,JL l,bH l,rfl,hb,h,?_,?_,?_,?_⟩⟩
 ·omega
 ·simp[maxLen];omega
 ·simp[bH]
 simp[bH,bR]
end
section
def r'.made(w:J)(base:Nat)(hb:base<=w.heap.size):r' (w.alloc (QD #[] 3)) base (EQ w 0 0) [] :=
 wA w #[] 0 hb j0 rfl
def N1(h:σ:=by
 have:¬0<n:=λhn=>by obtain⟨b,off,e,_⟩:=h.cell 0 hn;cases e
 exact QX (k8 HL.o)
 ):σ:=h
def QR(h:σ:=by
 go_ret;exact⟨_,rfl,ho,aj WU hg (λk hk=>wZ (tu (show some w.heap.size=some k from hk)))⟩
 ):σ:=h
def s'(h:σ:=by
 simp only[Option.isNone_none]at heq;go_in
 go_wp2;go_ret;exact⟨_,rfl,by rw[hl];exact qq0 w _,WF⟩
 ):σ:=h
def jI{w:J}{a:l9}{n cap:Nat}{l:o3}(h:d9 w a n cap l)(hb:n<=1099511627776):
 Calls prog 54 #[GI a n cap] w λe w'=>∃v,e=ar v/\r' w' w v l/\C7 w w':=by
 have heq:∀w':J,(binOp .eql 29 (GI a n cap) d6).run prog w'=.ok (bl a.isNone) w':=λw'=>V4 w' _ _ a n cap 0 0 V2
 have HL:=I h.hlen;cases a with
 | none =>
   have hl:l=[]:=by
    exact N1
   have qq0:=@r'.nil;exact s'
 | some ad =>
   simp only[E3]at heq;have G:=I (h.alloc (QD #[] 3));have E:=I (r'.made w w (i8 _));clear h;go_in
   go_wp2_with (at_builtin;refine bK rfl _ _ rfl w _ _ rfl E.o _ n _ l rfl G.o Yu j7 ?_;intro v' w1 ho hg r7);exact QR
def PK(l:o3)(x:Int):Bool:=l.contains x
def Bw{w:J}{a:l9}{n cap:Nat}{l:o3}(x:Int)(h:d9 w a n cap l):
 Calls prog 240 #[GI a n cap,U x] w λe w'=>e=ar (bl (PK l x))/\w=w':=by
 have⟨hn,hm⟩:=h.aq9;go_in
 go_wp2
 go_loop [5] (λi=>∃k:Nat,k<=n/\i=U k/\b9 (PK (l.take k) x=false)) (λi=>n-(intOf i).toNat)
 ·exact⟨0,gi _,rfl,I rfl⟩
 obtain⟨k,hk,rfl,HA⟩:=hrel;by_cases G:k<n
 ·obtain⟨b,off,rfl,hc⟩:=h.at G;have E:=I h.hlen;by_cases hb:l[k]?.getD 0=x
  ·have E6:(l[k]?.getD 0 == x)=true:=by simpa using hb
   have H:=I hb;clear hb;go_wp2;go_ret;refine⟨ag ?_,rfl⟩;symm;have Fe:k<JL l:=k8 E.o;have:=H.o;simp only[Fe,Id,Nm]at this;unfold PK;rw[List.contains_iff_mem];exact this▸eN Fe
  have E6:(l[k]?.getD 0 == x)=false:=by simpa using hb
  have H:=I hb;clear hb;go_wp2
  go_round
  case rel=>exact⟨k+1,by omega,by go_num,I (by rw[cW (k8 E.o)];have Z:=HA.o;unfold PK at Z⊢;rw[List.contains_append,Z];simpa using λe=>H.o e.symm)⟩
  exact sw
 have E:=I h.hlen;go_wp2;go_ret;refine⟨ag ?_,rfl⟩;have:=HA.o;rw[bR (k8 E.o)]at this;exact this.symm
def JZ:∀s:Fin 32,∀k:Fin 5,bits .andNot .i64 ((s.val:Nat):Int) (2^k.val)=(if M2 ((s.val:Nat):Int) k.val then((s.val:Nat):Int)-2^k.val else((s.val:Nat):Int))/\(M2 ((s.val:Nat):Int) k.val=true->(2:Int)^k.val<=((s.val:Nat):Int)):=by decide +kernel
def cut(s k:Nat)(hs:s<32)(E:k<5):bits .andNot .i64 (s:Int) (2^k)=(if M2 (s:Int) k then(s:Int)-2^k else(s:Int)):=(JZ ⟨s,hs⟩ ⟨k,E⟩).1
def UX(k:Nat)(h:k<=5)(w:J):Calls prog 102 #[U k] w λe w'=>e=ar (U (2^k))/\w=w':=by
 have:=tL k w
 rwa [dP k h,nw]at this
end
section
variable{w:J}{n:Nat}{l:o3}
def Nz(s:Int)(m:Nat):List Nat:=(List.range m).filter λ(k:Nat)=>M2 s k
def Ix(s:Int)(m:Nat):o3:=(Nz s m).map λ(k:Nat)=>(k:Int)
def lh(s:Int)(m:Nat):Ix s (m+1)=Ix s m++(if M2 s m then [(m:Int)] else []):=by
 unfold Ix Nz;cases h:M2 s m<;>simp[rN,h]
def qq(s:Int)(m:Nat):JL (Ix s m)<=m:=by
 unfold Ix Nz
 simpa using W5 (λ(k:Nat)=>M2 s k) (List.range m)
def tw(s:Int)(i:Nat)(h:i<JL (Ix s 5)):∃k:Nat,(Ix s 5)[i]?.getD 0=(k:Int)/\k<5/\M2 s k=true/\(Nz s 5)[i]?=some k:=by
 have E:i<JL (Nz s 5):=by simpa[Ix]using h
 refine⟨(Nz s 5)[i],?_,?_⟩
 ·simp[Ix,E]
 have hm:(Nz s 5)[i]∈Nz s 5:=eN E;have G:=L1.1 hm;exact⟨sj.1 G.1,G.2,by simp[E]⟩
def py(s:Nat)(hs:s<32)(w:J):
 Calls prog 148 #[U s] w λe w'=>∃v,e=ar v/\r' w' w v (Ix (s:Int) 5)/\C7 w w':=by
 have D7:A4 (s:Int) 0 31=true:=by unfold A4;simp;omega
 have HO:=I (r'.made w w (i8 _));go_in
 go_wp2_with (go_at_call 82;refine cP pk ?_)
 go_loopw [9,3] (λi o wr=>∃(k:Nat) (Z:l9) (H c1:Nat),k<=5/\i=U k/\o=GI Z H c1/\b9 (r' wr w (GI Z H c1) (Ix (s:Int) k))/\b9 (C7 w wr)) (λi _ _=>5-(intOf i).toNat)
 ·exact⟨0,_,_,_,gi _,rfl,rfl,HO,I WU⟩
 obtain⟨k,Z,H,c1,hk,rfl,rfl,G,A0⟩:=hrel;have hsz:=A0.size;by_cases hlt:k<5
 ·have HB:=I (dE (s:Int) k j0 j0);cases E:M2 (s:Int) k
  ·rw[E]at HB;have HS:=I E;clear E;go_wp2_with (go_at_call 202;refine(gZ _ _ _ j0).mono ?_;rw[HB.o];rintro e w3 ⟨rfl,rfl⟩)
   go_roundw
   case rel=>exact⟨k+1,Z,H,c1,by omega,by go_num,rfl,I (by rw[lh,HS.o];simpa using G.o),A0⟩
   exact sw
  rw[E]at HB;have HS:=I E;clear E
  go_wp2_with (first
   | (go_at_call 202;refine(gZ _ _ _ j0).mono ?_;rw[HB.o];rintro e w3 ⟨rfl,rfl⟩)
   | (at_builtin;refine bK rfl _ _ rfl w (GI Z H c1) _ rfl (G.ext WU) _ 1 _ [(k:Int)] rfl (d9.one _ _ _) (k8 (qq (s:Int) k)) m9 ?_;intro v2 w3 ho hg r7;obtain⟨a2,n2,c2,rfl,Hb⟩:=ho.var;have EI:=I ho;have HG4:=I hg;clear ho hg r7))
  go_roundw
  case rel =>
   refine⟨k+1,a2,n2,c2,by omega,by go_num,rfl,I ?_,I ?_⟩
   ·rw[lh,HS.o];exact EI
   exact aj (A0.trans WU) HG4.o (λj hj=>(G.lt j hj).1)
  exact sw
 have MN:k=5:=j0;subst MN;go_wp2;go_ret;exact⟨_,rfl,G,A0⟩
def LP(h:σ:=by
 go_in
 go_wp2_with (go_at_call 32;refine ta.mono ?_;rintro e w' ⟨rfl,rfl⟩);go_ret;exact⟨rfl,rfl⟩
 ):σ:=h
def Dv(s:Int)(w:J):Calls prog 173 #[U s] w λe w'=>e=ar (bl (A4 s 0 31))/\w=w':=by
 exact LP
def Jz(s:Int)(m:Nat):List UInt8:=(Nz s m).map λk=>UInt8.ofNat (97+k)
def cY(l:List UInt8):(bs l).toList=l:=ByteArray.toList_mk l
def CE(s:Int)(m:Nat):Jz s (m+1)=Jz s m++(if M2 s m then [UInt8.ofNat (97+m)] else []):=by
 unfold Jz Nz;rw[rN,dr,sr];cases hb:M2 s m
 ·simp[cB,hb]
 simp[cB,hb]
def wW(s:Int)(m:Nat):JL (Jz s m)<=m:=by
 unfold Jz Nz;rw[dc];exact fy (W5 _ _) j7
def bJ(s:Int):List UInt8:=if Jz s 5=[] then [45] else Jz s 5
def jr(s:Int):JL (bJ s)<=5:=by
 unfold bJ;split
 ·simp
 exact wW s 5
def Zt(h:σ:=by
 have h2:Jz (s:Int) 5≠[]:=λe=>by rw[HT.o,cY,e]at h;exact absurd h Fd
 unfold bJ;rw[f7 h2];exact HT
 ):σ:=h
def Pe(h:σ:=by
 have h2:Jz (s:Int) 5=[]:=by rw[HT.o,cY]at h;exact List.isEmpty_iff.1 h
 unfold bJ;rw[f9 h2];rfl
 ):σ:=h
def gW(s:Nat)(hs:s<32):
 f8 93 #[U s] w (aE (bs (bJ (s:Int)))):=by
 have D7:A4 (s:Int) 0 31=true:=by unfold A4;simp;omega
 have HG:=I (λw'=>Dv (s:Int) w');rw[D7]at HG;clear D7;unfold f8;go_in
 go_wp2_with fail;refine(HG _).mono ?_;rintro e w1 ⟨rfl,rfl⟩;go_wp2
 go_loopg [3,4] 5 (λgk oo kk wr=>∃(k:Nat),b9 (gk+k=5)/\kk=U k/\oo=aE (bs (Jz (s:Int) k))/\b9 (C7 w wr))
 ·exact⟨0,I rfl,rfl,rfl,I WF⟩
 rename Nat=>g1;rename J=>wr;obtain⟨k,HK,rfl,rfl,E⟩:=hrel;have EW:=I (wW (s:Int) k);by_cases hlt:k<5
 ·refine t8 (bE (s:Int) (k:Int) wr j0) (dE (s:Int) k j0 j0) (CE (s:Int) k) λH HB G=>?_;cases hb:M2 (s:Int) k
  ·rw[HB.o,hb]at H;rw[hb]at G;clear hb;go_wp2_with fail;refine cP H ?_;go_wp2_with fail;refine kf ?_;exact⟨k+1,I (k8 HK.o),by go_num,by rw[G.o];simp,E⟩
  rw[HB.o,hb]at H;rw[hb]at G;clear hb;go_wp2_with fail;refine cP H ?_;have Z:k=0∨k=1∨k=2∨k=3∨k=4:=j0;have⟨tx,HT⟩:=GT (bs (Jz (s:Int) k));rw[<-HT.o];have PG:¬9223372036854775807<tx.size+1:=by rw[HT.o,aY];have:=EW.o;omega
  rcases Z with rfl|rfl|rfl|rfl|rfl
  all_goals
   go_wp2_with fail;refine kf ?_;refine⟨_+1,I (k8 HK.o),rfl,?_,E⟩;rw[G.o,f9 trivial,<-ch,<-HT.o];rfl
 have MN:k=5:=k8 HK.o;subst MN;have⟨tx,Lk⟩:=e9 (bs (Jz (s:Int) 5));have HT:=I Lk;rw[<-Lk];clear Lk;go_wp2_with fail
 ·rename_i h;go_ret;refine⟨cj ?_,E⟩;exact Pe
 rename_i h;go_ret;refine⟨cj ?_,E⟩;exact Zt
def JY(h:σ:=by
 exact⟨0,I j0,rfl,rfl,I WF⟩
 ):σ:=h
def gV(s:Nat)(hs:s<32):
 f8 70 #[U s] w (aE (bs (bJ (s:Int)))):=by
 have D7:A4 (s:Int) 0 31=true:=by unfold A4;simp;omega
 have HM:=I (py s hs w);have⟨L,H⟩:=e9 (Ix (s:Int) 5);have HLE:=I (show Jz (s:Int) 5=L.map (λk=>UInt8.ofNat (97+k.toNat))by
  rw[H];unfold Ix Jz;rw[Uc];rfl)
 have EW:=I (show JL L<=5 by rw[H];exact qq _ _)
 have FN:=I (show∀i,i<JL L->∃k:Nat,L[i]?.getD 0=(k:Int)/\k<5 from λi hi=>by
  rw[H]at hi⊢;obtain⟨k,h1,h2,_⟩:=tw (s:Int) i hi;exact⟨k,h1,h2⟩)
 rw[<-H]at HM;clear H;unfold f8;go_in
 go_wp2_with (go_at_call 82;refine cP pk ?_;rw[D7]);refine E9 HM λw1 v ho hx=>?_;obtain⟨a1,n1,c1,rfl,HN⟩:=ho.var;have HI:=I ho.ints;have Ku:n1<=5:=by have:=HN.o;have:=EW.o;omega
 have A0:=I hx;clear ho hx;go_wp2
 go_loopg [3,12] n1 (λgk oo kk wr=>∃(k:Nat),b9 (gk+k=n1)/\kk=U k/\oo=aE (bs ((L.map (λk=>UInt8.ofNat (97+k.toNat))).take k))/\b9 (C7 w1 wr))
 ·exact JY
 rename Nat=>g1;rename J=>wr;obtain⟨k,HK,rfl,rfl,Z⟩:=hrel;by_cases hlt:k<n1
 ·obtain⟨b,off,rfl,hc⟩:=(HI.ext Z).at hlt;have⟨j,hj,hj5⟩:=FN.o k R0;rw[hj]at hc;have G4:=Rd k n1;have KN:=ST k;have⟨x,hx⟩:=e9 (UInt8.ofNat (97+j));have⟨M,G⟩:=e9 (L.map (λk=>UInt8.ofNat (97+k.toNat)));have Ui:=I (show M.take (k+1)=M.take k++[x]by
   have Fe:k<JL M:=by rw[G,dc,HN.o];exact hlt
   rw[xl Fe];have E:k<JL L:=by rw[HN.o];exact hlt
   have h1:L[k]=(j:Int):=by rw[Id E,Nm]at hj;exact hj
   simp only[G,lx,h1,hx,gg])
  have Q0:IntKind.u8.wrap (97+(j:Int))=97+(j:Int):=by rw[Zw];omega
  have GD:=dk (97+(j:Int));have hcv:=iQ (w:=wr) x (y:=97+(j:Int)) (by rw[hx,Q4];omega);have PG:¬9223372036854775807<(bs (M.take k)).size+(bs [x]).size:=by
   rw[aY,aY];have:JL (M.take k)<=k:=by rw[k6];omega
   simp;omega
  rw[<-G];have HA:=I (ch (M.take k) [x]);have KW:=I G;clear hx hj G;go_wp2_with fail;rw[HA.o];refine kf ?_;exact⟨k+1,I (k8 HK.o),by go_num,by rw[<-KW.o,Ui.o],I (Z.trans WU)⟩
 have DV:n1=k:=k8 HK.o;subst DV;have⟨tx,Lk⟩:=e9 (bs ((L.map (λk=>UInt8.ofNat (97+k.toNat))).take n1));have HT:=I (show tx=bs (Jz (s:Int) 5)by rw[Lk,HLE.o,bR (by rw[dc,HN.o];omega)]);rw[<-Lk];clear Lk;go_wp2_with fail
 ·rename_i h;go_ret;refine⟨cj ?_,A0.trans Z.o⟩;exact Pe
 rename_i h;go_ret;refine⟨cj ?_,A0.trans Z.o⟩;exact Zt
def kw {w: J}(n : Int)(h0 : -1000000000000000000 <= n)(h1 : n <= 1000000000000000000)(ht : Lib.TabIs prog w "internal/strconv.uint64pow10" .u64 Lib.pow10Tab) :
 f8 147 #[U n] w (aE (bs (Lib.itoa n))):=by
 have HC:=I (Any.strconv_Itoa wP n j0 j0 w ht);unfold f8;go_in
 go_wp2_with fail;refine HC.mono ?_;rintro e w' ⟨rfl,k,os,rfl⟩;have HX:b9 (C7 w _):=Lib.below_grow _ w (i8 _) k os;exact Pc
def tS(h:n<=1000000000000000000):JL (Lib.decDigits n)<=21:=by
 have:=Yv (n:Int) j0 j0
 rwa [O3]at this
def xH(n:Nat)(hn:n<=1000000000000000000):
 f8 88 #[U n] w (aE (bs (Lib.decDigits n))):=by
 by_cases h0:n=0
 ·exact R5
 have hz:((n:Int) == 0)=false:=m9;have adx:¬(n:Int)<0:=j0;have HL:=I (tS hn);have HD:=I (show Hj n++[]=Lib.decDigits n by unfold Hj;rw[f7 h0,C3]);unfold f8;go_in
 go_wp2
 go_loopg [0,4] n (λgk H G wr=>∃(m:Nat) (l:List UInt8),b9 (m<=gk)/\H=U m/\G=aE (bs l)/\b9 (Hj m++l=Lib.decDigits n)/\b9 (C7 w wr)/\b9 (m<=1000000000000000000))
 ·exact T5
 rename Nat=>g1;rename J=>wr;obtain⟨m,l,HM,rfl,rfl,Rq,HX,E⟩:=hrel;by_cases NF:m=0
 ·exact Ly
 have Q8:((m:Int) != 0)=true:=m9;have hm6:m<=1000000000000000000:=E.o;have PC:Int.tmod (m:Int) 10=((m % 10:Nat):Int):=by rw[mx j0];omega
 have hdiv:Int.tdiv (m:Int) 10=((m/10:Nat):Int):=by rw[cr j0];omega
 have⟨d,hd⟩:=e9 (m % 10);have⟨q,hq⟩:=e9 (m/10);rw[<-hd]at PC;rw[<-hq]at hdiv;have adO:d<10:=j0;have⟨x,hx⟩:=e9 (UInt8.ofNat (48+d));have HS:=I (show Hj m=Hj q++[x]by rw[hx,hd,hq];exact kS NF);have hqm:q<m:=j0;have PD:JL l<=21:=by
  have Z:=HL.o;rw[<-Rq.o,SW]at Z;omega
 have hdn:¬(d:Int)<0:=j0;exact KM
def No(h:σ:=by
 go_wp2_with fail;rw[HA.o];refine NL ?_;exact⟨q,[x]++l,I (k8 HM.o),rfl,rfl,I (by rw[<-yf,<-HS.o];exact Rq),I (HX.trans WU),I j0⟩
 ):σ:=h
def xG(n:Nat)(h1n:1<=n)(hn:n<=1000000000000000000):
 f8 88 #[U (-(n:Int))] w (aE (bs (45::Lib.decDigits n))):=by
 have hz:(-(n:Int) == 0)=false:=m9;have adx:-(n:Int)<0:=j0;have HL:=I (tS hn);have HD:=I (show Hj n++[]=Lib.decDigits n by unfold Hj;rw[f7 j0,C3]);unfold f8;go_in
 go_wp2
 go_loopg [0,4] n (λgk nn oo wr=>∃(m:Nat) (l:List UInt8),b9 (m<=gk)/\nn=U (-(m:Int))/\oo=aE (bs l)/\b9 (Hj m++l=Lib.decDigits n)/\b9 (C7 w wr)/\b9 (m<=1000000000000000000))
 ·exact T5
 rename Nat=>g1;rename J=>wr;obtain⟨m,l,HM,rfl,rfl,Rq,HX,HMB⟩:=hrel;have PD:JL l<=21:=by
  have h1:=HL.o;rw[<-Rq.o,SW]at h1;omega
 by_cases NF:m=0
 ·subst NF;have E:(-((0:Nat):Int) != 0)=false:=by decide
  have HF:=I (show(⟨#[45]⟩:ByteArray)++bs l=bs (45::Lib.decDigits n)by rw[<-Rq.o];exact ch [45] l);have PG:¬9223372036854775807<(⟨#[45]⟩:ByteArray).size+(bs l).size:=by rw[aY];show¬9223372036854775807<1+JL l;omega
  go_wp2;go_ret;exact⟨cj HF.o,HX⟩
 have Q8:(-(m:Int) != 0)=true:=m9;have hm6:m<=1000000000000000000:=HMB.o;have PC:Int.tmod (-(m:Int)) 10=-((m % 10:Nat):Int):=by rw[Int.neg_tmod,mx j0];omega
 have hdiv:Int.tdiv (-(m:Int)) 10=-((m/10:Nat):Int):=by rw[LX,cr j0];omega
 have⟨d,G⟩:=e9 (m % 10);have⟨q,H⟩:=e9 (m/10);rw[<-G]at PC;rw[<-H]at hdiv;have adO:d<10:=j0;have⟨x,hx⟩:=e9 (UInt8.ofNat (48+d));have HS:=I (show Hj m=Hj q++[x]by rw[hx,G,H];exact kS NF);have hqm:q<m:=j0;have Q0:IntKind.u8.wrap (48+(d:Int))=48+(d:Int):=by rw[Zw];omega
 have GD:=dk (48+(d:Int));have hwq:=dk (-(q:Int));have Lw:=I (show(x.toNat:Int)=48+(d:Int)by rw[hx,Q4];omega);have PG:¬9223372036854775807<(bs [x]).size+(bs l).size:=by rw[aY,aY];simp;omega
 have HA:=I (ch [x] l);clear H hx NF;by_cases Nh:d=0
 ·subst Nh;have hw0:IntKind.i64.wrap (-((0:Nat):Int))=((0:Nat):Int):=by decide
  have Z:¬((0:Nat):Int)<0:=j0;have E:Int.tmod (-(m:Int)) 10=((0:Nat):Int):=by rw[PC];rfl
  have hcv:=iQ (w:=wr) x (y:=48) (k8 Lw.o);clear G PC;exact No
 have Z:-(d:Int)<0:=j0;have hwd:=dk (-(d:Int));have Pd:=wq (0 - -(d:Int)) (d:Int);have hcv:=iQ (w:=wr) x (y:=48+(d:Int)) Lw.o;clear G;exact No
def iJ(n:Int)(h0:-1000000000000000000<=n)(h1:n<=1000000000000000000):
 f8 88 #[U n] w (aE (bs (Lib.itoa n))):=by
 by_cases hn:n<0
 ·obtain⟨k,rfl⟩:∃k:Nat,n=-(k:Int):=⟨n.natAbs,by omega⟩;rw[Lib.itoa_neg k j0];exact xG k j0 j0
 obtain⟨k,rfl⟩:∃k:Nat,n=(k:Int):=⟨n.toNat,by omega⟩;rw[O3];exact xH k j0
def ak(p:Int)(l:o3):Bool:=l.all (λx=>A4 x (-500) 500)&&(A4 p 1 5&&(decide ((JL l:Int)=EH p)&&decide (l[0]?.getD 0=0)))
def ap{p:Int}(h:ak p l=true):∃n:Nat,p=n/\1<=n/\n<=5/\JL l=cN n/\l[0]?.getD 0=0/\∀x∈l,-500<=x/\x<=500:=by
 unfold ak at h;simp only[eI,ef]at h;obtain⟨H,E,G,Z⟩:=h;have hb:1<=p/\p<=5:=by unfold A4 at E;simpa using E
 refine⟨p.toNat,by omega,by omega,by omega,?_,Z,?_⟩
 ·have:p=(p.toNat:Int):=by omega
  rw[this,dP _ j0]at G;omega
 intro x hx;have:=gy.1 H x hx;unfold A4 at this
 simpa using this
def bY{p:Int}{a:l9}{cap:Nat}(h:d9 w a n cap l):
 f8 38 #[FS p a n cap] w (bl (ak p l)):=by
 have h1:=h.alloc (QD #[U p,GI a n cap] 31);have⟨hn,hm⟩:=h.aq9;have HL:=I h.hlen;clear h;unfold f8;go_in
 go_wp2
 go_loop [3] (λi=>∃k:Nat,k<=n/\i=U k/\(l.take k).all (λx=>A4 x (-500) 500)=true) (λi=>n-(intOf i).toNat)
 ·exact PS
 obtain⟨k,hk,rfl,E⟩:=hrel;have HA:=I E;clear E;by_cases H:k<n
 ·obtain⟨b,off,rfl,hc⟩:=h1.at H;cases hb:A4 (l[k]?.getD 0) (-500) 500
  ·have HB:=I hb;go_wp2_with (go_at_call 32;refine cP ta ?_);go_ret;refine⟨ag ?_,WU⟩
   symm;unfold ak;cases hx:l.all (λx=>A4 x (-500) 500)
   ·rfl
   have:=sJ hx (k:=k) (k8 HL.o);rw[HB.o]at this;cases this
  have HB:=I hb;go_wp2_with (go_at_call 32;refine cP ta ?_)
  go_round
  case rel=>exact Lu
  exact sw
 have DV:k=JL l:=k8 HL.o;have E:=HA.o;rw[DV,cT]at E;have QV:=I E;clear E DV;cases G:A4 p 1 5
 ·have HP:=I G;go_wp2
  go_quiet ((first|(go_at_call 32;exact be ta)|(go_at_call 33;exact be (dj _ _))))
  go_wp2;go_ret;exact⟨ag (by unfold ak;rw[QV.o,HP.o];rfl),CI WU _⟩
 have HP:=I G;cases Z:((n:Int) == EH p)
 ·have HE:=I Z;go_wp2
  go_quiet ((first|(go_at_call 32;exact be ta)|(go_at_call 33;exact be (dj _ _))))
  go_wp2;go_ret;refine⟨ag ?_,CI WU _⟩;have:¬((JL l:Int)=EH p):=by rw[HL.o];have:=HE.o;simpa using this
  unfold ak;rw[Ok this];simp
 have HE:=I Z;have Ih:0<n:=by
  have h1:1<=p/\p<=5:=by unfold A4 at G;simpa using G
  have h2:(n:Int)=EH p:=by simpa using Z
  unfold EH at h2;rw[f9 WC]at h2;have:=fg p.toNat;omega
 obtain⟨b,off,rfl,hc⟩:=h1.at Ih;rw[RF]at hc;go_wp2
 go_quiet ((first|(go_at_call 32;exact be ta)|(go_at_call 33;exact be (dj _ _))))
 go_wp2;go_ret;refine⟨ag ?_,CI WU _⟩;have he:(JL l:Int)=EH p:=by rw[HL.o];have:=HE.o;simpa using this
 unfold ak;rw[QV.o,HP.o,UV he];rw[yy];simp
def sY(x:Int)(w:J):Calls prog 157 #[U x] w λe w'=>e=ar (bl (!A4 x (-500) 500))/\w=w':=by
 exact V1
def qY:NE prog 157:=cR func157 j8 j8
def oW(w:J):M8 prog w 157 #[] (λx=>!A4 x (-500) 500) :=
 λx E _=>(sY x E).mono λe w' ⟨G,hw⟩=>⟨G,hw▸WF⟩
def jK(p:Int)(l:o3):ak p l=(A4 p 1 5&&(decide ((JL l:Int)=EH p)&&(decide (l[0]?.getD 0=0)&&!l.any (λx=>!A4 x (-500) 500)))):=by
 unfold ak;have:(!l.any (λx=>!A4 x (-500) 500))=l.all (λx=>A4 x (-500) 500):=by rw[xy];simp
 rw[this];cases l.all (λx=>A4 x (-500) 500)<;>simp
def bV{p:Int}{a:l9}{cap:Nat}(h:d9 w a n cap l):
 f8 84 #[FS p a n cap] w (bl (ak p l)):=by
 have H:=h.alloc (QD #[U p,GI a n cap] 31);have HX:=I (C7.alloc w (QD #[U p,GI a n cap] 31));have⟨hn,hm⟩:=h.aq9;have HL:=I h.hlen;clear h;cases E:A4 p 1 5
 ·have HP:=I E;unfold f8;go_in
  go_wp2
  go_quiet ((go_at_call 82;exact be pk))
  go_wp2;go_ret;exact⟨ag (by rw[jK,HP.o];rfl),CI WU _⟩
 have HP:=I E;obtain⟨m,rfl⟩:∃m:Nat,p=m:=⟨p.toNat,by unfold A4 at E;simp at E;omega⟩;have Ol:1<=m/\m<=5:=by unfold A4 at E;simp at E;omega
 obtain⟨Ol,Mr⟩:=Ol;have hwp:IntKind.i64.wrap ((2:Int)^m)=(cN m:Int):=by
  have H:=fg m;have h2:=gj m Mr;rw[mn,nw];omega
 have hwp':wrap64 ((2:Int)^m)=(cN m:Int):=(qJ m Mr).trans (nw m).symm;have HC:=I (dP m Mr);have hN:=bp m Mr;cases hl:((n:Int) != (cN m:Int))
 ·have G:n=cN m:=Int.ofNat.inj (show(n:Int)=(cN m:Int)by simpa using hl);have Yr:=I G;have Ih:0<n:=by omega
  obtain⟨b,off,rfl,hc⟩:=H.at Ih;rw[RF]at hc;clear G;cases h0:(l[0]?.getD 0 != 0)
  ·have Z:=I h0;have HI:=I H;unfold f8;go_in
   go_wp2
   go_quiet ((go_at_call 82;exact be pk))
   go_wp2_with fail;refine IR (dH (HI.drewN _) qY (oW _)) λw1 hx=>?_;go_wp2;go_ret;refine⟨ag ?_,C7.trans (CI HX.o _) hx⟩;rw[jK,HP.o,HC.o,HL.o,Yr.o,UV rfl];have:l[0]?.getD 0=0:=by simpa using Z.o
   rw[UV this];rfl
  have Z:=I h0;unfold f8;go_in
  go_wp2
  go_quiet ((go_at_call 82;exact be pk))
  go_wp2;go_ret;refine⟨ag ?_,CI HX.o _⟩;have:¬(l[0]?.getD 0=0):=by simpa using Z.o
  rw[jK,Ok this];simp
 have N9:=I hl;unfold f8;go_in
 go_wp2
 go_quiet ((go_at_call 82;exact be pk))
 go_wp2;go_ret;refine⟨ag ?_,CI HX.o _⟩;have:¬((JL l:Int)=EH (m:Int)):=by rw[HL.o,HC.o];have:=N9.o;simpa using this
 rw[jK,Ok this];simp
