import Derived.Shelf.Strconv.Itoa3
import Derived.Test.YthpahcbmpoknmaaGreatDoorProg
import Derived.WalkKit
import Derived.WalkSpells
import Derived.WalkLawsBesides
import Derived.Lib.Hide
import Derived.Deep.QuietTactic
import Derived.BigQuiet
import Derived.Deep.RegionHeld3
import Derived.Handed
import Derived.HandedShaped
import Derived.Deep.DeepCutAuto
import Derived.Deep.Cut
import Derived.Outline
import Derived.Laws.IdiomStrings
import Derived.Lib.AppendIntMem
import Derived.Lib.ItoaLen
import Derived.Deep.RegionLaw
import Derived.Deep.Slices
import Derived.ProofKit
import Derived.OpenShut
import Derived.ShutString
import Derived.ChangeOld
import Derived.Lib.SmallJoins
import Derived.Deep.RegionWith
set_option linter.all false
set_option maxHeartbeats 6000000
set_option maxRecDepth 100000
namespace Go.Proofs.YthpahcbmpoknmaaGreatDoor
open Ending renaming returned->atn
open List renaming length->Lp
open Obj renaming cells->SH
open Value renaming slice->FB,bool->ato,string->atr
open Go.Proofs.Tryz Go.RowKit Go.Shelf Go Go.ChangeShapes Go.WideShapes Go.ChangeAt Go.Joins Go.Deep
variable{σ:Prop}
abbrev atY:=Value
abbrev J:=World
section
abbrev GE:=@bodyPost_ret
abbrev m9:=@Nat.le_refl
abbrev If:=@heap_setCell_other
abbrev In:=@List.getElem?_eq_getElem
abbrev Pi:=@Option.some.injEq
abbrev f8:=@if_neg
abbrev j0:=@IntKind.wrap_i64
abbrev i7:=@if_pos
abbrev aP:=@List.take_of_length_le
abbrev NE:=@Option.getD_some
abbrev k6:=@wp_region_held_drew
abbrev gl:=@Addr.mk.injEq
abbrev IO:=@lt_of_block
abbrev ar:=@List.length_append
abbrev RK:=@decide_eq_false
abbrev aM:=@heap_setCell_same
abbrev cq:=@decide_eq_true_eq
abbrev bl:=@decide_eq_true
abbrev ST:=@wpAnyH_done
abbrev cP:=@List.getElem_mem
abbrev cM:=@Bool.and_eq_true
abbrev UV:=@cell_of_row
abbrev b7:=@List.length_map
abbrev bq:=@Nat.le_succ
abbrev eI:=@Int.toNat_natCast
abbrev IR:=@congrArg
abbrev gi:=@and_true
abbrev nP:=@List.getElem?_append_left
abbrev bR:=@Nat.le_trans
abbrev tn:=@List.take_succ_eq_append_getElem
abbrev fp:=@List.all_eq_true
abbrev jt:=@List.length_take
abbrev mn:=@Value.slice.injEq
abbrev fy:=@frozen_of_row
abbrev ef:=@Nat.zero_le
abbrev iv:=@Option.some.inj
abbrev pk:=@List.getElem?_set_ne
abbrev km:=@List.length_set
abbrev mq:=@List.getElem?_eq_none
abbrev tu:=@List.getElem?_set_self
abbrev kx:=@Option.bind_some
abbrev fs:=@Nat.zero_add
abbrev mg:=@List.length_cons
abbrev eN:=@And.intro
abbrev Md:=@List.eq_nil_of_length_eq_zero
abbrev nR:=@of_decide_eq_true
abbrev vM:=@World.block_lt_of_cell?
abbrev nE:=@heap_alloc_new
abbrev vl:=@List.append_assoc
abbrev mr:=@List.range_succ
abbrev p7:=@List.all_append
abbrev sr:=@List.getElem?_map
abbrev rN:=@List.map_append
abbrev yl:=@List.length_replicate
abbrev nM:=@List.mem_range
abbrev J1:=@List.getElem?_append_right
abbrev Ls:=@List.getElem?_eq_some_iff
abbrev sj:=@Prod.mk.injEq
abbrev uu:=@Bool.eq_iff_iff
abbrev Rx:=@List.getElem?_concat_length
abbrev tv:=@Option.map_some
abbrev P3:=@decide_eq_false_iff_not
abbrev Jw:=@Tryz.underlying25
abbrev sw:=@Nat.le_of_eq
abbrev C':=@Nat.lt_of_lt_of_le
abbrev wq:=@Bool.true_and
abbrev O0:=@Option.map_eq_some_iff
abbrev MV:=@List.mem_of_getElem?
abbrev OX:=@List.getElem?_cons_succ
abbrev C3:=@List.length_drop
abbrev Mc:=@World.size_alloc
abbrev D0:=@List.append_nil
abbrev D1:=@List.length_nil
abbrev yy:=@Nat.mul_le_mul
abbrev xl:=@List.mem_map
abbrev Ss:=@Option.getD_none
abbrev Nu:=@List.mem_singleton
abbrev O':=@List.set_append_right
abbrev Me:=@Tryz.underlying9
abbrev WR:=@List.replicate_succ'
abbrev y6:=@below_drewN
abbrev Nl:=@List.nil_append
abbrev Pp:=@List.getElem?_range
abbrev Up:=@List.getElem?_cons_zero
abbrev OZ:=@Tryz.underlying22
abbrev Xd:=@List.drop_eq_getElem_cons
abbrev pb:=@List.findIdx?_eq_some_iff_getElem
abbrev Ro:=@List.getElem?_take
abbrev N2:=@Rat.intCast_mul
abbrev V0:=@List.getElem?_take_of_lt
abbrev O1:=@Tryz.underlying3
abbrev C1:=@cell_of_one
abbrev vA:=@Ne.symm
abbrev QL:=@List.getElem?_drop
abbrev WZ:=@Lib.itoa_length_le
abbrev Px:=@List.cons_append
abbrev Pl:=@List.ext_getElem
abbrev Po:=@Tryz.underlying5
abbrev TL:=@List.map_congr_left
abbrev Rv:=@List.flatMap_cons
abbrev uf:=@Or.inl
abbrev fv:=@ByteArray.size_append
abbrev gn:=@results26
abbrev Pm:=@List.mem_append
abbrev Y4:=@List.not_any_eq_all_not
abbrev R5:=@List.not_mem_nil
abbrev W6:=@World.ownsRow.stored
abbrev OI:=@List.mem_cons
abbrev T9:=@World.ownsRow_nil
abbrev cF:=@Bool.and_eq_false_iff
abbrev bA:=@List.length_singleton
abbrev Wq:=@List.filter_append
abbrev Q8:=@results_none
abbrev QA:=@List.take_take
abbrev dr:=@List.mem_cons_of_mem
abbrev I0:=@List.getElem?_replicate
abbrev TW:=@Nat.min_eq_left
abbrev TA:=@Int.tdiv_eq_ediv_of_nonneg
abbrev Wt:=@List.take_length
abbrev VO:=@Tryz.underlying4
abbrev Zq:=@List.set_cons_zero
abbrev Sh:=@UInt8.toNat_ofNat'
abbrev Zd:=@List.mem_cons_self
abbrev S3:=@Int.natAbs_mul
abbrev SU:=@Array.getElem?_toList
abbrev XP:=@Classical.byContradiction
abbrev PX:=@List.map_map
abbrev jc:=@Int.mul_tdiv_cancel_left
abbrev B1:=@Int.tdiv_neg
abbrev nr:=@World.ownsRow_lit
abbrev R7:=@AllReadyH.nil
abbrev F5:=@Rat.mul_le_mul_of_nonneg_left
abbrev ti:=@List.getElem_mapIdx
abbrev hJ:=@List.any_eq_true
abbrev TR:=@Bool.false_and
abbrev gz:=@List.getElem_map
abbrev XK:=@Int.neg_tdiv
abbrev R8:=@Nat.sub_self
abbrev NQ:=@List.drop_length_add_append
abbrev TK:=@wpAnyH_ready
abbrev YP:=@List.take_append_drop
abbrev Zn:=@List.length_filter_le
abbrev G6:=@if_true
abbrev bB:=@Int.mul_ne_zero
abbrev nm:=@List.eq_replicate_iff
abbrev cy:=@results200
abbrev Vr:=@results177
abbrev RW:=@results206
abbrev u':=@Int.tmod_eq_emod_of_nonneg
abbrev WG:=@Int.eq_of_mul_eq_mul_right
abbrev Uf:=@List.all_eq_false
abbrev ub:=@List.ext_getElem?
abbrev ny:=@Tryz.underlying29
abbrev K7:=@Tryz.underlying32
abbrev Xi:=@List.mem_take_iff_getElem
abbrev X0:=@List.findIdx?_eq_none_iff
abbrev TI:=@BitVec.ofInt_natCast
abbrev ZW:=@List.mem_iff_getElem
abbrev ZP:=@World.cell?_setCell_other
abbrev ct:=@Int.mul_nonneg
abbrev Vt:=@results13
abbrev No:=@Bool.not_eq_true
abbrev xi:=@Nat.mod_eq_of_lt
abbrev ZS:=@List.toList_toArray
abbrev VN:=@List.replicate_succ
abbrev Mf:=@Nat.Coprime.dvd_of_dvd_mul_left
abbrev Zp:=@List.map_cons
abbrev VL:=@BitVec.toNat_ofNat
abbrev YO:=@Option.isSome_some
abbrev SP:=@Tryz.zeroValue3
abbrev Qp:=@Tryz.zeroValue4
abbrev M1:=@Tryz.zeroValue5
abbrev Qd:=@Tryz.zeroValue9
abbrev UU:=@IntKind.wrap_u8
abbrev UH:=@World.grownBy.refl
abbrev o5:=@results104
abbrev aC:=@Rat.intCast_le_intCast
abbrev VP:=@List.foldl_append
abbrev Zo:=@Bool.not_eq_true'
abbrev We:=@Bool.eq_false_iff
abbrev Vz:=@Tryz.underlying87
abbrev SY:=@List.dropLast_concat_getLast
abbrev Pb:=@Lib.run_eql_slice_nil
abbrev xy:=@results62
abbrev mx:=@results28
abbrev cC:=@Nat.pow_le_pow_right
abbrev VW:=@World.ownsRow.lt
abbrev VK:=@beq_eq_false_iff_ne
abbrev M5:=@List.take_set_of_le
abbrev S2:=@Array.length_toList
abbrev Zi:=@UInt8.toNat_inj
abbrev P2:=@Array.getElem?_eq_getElem
abbrev Vd:=@Lib.itoa_nonneg
abbrev Rf:=@Or.inr
abbrev Tg:=@Option.isNone_some
abbrev wA:=@Nat.add_zero
abbrev xf:=@Nat.lt_or_ge
abbrev LL:=@Nat.succ_mul
abbrev L':=@Option.isSome_none
abbrev z8:=@List.map_singleton
abbrev nS:=@Tryz.sizeOf3
abbrev Oj:=@Tryz.sizeOf4
abbrev QY:=@Tryz.sizeOf5
abbrev q8:=@Tryz.sizeOf9
abbrev K1:=@Tryz.underlying118
abbrev E3:=@Tryz.underlying228
abbrev al:=@bodyPost_end
abbrev Zf:=@beq_iff_eq
abbrev Y':=@Below.refl
abbrev lx:=@Below.mono
abbrev KH:=@results61
abbrev TO:=@results36
abbrev aB:=@List.flatten_cons
abbrev PS:=@List.length_range
abbrev RP:=@Tryz.zeroValue118
abbrev S9:=@Tryz.zeroValue228
abbrev Ks:=@List.drop_eq_nil_of_le
abbrev B2:=@Tryz.isAgg3
abbrev O3:=@Tryz.isAgg4
abbrev R':=@Tryz.isAgg5
abbrev SK:=@Tryz.isAgg9
abbrev ri:=@Below.trans
abbrev UW:=@run_convert_bytes_back
abbrev Zc:=@List.all_cons
abbrev W2:=@true_and
abbrev Wa:=@List.mem_flatMap
abbrev Y3:=@List.getElem_set
abbrev Ii:=@Tryz.underlying0
abbrev Pz:=@List.countP_le_length
abbrev UG:=@List.mem_filter
abbrev VV:=@Int.natCast_mul
abbrev ga:=@Nat.mul_comm
abbrev Rq:=@Int.natAbs_tmod
abbrev vT:=@Int.mul_comm
abbrev Tl:=@Tryz.zeroValue0
abbrev Q0:=@info_parts
abbrev FO:=@Region.noSelect_spec
abbrev Y7:=@results280
abbrev KU:=@results317
abbrev bt:=@results102
abbrev KY:=@results125
abbrev Gr:=@results179
abbrev Vs:=@List.flatMap_append
abbrev QR:=@List.getElem_of_mem
abbrev Us:=@Tryz.sizeOf118
abbrev y3:=@Tryz.sizeOf228
abbrev TG:=@run_underlying
abbrev af:=@DataW.trod_int
abbrev KW:=@Nat.lt_of_le_of_lt
abbrev n0:=@List.find?_eq_none
abbrev kn:=@Int.emod_lt_of_pos
abbrev V5:=@of_decide_eq_false
abbrev ZD:=@List.getElem_range
abbrev L1:=@List.length_mapIdx
abbrev Wo:=@List.sum_singleton
abbrev J3:=@List.mem_replicate
abbrev sv:=@Bool.false_eq_true
abbrev T7:=@List.all_replicate
abbrev db:=@Tryz.isAgg118
abbrev cB:=@Tryz.isAgg228
abbrev gp:=@Nat.or_lt_two_pow
abbrev MH:=@List.take_add_one
abbrev Z9:=@Tryz.underlying20
abbrev WB:=@List.filter_cons
abbrev UP:=@Bool.not_not
abbrev RY:=@Nat.add_comm
abbrev L3:=@Int.lt_or_le
abbrev QJ:=@or_false
abbrev UF:=@List.all_nil
abbrev Ut:=@Tryz.sizeOf0
abbrev SC:=@Tryz.zeroValue20
abbrev SL:=@Tryz.zeroValue22
abbrev Vi:=@wpList_plain
abbrev Rg:=@World.cell?_spot
abbrev ka:=@Region.free_spec
abbrev kc:=@List.foldl_cons
abbrev B':=@Int.natAbs_tdiv
abbrev Zs:=@Nat.div_le_self
abbrev ZG:=@Int.emod_nonneg
abbrev rb:=@List.sum_append
abbrev Tc:=@Obj.cells.injEq
abbrev R4:=@results135
abbrev MP:=@results186
abbrev E1:=@results213
abbrev L8:=@results333
abbrev Mj:=@results347
abbrev c9:=@results354
abbrev z':=@results366
abbrev zo:=@results170
abbrev LC:=@results323
abbrev Sz:=@results162
abbrev Hm:=@results178
abbrev Zy:=@results101
abbrev dx:=@trodAll_cons_mk
abbrev Zh:=@Prod.mk.inj
abbrev aA:=@Tryz.isAgg0
abbrev Wh:=@free_of_one
abbrev sc:=@results60
abbrev UE:=@results37
abbrev sa:=@results11
abbrev Zr:=@results27
abbrev W1:=@results29
abbrev E2:=@results30
abbrev j':=@if_false
abbrev V2:=@Below.size
abbrev Qa:=@Bool.and_comm
abbrev yo:=@List.map_take
abbrev JD:=@Bool.and_true
abbrev Tx:=@Tryz.sizeOf20
abbrev k4:=@Tryz.sizeOf22
abbrev kb:=@Below.setCell
abbrev ZI:=@DataW.trod_lt
abbrev R1:=@eq_of_beq
def qj(x y:Int)(h:IntKind.i64.wrap x=y:=by rw[j0];omega):IntKind.i64.wrap x=y:=h
def dc(x:Int)(h:IntKind.i64.wrap x=x:=by rw[j0];omega):IntKind.i64.wrap x=x:=h
def SW(k n:Nat)(h:k<n:=by omega):(k:Int)<(n:Int):=Int.ofNat_lt.2 h
def aE(k:Nat):(0:Int)<=(k:Int):=Int.natCast_nonneg k
abbrev GT(b n c:Nat):atY:=.slice (some ⟨b,0,none⟩) n c
instance:Coe J Nat:=⟨λw=>w.heap.size⟩
abbrev d9:atY:=.slice none 0 0
abbrev IM(b o:Nat):Addr:=⟨b,o,none⟩
abbrev U(x:Int):atY:=.int .i64 x
def t8(h:σ:=by simp;omega):σ:=h
def FS(h:σ:=by decide):σ:=h
def ZN(h:σ:=by simpa using h):σ:=h
def Sr(h:σ:=by rw[h.len];omega):σ:=h
def p8(h:σ:=by simp[maxLen];omega):σ:=h
def o'(h:σ:=by simpa using hl):σ:=h
def T4(h:σ:=by simpa using hb):σ:=h
def V6(h:σ:=by rw[h.len];exact hl):σ:=h
def UK(h:σ:=by rw[HN.o];exact hlt):σ:=h
def Ux(h:σ:=by assumption):σ:=h
def q7(h:σ:=by unfold A8;simp;omega):σ:=h
def Sp{P Q:Prop}(q:Q)(h:Q->P:=by intro q;go_roundg (g1-1);exact q;have:=HM.o;omega):P:=h q
def gy{P Q:Prop}(q:Q)(h:Q->P:=by intro q;go_roundg (g1-1);exact q;have:=HK.o;omega):P:=h q
abbrev o8:=Int×Int
abbrev o7:=List Int
abbrev o6:=Option Addr
abbrev o4:=List (List Int)
abbrev o3:=List (Int×Int)
abbrev l9:=List (Int×Int×Int)
def l8{Q P:Prop}(q:Q)(h:Q->P:=by intro this;omega):P:=h q
def l7(h:σ:=by rfl):σ:=h
def k8(h:σ:=by kernel_rfl):σ:=h
def j9(h:σ:=by simp):σ:=h
def O(h:σ:=by omega):σ:=h
def j7{α:Sort _}(a:α):∃x,x=a:=⟨a,rfl⟩
def e9(p:Prop):Prop:=p
def cR{P:Program}{f:FuncId}{a:Array atY}{w:J}{Q:Ending->J->Prop}{v:atY}(h:Calls P f a w λe w'=>e=.returned v/\w=w')(k:Q (.returned v) w):Calls P f a w Q:=h.mono (λe w' ⟨y,z⟩=>z▸y▸k)
def yf{P:Program}{f:FuncId}{a:Array atY}{w:J}{Q:Ending->J->Prop}{V:Type}{v:V->atY}{G R:V->J->Prop}(h:Calls P f a w λe w'=>∃x,e=.returned (v x)/\G x w'/\R x w')(k:∀w' x,G x w'->R x w'->Q (.returned (v x)) w'):Calls P f a w Q:=h.mono (λe w' ⟨x,y,z,r⟩=>y▸k w' x z r)
def i6{P:Program}{f:FuncId}{a:Array atY}{w:J}{Q:Ending->J->Prop}{v:atY}{R:J->Prop}(h:Calls P f a w λe w'=>e=.returned v/\R w')(k:∀w',R w'->Q (.returned v) w'):Calls P f a w Q:=h.mono (λe w' ⟨y,r⟩=>y▸k w' r)
def Ok{α:Sort _}(a:α):∃x,e9 (x=a):=⟨a,rfl⟩
def Fn{A0 G A2 P:Prop}(a0:A0)(a1:G)(Z:A2)(h:e9 A0->e9 G->e9 A2->P):P:=h a0 a1 Z
def e9.o{p:Prop}(h:e9 p):p:=h
def e9.out{p:Prop}(h:e9 p):p:=h
variable{P:J->Prop}{k b base n i:Nat}{a:o6}{w w':J}{v:atY}{l:o7}{t:TypeId}{α:Type}{fid:FuncId}{ca:Array atY}
theorem I{P:Prop}(h:P):e9 P:=h
def xZ:Go.Shelf.Ren:=⟨fun|171=>222|243=>288|246=>337|283=>361|284=>362|285=>363|286=>364|129=>378|317=>379|318=>380|319=>381|320=>382|337=>390|338=>391|n=>n,fun|3=>3|9=>9|2=>2|4=>4|171=>289|0=>0|53=>233|37=>22|5=>5|173=>291|212=>301|51=>228|20=>20|213=>302|46=>118|232=>313|233=>314|n=>n,fun|17=>3|18=>4|19=>5|n=>n⟩
theorem xY:Go.Proofs.LaysM.n171 prog xZ:={
 mixed:=by kernel_rfl
 f129:=func378.trans (IR some k8)
 f171:=func222.trans (IR some k8)
 f243:=func288.trans (IR some k8)
 f246:=func337.trans (IR some k8)
 f283:=func361.trans (IR some k8)
 f284:=func362.trans (IR some k8)
 f285:=func363.trans (IR some k8)
 f286:=func364.trans (IR some k8)
 f317:=func379.trans (IR some k8)
 f318:=func380.trans (IR some k8)
 f319:=func381.trans (IR some k8)
 f320:=func382.trans (IR some k8)
 f337:=func390.trans (IR some k8)
 f338:=func391.trans (IR some k8)
 t0:=Ii
 a0:=aA
 z0:=Ut
 v0:=Tl
 t2:=Tryz.underlying2
 a2:=Tryz.isAgg2
 z2:=Tryz.sizeOf2
 v2:=Tryz.zeroValue2
 t3:=O1
 a3:=B2
 z3:=nS
 v3:=SP
 t4:=VO
 a4:=O3
 z4:=Oj
 v4:=Qp
 t5:=Po
 a5:=R'
 z5:=QY
 v5:=M1
 t9:=Me
 a9:=SK
 z9:=q8
 v9:=Qd
 t20:=Z9
 a20:=Tryz.isAgg20
 z20:=Tx
 v20:=SC
 t37:=OZ
 a37:=Tryz.isAgg22
 z37:=k4
 v37:=SL
 t46:=K1
 a46:=db
 z46:=Us
 v46:=RP
 t51:=E3
 a51:=cB
 z51:=y3
 v51:=S9
 t53:=Tryz.underlying233
 a53:=Tryz.isAgg233
 z53:=Tryz.sizeOf233
 v53:=Tryz.zeroValue233
 t171:=Tryz.underlying289
 a171:=Tryz.isAgg289
 z171:=Tryz.sizeOf289
 v171:=Tryz.zeroValue289
 t173:=Tryz.underlying291
 a173:=Tryz.isAgg291
 z173:=Tryz.sizeOf291
 v173:=Tryz.zeroValue291
 t212:=Tryz.underlying301
 a212:=Tryz.isAgg301
 z212:=Tryz.sizeOf301
 v212:=Tryz.zeroValue301
 t213:=Tryz.underlying302
 a213:=Tryz.isAgg302
 z213:=Tryz.sizeOf302
 t232:=Tryz.underlying313
 a232:=Tryz.isAgg313
 z232:=Tryz.sizeOf313
 v232:=Tryz.zeroValue313
 t233:=Tryz.underlying314
 a233:=Tryz.isAgg314
 z233:=Tryz.sizeOf314
 v233:=Tryz.zeroValue314
 g17:=by kernel_rfl
 g18:=by kernel_rfl
 g19:=by kernel_rfl
 i0:=by kernel_rfl
 i2:=by kernel_rfl
 i3:=by kernel_rfl
 i4:=by kernel_rfl
 i5:=by kernel_rfl
 i9:=by kernel_rfl
 i20:=by kernel_rfl
 i37:=by kernel_rfl
 i46:=by kernel_rfl
 i51:=by kernel_rfl
 i53:=by kernel_rfl
 i171:=by kernel_rfl
 i173:=by kernel_rfl
 i212:=by kernel_rfl
 i232:=by kernel_rfl
 i233:=by kernel_rfl
 m17:=by kernel_rfl
 m18:=by kernel_rfl
 m19:=by kernel_rfl }
theorem au{k:IntKind}{a b:Int}(h:a=b):atn (.int k a)=atn (.int k b):=by rw[h]
theorem ag{a b:Bool}(h:a=b):atn (ato a)=atn (ato b):=by rw[h]
abbrev D4(w w':J):Prop:=Below w.heap.size w w'
abbrev f9(f:FuncId)(a:Array atY)(w:J)(v:atY):Prop:=Calls prog f a w λe w'=>e=atn v/\D4 w w'
theorem D4.refl(w:J):D4 w w:=Y' _ _
theorem So{w:J}:D4 w w:=D4.refl w
theorem D4.trans{a b c:J}(h:D4 a b)(k:D4 b c):D4 a c:=ri h (lx k h.size)
theorem D4.alloc(w:J)(o:Obj):D4 w (w.alloc o):=(Y' _ _).alloc (m9 _) o
theorem ZL{w:J}{o:Obj}:D4 w (w.alloc o):=D4.alloc w o
theorem D4.Sh{a b c:J}(h:D4 a b)(k:Below a b c):D4 a c:=ri h k
theorem D4.cells(h:D4 w w'):∀b o,b<w.heap.size->w'.cell? (IM b o)=w.cell? (IM b o):=λb o k=>h.cell (p:=(IM b o)) k
theorem D4.Fl(h:D4 w w'):∀b o,b<w.heap.size->w'.frozen? (IM b o)=w.frozen? (IM b o):=λb o k=>h.frozen (p:=(IM b o)) k
theorem D4.o9(h:D4 w w'){a:Addr}(k:w.cell? a=some v):w'.cell? a=some v :=
 (h.cell (vM w a k)).trans k
def On(base:Nat)(w:J)(P:J->Prop):Prop:=∀w2:J,(∀k,base<=k->k<w.heap.size->w2.heap[k]?=w.heap[k]?)->P w2
theorem On.here(h:On base w P):P w:=h w λ_ _ _=>rfl
theorem On.keep(h:On base w P)(hs:w.heap.size<=w'.heap.size)(hk:∀k,base<=k->k<w.heap.size->w'.heap[k]?=w.heap[k]?):On base w' P :=
 λZ h2=>h Z λk G h3=>(h2 k G O).trans (hk k G h3)
theorem On.ext(h:On base w P)(hx:D4 w w'):On base w' P:=h.keep hx.size λk _ G=>hx.block k G
theorem On.set(h:On base w P){a:Addr}(ha:a.block<base)(v:atY):On base (w.setCell a v) P :=
 h.keep j9 λk hk _=>If w a k v O
theorem On.mono{base':Nat}(h:On base w P)(hb:base'<=base):On base' w P:=λG h2=>h G λk h1 Z=>h2 k O Z
structure d6(w:J)(a:o6)(n cap:Nat)(l:o7):Prop where
 hlen:l.length=n
 y7:n<=cap
 y8:cap<=9223372036854775807
 cell:∀k,k<n->∃b off,a=some (IM b off)/\∀k,k<n->w.cell? (IM b (off+k))=some (U (l[k]?.getD 0))
theorem d6.ath{w:J}{a:o6}{n cap:Nat}{l:o7}(h:d6 w a n cap l):n<=cap/\cap<=9223372036854775807:=⟨h.y7,h.y8⟩
theorem d6.ext{cap:Nat}(h:d6 w a n cap l)(hx:D4 w w'):d6 w' a n cap l :=
 ⟨h.hlen,h.y7,h.y8,λk G=>let⟨b,off,e,hc⟩:=h.cell k G;⟨b,off,e,λk G=>hx.o9 (hc k G)⟩⟩
theorem d6.at{cap:Nat}(h:d6 w a n cap l)(G:k<n):
 ∃b off,a=some (IM b off)/\w.cell? (IM b (off+k))=some (U (l[k]?.getD 0)) :=
 let⟨b,off,e,hc⟩:=h.cell k G;⟨b,off,e,hc k G⟩
theorem d6.drewN{cap:Nat}(h:d6 w a n cap l)(m:Nat):d6 (w.drewN m) a n cap l:=h.ext (y6 (D4.refl w) m)
theorem d6.alloc{cap:Nat}(h:d6 w a n cap l)(o:Obj):d6 (w.alloc o) a n cap l:=h.ext (D4.alloc w o)
abbrev F8(w w':J):Prop:=∃m,w'=w.drewN m
theorem F8.refl(w:J):F8 w w:=⟨0,rfl⟩
theorem F8.trans{a b c:J}(h:F8 a b)(k:F8 b c):F8 a c:=by
 obtain⟨m,rfl⟩:=h;obtain⟨n,rfl⟩:=k;exact⟨m+n,World.drewN_drewN _ _ _⟩
theorem F8.ext(h:F8 w w'):D4 w w':=by obtain⟨m,rfl⟩:=h;exact y6 (D4.refl w) m
theorem D4.drew(w:J):D4 w w.drew:=y6 (D4.refl w) 1
theorem fl{w:J}:D4 w w.drew:=D4.drew w
theorem be{P:Program}{f:FuncId}{args:Array atY}
 (h:Calls P f args (w.drewN n) λe w'=>e=atn v/\w.drewN n=w'):Calls P f args (w.drewN n) λe G=>e=atn v/\∃m,G=w.drewN m :=
 h.mono λ_ _ ⟨Z,hm⟩=>⟨Z,n,hm.symm⟩
def bF(l:o7):Array atY:=(l.map (Value.int .i64)).toArray
theorem zV(l:o7)(k:Nat)(h:k<Lp l):(bF l)[k]?=some (U (l[k]?.getD 0)):=by simp[bF,h]
theorem xT(l:o7)(k:Nat)(x:Int):(bF l).setIfInBounds k (U x)=bF (l.set k x):=by simp[bF]
def kg(w:J)(b:Nat)(t:TypeId)(l:o7):Prop:=w.heap[b]?=some (SH (bF l) t (0,0))
theorem kg.cell(h:kg w b t l)(G:k<Lp l):w.cell? (IM b k)=some (U (l[k]?.getD 0)):=by
 rw[UV w b k _ t _ h,zV l k G]
theorem kg.free(h:kg w b t l)(k:Nat):w.frozen? (IM b k)=false:=fy w b k _ t h
theorem kg.lt(h:kg w b t l):b<w.heap.size:=IO h
theorem kg.set(h:kg w b t l)(k:Nat)(x:Int):kg (w.setCell (IM b k) (U x)) b t (l.set k x):=by
 have:=aM w b k _ t (U x) h;rw[xT]at this;exact this
theorem kg.ext(h:kg w b t l)(hx:D4 w w'):kg w' b t l:=(hx.block b h.lt).trans h
theorem kg.ints(h:kg w b t l){cap:Nat}(G:Lp l=n)(hc:n<=cap)(hm:cap<=9223372036854775807):d6 w (some (IM b 0)) n cap l :=
 ⟨G,hc,hm,λ_ _=>⟨b,0,rfl,λk hk=>by rw[fs];exact h.cell O⟩⟩
theorem kg.other(h:kg w b t l){a:Addr}(G:b≠a.block)(v:atY):kg (w.setCell a v) b t l :=
 (If w a b v G).trans h
def Mg(w:J)(b:Nat)(t:TypeId)(vs:List atY):Prop:=w.heap[b]?=some (SH vs.toArray t (0,0))
theorem ah(w:J)(o:Obj)(n:Nat)(h:n=w.heap.size):(w.alloc o).heap[n]?=some o:=by rw[h];exact nE w o
theorem LE{w:J}{o:Obj}{n:Nat}(h:n=w.heap.size):(w.alloc o).heap[n]?=some o:=ah w o n h
theorem aU(w:J)(o:Obj)(n:Nat)(h:n<w.heap.size):(w.alloc o).heap[n]?=w.heap[n]?:=by rw[World.alloc,Array.getElem?_push,f8 O]
theorem wZ{w:J}{o:Obj}{n:Nat}(h:n<w.heap.size):(w.alloc o).heap[n]?=w.heap[n]?:=aU w o n h
theorem cD(h:k<Lp l):l.take (k+1)=l.take k++[l[k]?.getD 0]:=by
 rw[tn h];simp[h]
def QD(l:o7):Int:=l.foldl (λa x=>wrap64 (a+x)) 0
theorem wu(l:o7)(x:Int):QD (l++[x])=wrap64 (QD l+x):=by simp[QD]
def A8(n lo hi:Int):Bool:=decide (lo<=n)&&decide (n<=hi)
theorem gA{G:List α}:G.toArray[i]?=G[i]?:=List.getElem?_toArray
theorem gB{a:α}{l:List α}:(a::l)[i+1]?=l[i]?:=OX
theorem gC{a:α}{l:List α}:(a::l)[0]?=some a:=Up
theorem sA{G:List α}{a:α}:G.toArray.setIfInBounds i a=(G.set i a).toArray:=List.setIfInBounds_toArray G i a
theorem sB{x:α}{G:List α}{a:α}:(x::G).set 0 a=a::G:=Zq
theorem sC{x:α}{G:List α}{a:α}:(x::G).set (i+1) a=x::G.set i a:=List.set_cons_succ
section
variable{P:Program}{md:Region.Mode}{ops:Array Oper}{Q:Exit->Act->J->Prop}{S:J->Prop}{fuel:Nat}{listed:Array Bool}{a:Act}{w:J}
theorem tk(i:Nat){oi:Oper}{v:atY}{Z:Array Bool}{a':Act}(h:wpAnyH P md ops Q S fuel Z a' w)(hi:ops[i]?=some oi:=by simp only[gA,gB,gC];rfl)(hs:Region.noSelect ops=true:=by kernel_rfl)
 (hf:Region.free md ops listed i=true:=by kernel_rfl) (hr:(Region.ready md ops listed).contains i=true:=by kernel_rfl) (hQ:∀c a w,Q (.panic c) (a.put oi.dst v) w->Q (.panic c) a w:=by exact λ_ _ _ h=>h)
 (hy:YieldsIf P ops S oi v a:=by first|(refine uf ⟨by rfl,?_⟩;intro w G;(try dsimp only at G);go_simp;(try with_reducible rfl))|exact Rf ⟨by rfl,rfl⟩) (hS:S w:=by assumption)
 (hl:listed.setIfInBounds i true=Z:=by(try simp only[sA,sB,sC]);rfl) (ha:a.put oi.dst v=a':=by(try simp only[Act.put,sA,sB,sC]);rfl):wpAnyH P md ops Q S (fuel+1) listed a w:=by subst hl ha;exact wpAnyH_take hi hs hf hr hQ hy hS h
theorem sk(i:Nat){oi:Oper}{G:Array Bool}{Z:Act}(h:wpAnyH P md ops Q S fuel G Z w)(hi:ops[i]?=some oi:=by simp only[gA,gB,gC];rfl)(hs:Region.noSelect ops=true:=by kernel_rfl)
 (hf:Region.free md ops listed i=true:=by kernel_rfl) (hr:(Region.ready md ops listed).contains i=true:=by kernel_rfl) (hQ:∀c a w,Q (.panic c) (a.put oi.dst undef) w->Q (.panic c) a w:=by exact λ_ _ _ h=>h)
 (hy:YieldsIf P ops S oi undef a:=by exact Rf ⟨by rfl,rfl⟩) (hS:S w:=by assumption)
 (hl:listed.setIfInBounds i true=G:=by(try simp only[sA,sB,sC]);rfl) (ha:a.put oi.dst undef=Z:=by(try simp only[Act.put,sA,sB,sC]);rfl):wpAnyH P md ops Q S (fuel+1) listed a w:=by subst hl ha;exact wpAnyH_take hi hs hf hr hQ hy hS h
theorem rd(i:Nat){o:Oper}(h:∀K':Act->J->Prop,Shut (∀a w,S w->(S w->wpAnyH P md ops Q S fuel (listed.setIfInBounds i true) a w)->K' a w)->if Region.wanted o (yielded ops a.tmps)=true then Oper.wp P o a w K' Q else K' (a.put o.dst undef) w)
 (hr:Region.ready md ops listed=[i]:=by kernel_rfl) (ho:ops[i]?=some o:=by simp only[gA,gB,gC];rfl) :
 wpAnyH P md ops Q S (fuel+1) listed a w:=TK hr j9 (AllReadyH.cons ho h R7)
theorem To{i:Nat}{o:Oper}{rs:List Nat}(h:∀K':Act->J->Prop,Shut (∀a w,S w->(S w->wpAnyH P md ops Q S fuel (listed.setIfInBounds i true) a w)->K' a w)->if Region.wanted o (yielded ops a.tmps)=true then Oper.wp P o a w K' Q else K' (a.put o.dst undef) w)
 (hs:AllReadyH P md ops Q S fuel listed a w rs) (ho:ops[i]?=some o:=by simp only[gA,gB,gC];rfl):AllReadyH P md ops Q S fuel listed a w (i::rs):=AllReadyH.cons ho h hs
end
abbrev an:=@And.intro
def KO{P Q S:Prop}(s:e9 S)(k:e9 Q)(h:e9 S->e9 Q->P:=by intro s k;refine hK.out _ _ s.out (λx=>?_);(try simp only[Act.put,sA,sB,sC]);exact k.out x):P:=h s k
def KL{P Q S:Prop}(s:e9 S)(k:e9 Q)(h:e9 S->e9 Q->P:=by intro s k;refine hK.out _ _ (λ_=>s.out) ?_;(try simp only[Act.put,sA,sB,sC]);exact k.out s.out):P:=h s k
def Vk(h:σ:=by
 go_in
 go_wp2
 all_goals go_ret;refine⟨?_,rfl⟩;simp[A8, *]
 intro h;omega
 ):σ:=h
theorem av(n lo hi:Int)(w:J):
 Calls prog 82 #[U n,U lo,U hi] w λe w'=>e=atn (ato (A8 n lo hi))/\w=w':=by
 exact Vk
theorem ns{n lo hi:Int}{w:J}:
 Calls prog 82 #[U n,U lo,U hi] w λe w'=>e=atn (ato (A8 n lo hi))/\w=w':=av n lo hi w
theorem bj(n lo hi:Int)(w:J):
 Calls prog 90 #[U n,U lo,U hi] w λe w'=>e=atn (ato (A8 n lo hi))/\w=w':=by
 exact Vk
theorem p9{n lo hi:Int}{w:J}:
 Calls prog 90 #[U n,U lo,U hi] w λe w'=>e=atn (ato (A8 n lo hi))/\w=w':=bj n lo hi w
def k9(h:σ:=by
 simp[intOf];omega
 ):σ:=h
def Qc(h:σ:=by
 exact⟨0,ef _,rfl,rfl⟩
 ):σ:=h
def Gv(h:σ:=by
 exact⟨k+1,by omega,by go_num,by rw[cD (l8 h.hlen),wu]⟩
 ):σ:=h
theorem Ax{cap:Nat}(h:d6 w a n cap l):
 Calls prog 300 #[FB a n cap] w λe w'=>e=atn (U (QD l))/\w=w':=by
 have⟨hn,hm⟩:=h.ath;go_in
 go_wp2
 go_loop [3,8] (λs i=>∃k:Nat,k<=n/\i=U k/\s=U (QD (l.take k))) (λ_ i=>n-(intOf i).toNat)
 ·exact Qc
 obtain⟨k,hk,rfl,rfl⟩:=hrel;by_cases G:k<n
 ·obtain⟨b,off,rfl,hc⟩:=h.at G;go_wp2
  all_goals
   go_round
   case rel=>exact Gv
   exact k9
 go_wp2;go_ret;exact⟨au (by rw[aP (l8 h.hlen)]),rfl⟩
theorem yW{cap:Nat}(h:d6 w a n cap l):
 Calls prog 304 #[FB a n cap] w λe w'=>e=atn (U (QD l))/\w=w':=by
 have⟨hn,hm⟩:=h.ath;go_in
 go_wp2
 go_loop [3,4] (λs i=>∃k:Nat,k<=n/\i=U k/\s=U (QD (l.take k))) (λ_ i=>n-(intOf i).toNat)
 ·exact Qc
 obtain⟨k,hk,rfl,rfl⟩:=hrel;by_cases G:k<n
 ·obtain⟨b,off,rfl,hc⟩:=h.at G;go_wp2
  all_goals
   go_round
   case rel=>exact Gv
   exact k9
 go_wp2;go_ret;exact⟨au (by rw[aP (l8 h.hlen)]),rfl⟩
def gL(l:o7)(most:Int):Bool:=l.all (A8 · 0 most)&&A8 (Lp l) 1 5
theorem tU{p:Int->Bool}(h:l.all p=true)(G:k<Lp l):p (l[k]?.getD 0)=true:=by
 have:=fp.1 h (l[k]) (cP G);simpa[G]using this
def hY(h:σ:=by
 exact⟨k+1,by omega,by go_num,by rw[cD (l8 HL.o),p7,HA.o];simpa using HB.o⟩
 ):σ:=h
theorem nU{cap:Nat}(most:Int)(h:d6 w a n cap l):
 Calls prog 302 #[FB a n cap,U most] w λe w'=>e=atn (ato (gL l most))/\w=w':=by
 have⟨hn,hm⟩:=h.ath;go_in
 go_wp2
 go_loop [5] (λi=>∃k:Nat,k<=n/\i=U k/\(l.take k).all (A8 · 0 most)=true) (λi=>n-(intOf i).toNat)
 ·exact Qc
 obtain⟨k,hk,rfl,Gs⟩:=hrel;have HA:=I Gs;by_cases G:k<n
 ·obtain⟨b,off,rfl,hc⟩:=h.at G;have HL:=I h.hlen;by_cases hb:A8 (l[k]?.getD 0) 0 most=true
  ·have HB:=I hb;go_wp2_with (go_at_call 90;refine cR p9 ?_)
   go_round
   case rel=>exact hY
   exact k9
  have HB:=I hb;simp only[No]at hb;go_wp2_with (go_at_call 90;refine cR p9 ?_);go_ret;refine⟨ag ?_,rfl⟩
  symm;unfold gL;cases hx:l.all (A8 · 0 most)
  ·rfl
  exact absurd (tU hx (l8 HL.o)) HB.o
 have HL:=I h.hlen;go_wp2_with (go_at_call 90;refine cR p9 ?_);go_ret;refine⟨ag ?_,rfl⟩;have:=HA.o;have Z:=HL.o;rw[aP O]at this;simp only[gL,this,wq];rw[Z]
def O4(P:Program)(w:J)(fid:FuncId)(ca:Array atY)(p:Int->Bool):Prop :=
 ∀x (w1:J),D4 w w1->Calls P fid (#[U x]++ca) w1 λe w2=>e=atn (ato (p x))/\D4 w1 w2
theorem O4.ext{P:Program}{p:Int->Bool}(h:O4 P w fid ca p)(hx:D4 w w'):O4 P w' fid ca p :=
 λx G k=>h x G (hx.trans k)
def Rd(P:Program)(fid:FuncId):Prop:=∀(args:Array atY) (w:J),(callFunc fid args).run P w=.ok (.enter fid args) w
theorem cE {P: Program}{fid: FuncId}{fn: Func}(h : P.funcs[fid]? = some fn)(hn : (fn.name == "runtime.NumGoroutine") = false)(hb : fn.body.isNone = false) : Rd P fid := by
 intro args w;have hn' : fn.name ≠ "runtime.NumGoroutine" := by simpa using hn
 simp[callFunc,h,hn'];intro hx;rw[hx]at hb;cases hb
def di{α:Type}(p:α->Bool)(l:List α):Int:=match l.findIdx? p with|some i=>(i:Int)|none=>-1
theorem fP{p:α->Bool}{l:List α}{d:α}(G:k<Lp l)(h:(l.take k).all (λx=>!p x)=true)(Z:p (l[k]?.getD d)=true):di p l=k:=by
 have:l.findIdx? p=some k:=by
  rw[pb];refine⟨G,by simpa[G]using Z,λj hj=>?_⟩;have:=fp.1 h (l[j]) (by rw[Xi];exact⟨j,by omega,rfl⟩)
  simpa using this
 simp[di,this]
theorem eF{p:α->Bool}{l:List α}(G:l.all (λx=>!p x)=true):di p l=-1:=by
 have:l.findIdx? p=none:=by
  rw[X0];intro x hx;have:=fp.1 G x hx
  simpa using this
 simp[di,this]
theorem iT(p:α->Bool)(l:List α):decide (0<=di p l)=l.any p:=by
 by_cases h:l.any p=true
 ·rw[h];unfold di;cases Z:l.findIdx? p with
  | some i=>simp
  | none =>
    rw[X0]at Z;have⟨x,hx,G⟩:=hJ.1 h;rw[Z x hx]at G;cases G
 rw[eF ZN];simp only[No]at h;rw[h];rfl
def dn(h:σ:=by
 have HB:=I hb;go_wp2_with rfl;refine HF.mono ?_;rintro e w2 ⟨rfl,C9⟩;go_wp2;go_ret;exact⟨au (fP (l8 HL.o) HA.o HB).symm,hx.trans Ux⟩
 ):σ:=h
def mf(h:σ:=by
 have HL:=I h.hlen;go_wp2;go_ret;refine⟨au ?_,hx⟩;have:=HA.o;rw[aP (l8 HL.o)]at this;exact(eF this).symm
 ):σ:=h
theorem mI{cap:Nat}{p:Int->Bool}(h:d6 w a n cap l)(hg:Rd prog fid)(Z:O4 prog w fid ca p):
 f9 234 #[FB a n cap,.func (.func fid) #[] ca] w (U (di p l)):=by
 have⟨hn,hm⟩:=h.ath;have VD:∀(args:Array atY) (w:J),(callFunc fid args).run prog w=.ok (.enter fid args) w:=hg;unfold f9;go_in
 go_wp2
 go_loopw [8] (λi wr=>∃k:Nat,k<=n/\i=U k/\(l.take k).all (λx=>!p x)=true/\D4 w wr) (λi _=>n-(intOf i).toNat)
 ·exact⟨0,ef _,rfl,rfl,So⟩
 obtain⟨k,hk,rfl,Gs,hx⟩:=hrel;have HA:=I Gs;by_cases G:k<n
 ·have h':=h.ext hx;obtain⟨b,off,rfl,hc⟩:=h'.at G;have HL:=I h.hlen;have HF:=I (Z (l[k]?.getD 0) wr hx);by_cases hb:p (l[k]?.getD 0)=true
  ·exact dn
  have HB:=I hb;simp only[No]at hb;go_wp2_with rfl;refine i6 HF λw2 C9=>?_;go_wp2
  go_roundw
  case rel=>exact⟨k+1,by omega,by go_num,by rw[cD (l8 HL.o),p7,HA.o];simpa using HB.o,hx.trans Ux⟩
  exact k9
 exact mf
def Uo(h:σ:=by
 (try unfold f9);go_in
 go_wp2_with rfl;refine HC.mono ?_;rintro e w2 ⟨rfl,C9⟩;go_wp2
 all_goals go_ret;refine⟨ag ?_,C9⟩;rw[<-iT]
 ):σ:=h
theorem dJ{cap:Nat}{p:Int->Bool}(h:d6 w a n cap l)(hg:Rd prog fid)(G:O4 prog w fid ca p):
 f9 153 #[FB a n cap,.func (.func fid) #[] ca] w (ato (l.any p)):=by
 have HC:=I (mI h hg G);exact Uo
end
section
variable{H:Type}{enc:TypeId×atY->H}
theorem jY{a:Assume}{C:Checked}{os:Os}{f:FuncId}{Z:Func}{s:ChangeSpec}{conds:List PathCond}{apart fresh handsOn again:Bool}{X:J->Array atY->Prop}
 (hX:∀(w w':J) (args:Array atY),w.heap=w'.heap->X w args->X w' args)
 (own:ownKnob C.prog.godebug=none) (started:os.Started) (noInit:C.prog.inits.idxOf? f=none) (hfn:C.prog.funcs[f]?=some Z)
 (witness:∃(w:J) (tape:Tape) (i:Input),w.os=os/\(w.forCall tape i).Shaped C.prog/\i.vars=[]/\Input.okWide C.prog (w.forCall tape i) .any w f i /\
   ((s.pre enc C.prog Z conds apart (w.forCall tape i).memory i.args/\X (w.forCall tape i).memory i.args)/\sizedMet enc C.prog Z (OpenSpec.ofChange s) apart (w.forCall tape i).memory i.args)/\a.holds C.prog (lone (Frame.enter C.prog f i.args .normal) [] (w.forCall tape i)))
 (G:∀(W:J) (base:Nat) (args:Array atY) (ds gs:List (DataW H)) (before:List MemPlace),
   (∀(j:Nat) t v,Z.params[j]?=some t->args[j]?=some v->Value.okWide C.prog W .any base t v) ->
   DataW.Whole enc C.prog Z.params.toList s.vars apart W args.toList ds gs before->X W args->W.ShapedOpen C.prog ->
   Calls C.prog f args W λe W'=>∃v,e=atn v/\s.post enc C.prog Z apart fresh handsOn again W args v W') :
 ReturnsInHanded a C os f .any (λw args=>(s.pre enc C.prog Z conds apart w args/\X w args)/\sizedMet enc C.prog Z (OpenSpec.ofChange s) apart w args) (s.post enc C.prog Z apart fresh handsOn again):=by
 refine returnsInHanded_of_calls own started noInit witness ?_;intro w tape i _ hsh _ D9 hpre hholds;obtain⟨_,_,_,fn',hfn',_,_,_,_,hval⟩:=D9;obtain rfl:fn'=Z:=iv (hfn'.symm.trans hfn);obtain⟨⟨⟨ds,gs,before,hw,hc⟩,hx⟩,hz⟩:=hpre;have hw':=DataW.Whole.of_heap (w':=w.forCall tape i) l7 hw;refine(G (w.forCall tape i) w i.args ds gs before hval hw' (hX _ _ _ l7 hx) hsh).mono λe W' ⟨v,he,hp⟩=>?_;subst he;exact ChangeSpec.post_blind hp
end
section
variable{w:J}{a:o6}{n:Nat}{l:o7}
theorem Tryz.UG:(prog.info? 3).map (λi=>(i.zero,i.size,i.bytes))=some (some (U 0),1,8):=by kernel_rfl
theorem jk(n:Nat)(hn:n<=1099511627776)(w:J):
 (Instr.makeSlice 29 (U n) (U n)).run prog w=.ok (GT w n n) (w.alloc (SH (bF (List.replicate n 0)) 3)):=by
 have⟨i,hi,Hl,G,Z⟩:=Q0 Tryz.UG;have hr:=run_make (P:=prog) w 29 3 i (U 0) ny hi Hl .i64 .i64 n n O (Int.le_refl _) (by rw[Z];omega) O;simp only[eI]at hr;rw[hr,G];have:madeCells (Value.int .i64 0).cells (n*1)=bF (List.replicate n 0):=by
  apply Array.toList_inj.1;show(madeCells #[Value.int .i64 0] (n*1)).toList=_;rw[toList_madeCells_one];simp[bF]
 rw[this]
abbrev Id(x:Int)(a:o6)(n cap:Nat):atY:=.agg #[.int .i64 x,FB a n cap]
def aW(lo x:Int)(l:o7):Bool:=gL l 100&&A8 x lo (QD l)
theorem jV(l:o7)(most:Int):gL l most=(!(l.any (λx=>!A8 x 0 most))&&A8 (Lp l) 1 5):=by
 unfold gL;congr 1;rw[Y4];simp
def M2(s:Int)(k:Nat):Bool:=decide (s/2^k % 2=1)
def Ia(s k:Int):Bool:=decide (0<=s)&&(A8 k 0 4&&M2 s k.toNat)
def Gg(n:Int):Int:=if A8 n 0 5 then 2^n.toNat else 0
theorem T5(a b:Nat)(ha:a<9223372036854775808)(hb:b<9223372036854775808):bits .and .i64 (a:Int) (b:Int)=((a &&& b:Nat):Int):=by
 have hx:a &&& b<2^63:=Nat.and_lt_two_pow _ O;have Z:(BitVec.ofInt 64 (a:Int)).toNat=a:=by rw[TI,VL];exact xi O
 have G:(BitVec.ofInt 64 (b:Int)).toNat=b:=by rw[TI,VL];exact xi O
 show IntKind.i64.wrap ((BitVec.ofInt 64 (a:Int) &&& BitVec.ofInt 64 (b:Int)).toNat:Int)=_;rw[BitVec.toNat_and,Z,G,j0];omega
theorem Hv(a b:Nat)(ha:a<9223372036854775808)(hb:b<9223372036854775808):bits .or .i64 (a:Int) (b:Int)=((a ||| b:Nat):Int):=by
 have hx:a ||| b<2^63:=gp O O
 have Z:(BitVec.ofInt 64 (a:Int)).toNat=a:=by rw[TI,VL];exact xi O
 have G:(BitVec.ofInt 64 (b:Int)).toNat=b:=by rw[TI,VL];exact xi O
 show IntKind.i64.wrap ((BitVec.ofInt 64 (a:Int) ||| BitVec.ofInt 64 (b:Int)).toNat:Int)=_;rw[BitVec.toNat_or,Z,G,j0];omega
theorem tW(x:Int)(h:0<=x)(h':x<=9223372036854775807):bits BinOp.and IntKind.i64 x 1=x % 2:=by
 obtain⟨n,rfl⟩:∃n:Nat,x=n:=⟨x.toNat,by omega⟩;have:=T5 n 1 O O;rw[Nat.and_one_is_mod]at this;have G:((n % 2:Nat):Int)=(n:Int) % 2:=O;exact this.trans G
theorem fk(k:Nat):(1:Int)<=2^k:=by
 have:(0:Int)<2^k:=Int.pow_pos FS;omega
theorem gG(k:Nat)(h:k<=5):(2:Int)^k<=32:=by
 have:k=0∨k=1∨k=2∨k=3∨k=4∨k=5:=O;rcases this with rfl|rfl|rfl|rfl|rfl|rfl<;>decide
theorem pI(s:Int)(k:Nat)(h:0<=s):0<=s/2^k/\s/2^k<=s:=by
 have:=fk k;exact⟨Int.ediv_nonneg h O,Int.ediv_le_self _ h⟩
theorem mR(s:Int)(k:Nat)(h:0<=s)(h':s<=9223372036854775807):(bits BinOp.and IntKind.i64 (s/2^k) 1 == 1)=M2 s k:=by
 have:=pI s k h;rw[tW _ this.1 O];unfold M2;rw[uu];simp
theorem rU(k:Nat)(h:k<=5):wrap64 ((2:Int)^k)=2^k:=by
 have:=fk k;have:=gG k h;unfold wrap64;omega
theorem il(s k:Int)(w:J)(Z:s<=9223372036854775807):
 Calls prog 208 #[U s,U k] w λe w'=>e=atn (ato (Ia s k))/\w=w':=by
 by_cases hs:0<=s
 ·cases G:A8 k 0 4
  ·go_in
   go_wp2_with (go_at_call 82;refine cR ns ?_);go_ret;exact⟨ag (by unfold Ia;rw[G];simp),rfl⟩
  obtain⟨n,rfl⟩:∃n:Nat,k=n:=⟨k.toNat,by unfold A8 at G;simp at G;omega⟩;have hn:n<=4:=by unfold A8 at G;simp at G;omega
  have hb:=mR s n hs Z;go_in
  go_wp2_with (go_at_call 82;refine cR ns ?_);go_ret;exact⟨ag (by unfold Ia;rw[G];simp[hs]),rfl⟩
 go_in
 go_wp2;go_ret;exact⟨ag (by unfold Ia;rw[RK O];rfl),rfl⟩
theorem ev(n:Int)(w:J):Calls prog 83 #[U n] w λe w'=>e=atn (U (Gg n))/\w=w':=by
 cases G:A8 n 0 5
 ·go_in
  go_wp2_with (go_at_call 82;refine cR ns ?_);go_ret;exact⟨au (by unfold Gg;rw[G];rfl),rfl⟩
 obtain⟨k,rfl⟩:∃k:Nat,n=k:=⟨n.toNat,by unfold A8 at G;simp at G;omega⟩;have Z:k<=5:=by unfold A8 at G;simp at G;omega
 have hw:=rU k Z;go_in
 go_wp2_with (go_at_call 82;refine cR ns ?_);go_ret;exact⟨au (by unfold Gg;rw[G];simpa using rU k Z),rfl⟩
theorem dp(n:Int)(w:J):Calls prog 91 #[U n] w λe w'=>e=atn (U (Gg n))/\w=w':=by
 cases G:A8 n 0 5
 ·go_in
  go_wp2_with (go_at_call 90;refine cR p9 ?_);go_ret;exact⟨au (by unfold Gg;rw[G];rfl),rfl⟩
 obtain⟨m,rfl⟩:∃k:Nat,n=k:=⟨n.toNat,by unfold A8 at G;simp at G;omega⟩;have hn:m<=5:=by unfold A8 at G;simp at G;omega
 go_in
 go_wp2_with (go_at_call 90;refine cR p9 ?_)
 go_loop [3,4] (λs i=>∃(k:Nat) (z:Int),k<=m/\i=U k/\s=U z/\0<=z/\z<=32/\e9 (z=2^k)) (λ_ i=>m-(intOf i).toNat)
 ·exact⟨0,1,ef _,rfl,rfl,by omega,by omega,I j9⟩
 obtain⟨k,z,JS,rfl,rfl,Hl,Mh,HZ⟩:=hrel;by_cases hlt:k<m
 ·go_wp2
  go_round
  case rel =>
   refine⟨k+1,z*2,by omega,by go_num,rfl,by omega,?_,I (by rw[HZ.o,Int.pow_succ])⟩;have:=gG (k+1) O;rw[Int.pow_succ,<-HZ.o]at this;exact this
  exact k9
 go_wp2;go_ret;have Z:k=m:=O;subst Z;exact⟨au (by unfold Gg;rw[G];simpa using HZ.o),rfl⟩
theorem wW(k:Int)(h:A8 k 0 4=true):Gg k=2^k.toNat:=by
 unfold Gg;rw[i7];unfold A8 at *;simp at *;omega
theorem uJ(n:Int)(w:J):Calls prog 176 #[U n] w λe w'=>e=atn (U (Gg n))/\w=w':=by
 go_in
 go_wp2_with (go_at_call 91;refine cR (dp _ _) ?_);go_ret;exact⟨rfl,rfl⟩
theorem bE(s k:Int)(w:J)(h':s<=9223372036854775807):
 Calls prog 173 #[U s,U k] w λe w'=>e=atn (ato (Ia s k))/\w=w':=by
 cases G:A8 k 0 4
 ·go_in
  go_wp2_with (go_at_call 90;refine cR p9 ?_);go_ret;exact⟨ag (by unfold Ia;rw[G];simp),rfl⟩
 by_cases hs:0<=s
 ·obtain⟨n,rfl⟩:∃n:Nat,k=n:=⟨k.toNat,by unfold A8 at G;simp at G;omega⟩;have hn:n<=4:=by unfold A8 at G;simp at G;omega
  have hc:Gg (n:Int)=2^n:=by rw[wW _ G];simp
  have hp:=fk n;have Z:=pI s n hs;have RA:=Z.1;have hne:((2:Int)^n == 0)=false:=t8;have HB:=I (show(s/2^n % 2 == 1)=M2 s n by unfold M2;rw[uu];simp);go_in
  go_wp2_with (first|(go_at_call 90;refine cR p9 ?_)|(go_at_call 176;refine cR (uJ _ _) ?_));go_ret;exact⟨ag (by rw[HB.o];unfold Ia;rw[G];simp[hs]),rfl⟩
 go_in
 go_wp2_with (go_at_call 90;refine cR p9 ?_);go_ret;exact⟨ag (by unfold Ia;rw[RK O];rfl),rfl⟩
def Fv(b:Bool):Int:=if b then 1 else 0
theorem fN(b:Bool)(w:J):Calls prog 249 #[ato b] w λe w'=>e=atn (U (Fv b))/\w=w':=by
 cases b
 all_goals
  go_in
  go_wp2;go_ret;exact⟨rfl,rfl⟩
def ei(s:Int)(l:o7):Nat->Int
 | 0=>0
 | k+1=>if M2 s k then wrap64 (ei s l k+l[k]?.getD 0) else ei s l k
theorem dG(s:Int)(k:Nat)(h:0<=s)(hk:k<=4):Ia s (k:Int)=M2 s k:=by
 unfold Ia A8;rw[bl h,bl O,bl O];simp
def Zj(h:σ:=by
 go_wp2;go_ret;have E':k=n:=by omega
 subst E';exact⟨rfl,rfl⟩
 ):σ:=h
def Q9(h:σ:=by
 exact⟨k+1,by omega,by go_num,by simp only[ei,HB.o];rfl⟩
 ):σ:=h
theorem vn{cap:Nat}(s:Int)(h:d6 w a n cap l)(h0:0<=s)(h1:s<=9223372036854775807)(h5:n<=60):
 Calls prog 240 #[FB a n cap,U s] w λe w'=>e=atn (U (ei s l n))/\w=w':=by
 have⟨hn,hm⟩:=h.ath;go_in
 go_wp2
 go_loop [5,10] (λt i=>∃k:Nat,k<=n/\i=U k/\t=U (ei s l k)) (λ_ i=>n-(intOf i).toNat)
 ·exact Qc
 obtain⟨k,hk,rfl,rfl⟩:=hrel;by_cases Z:k<n
 ·obtain⟨b,off,rfl,hc⟩:=h.at Z;have hb:=mR s k h0 h1;cases G:M2 s k
  all_goals
   rw[G]at hb;have HB:=I G;go_wp2
   go_round
   case rel=>exact Q9
   exact k9
 exact Zj
def cN(n:Nat):Nat:=2^n
theorem oD(n:Nat):(cN n:Int)=2^n:=by unfold cN;simp
theorem bp(n:Nat)(h:n<=5):1<=cN n/\cN n<=32:=by
 have Z:=fk n;have G:=gG n h;rw[<-oD]at Z G;omega
theorem dT(n:Nat)(h:n<=5):Gg (n:Int)=(cN n:Int):=by
 unfold Gg;rw[i7 q7,oD];simp
theorem yM(n:Nat)(h:n<=5)(w:J):Calls prog 91 #[U n] w λe w'=>e=atn (U (cN n:Int))/\w=w':=by
 have:=dp n w
 rwa [dT n h]at this
theorem xD(n:Nat)(h:n<=5)(w:J):Calls prog 83 #[U n] w λe w'=>e=atn (U (cN n:Int))/\w=w':=by
 have:=ev n w
 rwa [dT n h]at this
def bs(l:List UInt8):ByteArray:=⟨l.toArray⟩
theorem cI(l G:List UInt8):bs l++bs G=bs (l++G):=by
 unfold bs;apply ByteArray.ext;simp
theorem aX(l:List UInt8):(bs l).size=Lp l:=by
 show(l.toArray).size=_;simp
def KM(m:Nat):List UInt8:=if m=0 then [] else Lib.decDigits m
theorem oK{m:Nat}(h:m≠0):KM m=KM (m/10)++[UInt8.ofNat (48+m % 10)]:=by
 unfold KM;rw[f8 h,Lib.decDigits];split
 ·rename_i G;rw[i7 O,xi G];rfl
 rw[f8 O]
theorem dP{w':J}{name:String}{k:IntKind}{zs:o7}(h:Lib.TabIs prog w name k zs)(hx:D4 w w'):Lib.TabIs prog w' name k zs:=Lib.tabBelow_of_tabIs h w' hx
def Vn(h:σ:=by
 have⟨W,hW⟩:=j7 (Sort.grow (w.drewN k) os);rw[<-hW]at HX;rw[<-hW];clear hW;go_wp2;go_ret;exact⟨rfl,HX⟩
 ):σ:=h
abbrev tIw(w:World):=Lib.TabIs prog w "internal/strconv.uint64pow10" .u64 Lib.pow10Tab
theorem zQ {w: J}(n : Nat)(hn : n <= 1000000)(ht : tIw w) :
 f9 144 #[U n] w (atr (bs (Lib.decDigits n))):=by
 have HC:=I (Any.strconv_Itoa xY (n:Int) O O w ht);unfold f9;go_in
 go_wp2_with rfl;refine HC.mono ?_;rintro e w' ⟨rfl,k,os,rfl⟩;have HX:e9 (D4 w _):=Lib.below_grow _ w (m9 _) k os;rw[Vd];exact Vn
theorem cu{a b:ByteArray}(h:a=b):atn (atr a)=atn (atr b):=by rw[h]
theorem kP(x:UInt8){y:Int}(G:(x.toNat:Int)=y):(convert 22 9 (GT w 1 1)).run prog (w.alloc (SH #[.int .u8 y] 5))=.ok (atr (bs [x])) (w.alloc (SH #[.int .u8 y] 5)):=by
 subst G;exact UW (P:=prog) (w.alloc (SH #[.int .u8 (x.toNat:Int)] 5)) 22 9 5 (IM w 0) 1 [x] OZ Po Me (λj Z=>by
  obtain rfl:j=0:=by simp at Z;omega
  simp[Addr.add])
def XW(h:σ:=by
 have T3:Int.tmod (m:Int) 10=((m % 10:Nat):Int):=by rw[u' O];omega
 have hdiv:Int.tdiv (m:Int) 10=((m/10:Nat):Int):=by rw[TA O];omega
 have⟨d,hd⟩:=j7 (m % 10);have⟨q,hq⟩:=j7 (m/10);rw[<-hd]at T3;rw[<-hq]at hdiv;have hd10:d<10:=by omega
 have⟨x,hx⟩:=j7 (UInt8.ofNat (48+d));have HS:=I (show KM m=KM q++[x]by rw[hx,hd,hq];exact oK Rw);have hqm:q<m:=by omega
 have T5:l.length<=21:=by
  have h1:=HL.o;rw[<-WA.o,ar]at h1;omega
 have hdn:¬(d:Int)<0:=by omega
 have PF:IntKind.u8.wrap (48+(d:Int))=48+(d:Int):=by rw[UU];omega
 have IL:IntKind.i64.wrap (48+(d:Int))=48+(d:Int):=by rw[j0];omega
 have hwq:IntKind.i64.wrap (q:Int)=(q:Int):=by rw[j0];omega
 have hcv:=kP (w:=wr) x (y:=48+(d:Int)) (by rw[hx,Sh];omega);have T6:¬9223372036854775807<(bs [x]).size+(bs l).size:=by rw[aX,aX];simp;omega
 have HA:=I (cI [x] l);clear hd hq hx;clear Rw;go_wp2_with rfl;rw[HA.o];refine Sp ?_;exact⟨q,[x]++l,I (l8 HM.o),rfl,rfl,I (by rw[<-vl,<-HS.o];exact WA),I (HX.trans ZL),I O⟩
 ):σ:=h
def N9(h:σ:=by
 subst h0;have HZ:=I (show bs (Lib.decDigits 0)={ data:=#[48] } by rw[Lib.decDigits_one O];rfl);(try unfold f9);go_in
 go_wp2;go_ret;exact⟨cu HZ.symm,So⟩
 ):σ:=h
def SZ(h:σ:=by
 subst Rw;have HF:=I (show bs l=bs (Lib.decDigits n)by rw[<-WA.o];rfl);go_wp2;go_ret;exact⟨cu HF.o,HX⟩
 ):σ:=h
def tz(h:σ:=by
 exact⟨n,[],I (m9 _),rfl,rfl,HD,I So,I hn⟩
 ):σ:=h
theorem Ad(n:Nat)(hn:n<=1000000):
 f9 51 #[U n] w (atr (bs (Lib.decDigits n))):=by
 by_cases h0:n=0
 ·exact N9
 have hz:((n:Int) == 0)=false:=t8;have af6:¬(n:Int)<0:=O;have hlen:Lp (Lib.decDigits n)<=21:=by
  have:=WZ (n:Int) O O
  rwa [Vd]at this
 have HL:=I hlen;have HD:=I (show KM n++[]=Lib.decDigits n by unfold KM;rw[f8 h0,D0]);unfold f9;go_in
 go_wp2
 go_loopg [0,4] n (λgk nn Z wr=>∃(m:Nat) (l:List UInt8),e9 (m<=gk)/\nn=U m/\Z=atr (bs l)/\e9 (KM m++l=Lib.decDigits n)/\e9 (D4 w wr)/\e9 (m<=1000000))
 ·exact tz
 rename Nat=>g1;rename J=>wr;obtain⟨m,l,HM,rfl,rfl,WA,HX,G⟩:=hrel;by_cases Rw:m=0
 ·exact SZ
 have QO:((m:Int) != 0)=true:=t8;have hm6:m<=1000000:=G.o;exact XW
def Mi(h:σ:=by
 have hq:=λm=>be (nU 100 (h1.drewN m))
 cases hs:gL l 100
 all_goals
  have HS:=I hs;rw[hs]at hq;have HQ:=I hq;clear hq hs;(try unfold f9);go_in
  go_wp2
  go_quiet ((first|(go_at_call 302;exact HQ.o _)|(go_at_call 304;exact be (yW (h1.drewN _)))|(go_at_call 90;exact be p9)))
  go_wp2;go_ret;refine⟨ag ?_,y6 ZL _⟩;simp only[aW,HS.o,wq,TR]
 ):σ:=h
theorem tI{x:Int}{cap:Nat}(h:d6 w a n cap l):
 f9 250 #[Id x a n cap] w (ato (aW 1 x l)):=by
 have h1:=h.alloc (SH #[U x,FB a n cap] 163);exact Mi
theorem qe:Rd prog 301:=cE func301 k8 k8
def YW(h:σ:=by
 go_in
 go_wp2_with (go_at_call 82;refine ns.mono ?_;rintro e w' ⟨rfl,rfl⟩);go_ret;exact⟨rfl,rfl⟩
 ):σ:=h
theorem rh(x:Int)(w:J):Calls prog 301 #[U x] w λe w'=>e=atn (ato (!A8 x 0 100))/\w=w':=by
 exact YW
theorem oz(w:J):O4 prog w 301 #[] (λx=>!A8 x 0 100) :=
 λx G _=>(rh x G).mono λe w' ⟨Z,hw⟩=>⟨Z,hw▸So⟩
def Wx(h:σ:=by
 have HC:=I (dJ h1 qq0 (qq1 _));have HL:=I h.hlen;cases FA:A8 n 1 5
 ·have HI:=I FA;(try unfold f9);go_in
  go_wp2_with (go_at_call 82;refine ns.mono ?_;rintro e w' ⟨rfl,rfl⟩);go_ret;refine⟨ag ?_,HX⟩;simp only[aW,gL,HL.o,HI.o,Bool.and_false,TR]
 ·have HI:=I FA;cases hany:l.any (λx=>!A8 x 0 100)
  all_goals
   have HA:=I hany;rw[hany]at HC;clear hany;(try unfold f9);go_in
   go_wp2_with (go_at_call 82;refine ns.mono ?_;rintro e w' ⟨rfl,rfl⟩)
  ·refine HC.mono ?_;rintro e w1 ⟨rfl,hx⟩;have hcs:=hx.cells;have A6:=I (HX.trans hx);have h2:=h1.ext hx;clear hx;go_wp2
   go_quiet ((first|(go_at_call 300;exact be (Ax (h2.drewN _)))|(go_at_call 82;exact be ns)))
   go_wp2;go_ret;refine⟨ag ?_,y6 A6.o _⟩;simp only[aW,jV,HL.o,HI.o,HA.o,Bool.not_false,wq]
  refine HC.mono ?_;rintro e w1 ⟨rfl,hx⟩;have A6:=I (HX.trans hx);clear hx;go_wp2;go_ret;refine⟨ag ?_,A6⟩;simp only[aW,jV,HA.o,Bool.not_true,TR]
 ):σ:=h
theorem sN{x:Int}{cap:Nat}(h:d6 w a n cap l):
 f9 241 #[Id x a n cap] w (ato (aW 1 x l)):=by
 have h1:=h.alloc (SH #[U x,FB a n cap] 163);have HX:=I (D4.alloc w (SH #[U x,FB a n cap] 163));have qq0:=@qe;have qq1:=@oz;exact Wx
end
section
variable{w w':J}{a:o6}{n k base base':Nat}{l:o7}{L:o4}{fid:FuncId}{K:Act->J->Prop}{Q:Exit->Act->J->Prop}{v:atY}{vs:List atY}
def mp(q:Int)(l:o7)(s:Int):Bool:=decide (q<=ei s l (Lp l))
theorem Mk{q:Int}{cap:Nat}(s:Int)(h:d6 w a n cap l)(h0:0<=s)(Z:s<=9223372036854775807)(G:n<=60):
 f9 243 #[Id q a n cap,U s] w (ato (mp q l s)):=by
 have hi:=h.alloc (SH #[U q,FB a n cap] 163);have HL:=I h.hlen;unfold f9;go_in
 go_wp2
 go_quiet ((go_at_call 240;exact be (vn s (hi.drewN _) h0 Z G)))
 go_wp2;go_ret;exact⟨ag (by unfold mp;rw[HL.o]),y6 ZL _⟩
theorem ET{q:Int}{cap:Nat}(s:Int)(h:d6 w a n cap l)(h0:0<=s)(h1:s<=9223372036854775807)(h5:n<=5):
 f9 251 #[Id q a n cap,U s] w (ato (mp q l s)):=by
 have hi:=h.alloc (SH #[U q,FB a n cap] 163);have HL:=I h.hlen;unfold f9;go_in
 go_wp2
 go_loop [5,6] (λt i=>∃k:Nat,k<=n/\i=U k/\t=U (ei s l k)) (λ_ i=>n-(intOf i).toNat)
 ·exact Qc
 obtain⟨k,hk,rfl,rfl⟩:=hrel;by_cases Z:k<n
 ·obtain⟨b,off,rfl,hc⟩:=hi.at Z;have hp:=dG s k h0 O;cases G:M2 s k
  all_goals
   rw[G]at hp;have HB:=I G;go_wp2_with (go_at_call 173;refine cR (bE _ _ _ h1) ?_)
   go_round
   case rel=>exact Q9
   exact k9
 go_wp2;go_ret;have E':k=n:=O;subst E';exact⟨ag (by unfold mp;rw[HL.o]),ZL⟩
theorem iH{lo x:Int}(h:aW lo x l=true):1<=Lp l/\Lp l<=5:=by
 unfold aW gL A8 at h;simp only[cM,cq]at h;omega
structure dD(w:J)(a:o6)(n cap:Nat)(L:o4):Prop where
 hlen:L.length=n
 y7:n<=cap
 y8:cap<=9223372036854775807
 cell:∀k,k<n->∃b off,a=some (IM b off)/\∀k,k<n->∃a' n' c',w.cell? (IM b (off+k))=some (FB a' n' c')/\d6 w a' n' c' (L[k]?.getD [])
theorem dD.ath{w:J}{a:o6}{n cap:Nat}{L:o4}(h:dD w a n cap L):n<=cap/\cap<=9223372036854775807:=⟨h.y7,h.y8⟩
theorem dD.ext{cap:Nat}(h:dD w a n cap L)(hx:D4 w w'):dD w' a n cap L :=
 ⟨h.hlen,h.y7,h.y8,λk G=>let⟨b,off,e,hc⟩:=h.cell k G;⟨b,off,e,λk G=>let⟨a',Z,c',h1,h2⟩:=hc k G;⟨a',Z,c',hx.o9 h1,h2.ext hx⟩⟩⟩
theorem dD.at{cap:Nat}(h:dD w a n cap L)(hk:k<n):
 ∃b off a' G Z,a=some (IM b off)/\w.cell? (IM b (off+k))=some (FB a' G Z)/\d6 w a' G Z (L[k]?.getD []) :=
 let⟨b,off,e,hc⟩:=h.cell k hk;let⟨a',G,Z,h1,h2⟩:=hc k hk;⟨b,off,a',G,Z,e,h1,h2⟩
theorem dD.alloc{cap:Nat}(h:dD w a n cap L)(o:Obj):dD (w.alloc o) a n cap L:=h.ext (D4.alloc w o)
theorem fE{α:Type}{L:List (List α)}(h:k<Lp L):L.take (k+1)=L.take k++[L[k]?.getD []]:=by
 rw[tn h];simp[h]
theorem Tryz.YP:(prog.info? 29).map (λi=>(i.zero,i.size,i.bytes))=some (some d9,1,24):=by kernel_rfl
def i'(w:J)(B:Nat)(vs:List atY)(L:o4)(k:Nat):Prop :=
 ∀j,j<k->∃b m,vs[j]?=some (GT b m m)/\B<b/\Lp (L[j]?.getD [])=m/\kg w b 3 (L[j]?.getD [])
def Tj(P:Program)(w:J)(fid:FuncId)(ca:Array atY)(p:o7->Bool):Prop :=
 ∀(l:o7) (a:o6) (n c:Nat) (w1:J),D4 w w1->d6 w1 a n c l->Calls P fid (#[FB a n c]++ca) w1 λe w2=>e=atn (ato (p l))/\D4 w1 w2
def Ot(h:σ:=by
 exact⟨k+1,by omega,by go_num,I (by rw[fE (l8 HL.o),p7,HA.o];simpa using HB.o),hx.trans Ux⟩
 ):σ:=h
theorem sS{cap:Nat}{ca:Array atY}{p:o7->Bool}(h:dD w a n cap L)(hg:Rd prog fid)(hf:Tj prog w fid ca p):
 f9 209 #[FB a n cap,.func (.func fid) #[] ca] w (U (di p L)):=by
 have⟨hn,hm⟩:=h.ath;have VD:∀(args:Array atY) (w:J),(callFunc fid args).run prog w=.ok (.enter fid args) w:=hg;unfold f9;go_in
 go_wp2
 go_loopw [8] (λi wr=>∃k:Nat,k<=n/\i=U k/\e9 ((L.take k).all (λx=>!p x)=true)/\D4 w wr) (λi _=>n-(intOf i).toNat)
 ·exact⟨0,ef _,rfl,I rfl,So⟩
 obtain⟨k,hk,rfl,HA,hx⟩:=hrel;by_cases G:k<n
 ·obtain⟨b,off,a',Z,c',rfl,hc,hr⟩:=(h.ext hx).at G;have HL:=I h.hlen;have HF:=I (hf (L[k]?.getD []) a' Z c' wr hx hr);by_cases hb:p (L[k]?.getD [])=true
  ·exact dn
  have HB:=I hb;simp only[No]at hb;go_wp2_with rfl;refine i6 HF λw2 C9=>?_;go_wp2
  go_roundw
  case rel=>exact Ot
  exact k9
 exact mf
theorem oI{cap:Nat}{ca:Array atY}{p:o7->Bool}(h:dD w a n cap L)(hg:Rd prog fid)(G:Tj prog w fid ca p):
 f9 295 #[FB a n cap,.func (.func fid) #[] ca] w (ato (L.any p)):=by
 have HC:=I (sS h hg G);exact Uo
def Jv(w:J)(v v':atY):Prop:=∀k,v'.ownBlock=some k->v.ownBlock=some k∨w.heap.size<=k
theorem Jv.refl(w:J)(v:atY):Jv w v v:=λk G=>.inl G
theorem ms{w1 w2:J}{r r1:Option Nat}(h:w.grownBy w1 r)(Z:w1.grownBy w2 r1)(hr:∀k,r1=some k->r=some k∨w.heap.size<=k):w.grownBy w2 r :=
 ⟨Z.os.trans h.os,Z.tape.trans h.tape,Z.output.trans h.output,bR h.size Z.size,λk hk G=>by
  refine(Z.block k (C' hk h.size) λe=>?_).trans (h.block k hk G)
  rcases hr k e.symm with h2|h2
  ·exact G h2.symm
  omega⟩
theorem gP{G:J}(r:Option Nat)(h:D4 w G):w.grownBy G r:=⟨h.os,h.tape,h.output,h.size,λk Z _=>h.block k Z⟩
theorem aj{w0:J}{row:Option Nat}(h:D4 w0 w)(hg:w.grownBy w' row)(hr:∀k,row=some k->w0.heap.size<=k):D4 w0 w':=Below.grown h hg h.size hr
section
variable{P:Program}(w:J)
def Sf(h:σ:=by
 rw[hr]at hrun;simp only[Result.ok.injEq]at hrun;obtain⟨rfl,rfl⟩:=hrun;intro k hk;exact .inr (sw (iv (show some w.heap.size=some k from hk)))
 ):σ:=h
theorem tB(base:Nat)(t ty e:TypeId)(i:TypeInfo)(z:atY)(size bytes:Nat)(ht:P.underlying t=some (.slice e))(hi:P.info? e=some i)(hz:i.zero=some z)
 (hsize:i.size=size) (SF:i.bytes=bytes) (hzs:z.cells.size=size) (hsz:0<size)
 (v:atY) (n:Nat) (xs:List atY) (FW:w.ownsRow base e size v n xs)
 (a:Addr) (m c:Nat) (news:List atY) (hl:Lp news=m*size) (G:∀j u,news[j]?=some u->w.cell? (a.add j)=some u) (h1:∀u∈news,u.oneCell'=true)
 (h63:n+m<=maxLen) (Z:(n+m)*bytes<=140737488355328) (hbase:base<=w.heap.size) :
 ∃v' w',(Builtin.append_ #[t,t] ty #[v,FB (some a) m c]).run P w=.ok v' w'/\w'.ownsRow base e size v' (n+m) (xs++news)/\w.grownBy w' v.ownBlock/\Jv w v v':=by
 obtain⟨v',w',hrun,h2,h3,_⟩:=run_append_own (P:=P) w base t ty e i z size bytes ht hi hz hsize SF hzs hsz v n xs FW a m c news hl G h1 h63 Z hbase;refine⟨v',w',hrun,h2,h3,?_⟩;subst hsize;subst SF;have hsmall:n+m<=9223372036854775807:=by simp only[maxLen]at h63;omega
 rcases FW.2 with⟨rfl,rfl⟩|⟨g,cap,cur,rfl,hbg,hg,hnc,Nx,hcs,htake⟩
 ·by_cases hm:m=0
  ·subst hm;intro k hk;rcases h2.2 with⟨rfl,_⟩|⟨g',cap',cur',rfl,_,Tj,_⟩
   ·simp[Value.ownBlock]at hk
   have hn:news=[]:=Md o';subst hn;have:(Builtin.append_ #[t,t] ty #[FB none 0 0,FB (some a) 0 c]).run P w=.ok d9 w:=by
    simp[Builtin.append_,TG ht,sizeOf,typeInfo,hi,Builtin.lenOf,Builtin.firstCells,loadCells,loadCellsFrom]
   rw[this]at hrun;simp at hrun
  have hr:=run_append_nil (P:=P) w t ty e i z ht hi hz a m c news hl G O O (by have hb:=Z;simp only[fs]at hb;omega);exact Sf
 by_cases hroom:n+m<=cap
 ·have T6:n*i.size+Lp news<=cur.size:=by rw[hl,hcs,<-Nat.add_mul];exact Nat.mul_le_mul_right _ hroom
  have hr:=run_append_room (P:=P) w t ty e i ht hi g n cap cur hg a m c news hl G h1 hroom T6;rw[hr]at hrun;simp only[Result.ok.injEq]at hrun;obtain⟨rfl,rfl⟩:=hrun;intro k hk;exact .inl hk
 have holds:∀j u,xs[j]?=some u->w.cell? (((IM g 0):Addr).add j)=some u:=FW.cells (g:=g) rfl;have hr:=run_append_grow (P:=P) w t ty e i z ht hi hz (IM g 0) n cap xs FW.1 holds a m c news hl G O O (growslice_fits O Z);exact Sf
theorem fO{o:Oper}{a:Act}{K:Act->J->Prop}{Q:Exit->Act->J->Prop}(s x:Operand)(t:TypeId)
 (ho:o.op=.call { callee:=.builtin .append,args:=#[s,x],argTypes:=#[t,t] })
 (base:Nat) (e:TypeId) (i:TypeInfo) (z:atY) (size bytes:Nat) (ht:P.underlying t=some (.slice e)) (hi:P.info? e=some i) (hz:i.zero=some z)
 (Z:i.size=size) (SF:i.bytes=bytes) (hzs:z.cells.size=size) (hsz:0<size)
 (v:atY) (n:Nat) (xs:List atY) (hs:a.eval s=v) (FW:w.ownsRow base e size v n xs)
 (ad:Addr) (m c:Nat) (news:List atY) (hx:a.eval x=FB (some ad) m c) (hl:Lp news=m*size) (hnews:∀j u,news[j]?=some u->w.cell? (ad.add j)=some u) (h1:∀u∈news,u.oneCell'=true)
 (h63:n+m<=maxLen) (G:(n+m)*bytes<=140737488355328) (hbase:base<=w.heap.size)
 (h:∀v' w',w'.ownsRow base e size v' (n+m) (xs++news)->w.grownBy w' v.ownBlock->Jv w v v'->K (a.put o.dst v') w'):o.wp P a w K Q:=by
 have⟨v',w',hr,h2,h3,h4⟩:=tB (P:=P) w base t o.type e i z size bytes ht hi hz Z SF hzs hsz v n xs FW ad m c news hl hnews h1 h63 G hbase;unfold Oper.wp execOp;simp only[ho,resolve,invoke,builtin,Sem.run_bind,Sem.run_pure,Result.andThen_ok,List.map_toArray,Zp,List.map_nil,hs,hx,hr];exact h v' w' h2 h3 h4
theorem ij{o:Oper}{a:Act}{K:Act->J->Prop}{Q:Exit->Act->J->Prop}(s x:Operand)(t:TypeId)
 (ho:o.op=.call { callee:=.builtin .append,args:=#[s,x],argTypes:=#[t,t] })
 (base:Nat) (e:TypeId) (i:TypeInfo) (size:Nat) (ht:P.underlying t=some (.slice e)) (hi:P.info? e=some i)
 (v:atY) (n:Nat) (xs:List atY) (hs:a.eval s=v) (FW:w.ownsRow base e size v n xs) (c:Nat) (hx:a.eval x=FB none 0 c)
 (h:K (a.put o.dst v) w):o.wp P a w K Q:=by
 have G:(Builtin.append_ #[t,t] o.type #[v,FB none 0 c]).run P w=.ok v w:=by
  rcases FW.2 with⟨rfl,rfl⟩|⟨g,cap,cur,rfl,_,_,Z,_⟩
  ·simp[Builtin.append_,TG ht,sizeOf,typeInfo,hi,Builtin.lenOf,Builtin.firstCells]
  simp[Builtin.append_,TG ht,sizeOf,typeInfo,hi,Builtin.lenOf,Builtin.firstCells,Z,storeCells]
 unfold Oper.wp execOp;simp only[ho,resolve,invoke,builtin,Sem.run_bind,Sem.run_pure,Result.andThen_ok,List.map_toArray,Zp,List.map_nil,hs,hx,G];exact h
theorem bU{ops:Array Oper}{o:Oper}{a:Act}{K:Act->J->Prop}{Q:Exit->Act->J->Prop}{E:Prop}(G:o.guard=none)(h:o.wp P a w K Q):
 if Region.wanted o (yielded ops a.tmps)=true then Oper.wp P o a w K Q else E:=by
 have hw:Region.wanted o (yielded ops a.tmps)=true:=by simp[Region.wanted,G]
 rw[i7 hw];exact h
end
def y9(w:J)(base:Nat)(v:atY)(l:o7):Prop:=w.ownsRow base 3 1 v (Lp l) (l.map (Value.int .i64))
def E8(w:J)(base:Nat)(v:atY)(vs:List atY):Prop:=w.ownsRow base 29 1 v (Lp vs) vs
def Xk(h:σ:=by
 rcases h.2 with⟨rfl,h0⟩|⟨g,cap,cur,rfl,_,_,h1,h2,_⟩
 ·exact⟨none,0,by rw[h0],by omega,by omega⟩
 ·exact⟨_,cap,rfl,h1,by simpa[maxLen]using h2⟩
 ):σ:=h
theorem y9.form(h:y9 w base v l):∃a cap,v=FB a (Lp l) cap/\Lp l<=cap/\cap<=9223372036854775807:=by
 exact Xk
theorem y9.var(h:y9 w base v l):∃a n cap,v=FB a n cap/\e9 (Lp l=n):=by
 obtain⟨a,cap,e,_⟩:=h.form;exact⟨a,_,cap,e,rfl⟩
def dy(h:σ:=by
 simp only[mn]at he;obtain⟨rfl,rfl,rfl⟩:=he;exact⟨h0,m9 _,by omega,λk hk=>absurd hk O⟩
 ):σ:=h
theorem y9.ints{cap:Nat}(h:y9 w base (FB a n cap) l):d6 w a n cap l:=by
 rcases h.2 with⟨he,h0⟩|⟨g,cap',cur,he,_,hg,h1,Z,hs,G⟩
 ·exact dy
 simp only[mn]at he;obtain⟨rfl,rfl,rfl⟩:=he;refine⟨rfl,h1,by simpa[maxLen]using Z,λk hk=>⟨g,0,rfl,λk hk=>?_⟩⟩;rw[fs,UV w g k cur _ (0,0) hg];have:(cur.toList.take (Lp l*1))[k]?=some (U (l[k]?.getD 0)):=by rw[G];simp[hk]
 rw[Ro,i7 O]at this
 simpa using this
theorem y9.lt(h:y9 w base v l):∀k,v.ownBlock=some k->base<=k/\k<w.heap.size:=VW h
def Td(h:σ:=by
 refine⟨h.1,?_⟩;rcases h.2 with hn|⟨g,cap,cur,rfl,hb,K3,rest⟩
 ·exact .inl hn
 ·exact .inr ⟨g,cap,cur,rfl,hb,(hk g rfl).trans K3,rest⟩
 ):σ:=h
theorem y9.keep(h:y9 w base v l)(hk:∀k,v.ownBlock=some k->w'.heap[k]?=w.heap[k]?):y9 w' base v l:=by
 exact Td
theorem y9.ext(h:y9 w base v l)(hx:D4 w w'):y9 w' base v l:=h.keep λk G=>hx.block k (h.lt k G).2
theorem y9.on(h:y9 w base v l):On base w (λW=>y9 W base v l):=λw2 Z=>h.keep λk G=>Z k (h.lt k G).1 (h.lt k G).2
def Sm(h:σ:=by
 refine⟨h.1,?_⟩;rcases h.2 with hn|⟨g,cap,cur,rfl,GY,rest⟩
 ·exact .inl hn
 ·exact .inr ⟨g,cap,cur,rfl,by omega,rest⟩
 ):σ:=h
theorem y9.mono(h:y9 w base v l)(hb:base'<=base):y9 w base' v l:=by
 exact Sm
theorem y9.nil(w:J)(base:Nat):y9 w base d9 []:=T9 w base _ 1
theorem y4{w:J}{base:Nat}:y9 w base d9 []:=y9.nil w base
theorem E8.form(h:E8 w base v vs):∃a cap,v=FB a (Lp vs) cap/\Lp vs<=cap/\cap<=9223372036854775807:=by
 exact Xk
theorem E8.var(h:E8 w base v vs):∃a n cap,v=FB a n cap/\e9 (Lp vs=n):=by
 obtain⟨a,cap,e,_⟩:=h.form;exact⟨a,_,cap,e,rfl⟩
def jj(h:σ:=by
 rcases h.2 with⟨he,h0⟩|⟨g,cap',cur,he,hb,hg,h1,h2,hs,ht⟩
 ·simp only[mn]at he;omega
 ·simp only[mn]at he;obtain⟨rfl,rfl,rfl⟩:=he;refine⟨g,rfl,hb,λk hk=>?_⟩;rw[UV w g k cur _ (0,0) hg];have:(cur.toList.take (vs.length*1))[k]?=vs[k]?:=by rw[ht]
  rw[Ro,i7 O]at this
  simpa using this
 ):σ:=h
theorem E8.cell{cap:Nat}(h:E8 w base (FB a n cap) vs)(hk:k<n):∃g,a=some (IM g 0)/\base<=g/\∀k,k<n->w.cell? (IM g k)=vs[k]?:=by
 exact jj
def Un(h:σ:=by
 obtain⟨a',cap',he,_⟩:=h.form;simp only[mn]at he;exact he.2.1.symm
 ):σ:=h
theorem E8.len{cap:Nat}(h:E8 w base (FB a n cap) vs):Lp vs=n:=by
 exact Un
theorem E8.lt(h:E8 w base v vs):∀k,v.ownBlock=some k->base<=k/\k<w.heap.size:=VW h
theorem E8.keep(h:E8 w base v vs)(hk:∀k,v.ownBlock=some k->w'.heap[k]?=w.heap[k]?):E8 w' base v vs:=by
 exact Td
theorem E8.ext(h:E8 w base v vs)(hx:D4 w w'):E8 w' base v vs:=h.keep λk G=>hx.block k (h.lt k G).2
theorem E8.on(h:E8 w base v vs):On base w (λW=>E8 W base v vs):=λw2 Z=>h.keep λk G=>Z k (h.lt k G).1 (h.lt k G).2
theorem E8.nil(w:J)(base:Nat):E8 w base d9 []:=T9 w base _ 1
def Vy(h:σ:=by
 intro k hk KE;rcases h.2 with⟨rfl,_⟩|⟨g,cap,cur,rfl,_,hg,_⟩
 ·simp[Value.ownBlock]at hk
 ·rcases h'.2 with⟨rfl,_⟩|⟨g',cap',cur',rfl,_,Tj,_⟩
  ·simp[Value.ownBlock]at KE
  simp only[Value.ownBlock,Pi]at hk KE;subst hk KE;rw[hg]at Tj;simp at Tj
 ):σ:=h
theorem y9.apart{G:atY}(h:y9 w base v l)(h':E8 w base' G vs):∀k,v.ownBlock=some k->G.ownBlock≠some k:=by
 exact Vy
section
variable{P:Program}{w:J}{ops:Array Oper}{rest:List Oper}{o:Oper}{a:Act}{Q:Exit->Act->J->Prop}
def V7(h:σ:=by
 rcases Nat.eq_zero_or_pos m with h0|h0
 ·exact h0
 ·obtain⟨b,off,e,_⟩:=Jm.cell 0 h0;cases e
 ):σ:=h
theorem aO{K:Act->J->Prop}(s x:Operand)(ho:o.op=.call { callee:=.builtin .append,args:=#[s,x],argTypes:=#[29,29] })
 (base:Nat) (v:atY) (l:o7) (hs:a.eval s=v) (FW:y9 w base v l) (ao:o6) (m c:Nat) (l':o7) (hx:a.eval x=FB ao m c) (Jm:d6 w ao m c l') (hb:Lp l+m<=1099511627776) (G:base<=w.heap.size)
 (h:∀Z w',y9 w' base Z (l++l')->w.grownBy w' v.ownBlock->Jv w v Z->K (a.put o.dst Z) w'):o.wp prog a w K Q:=by
 have⟨i,hi,Hl,Mh,KZ⟩:=Q0 Tryz.UG;cases ao with
 | none =>
   have hm:m=0:=by
    exact V7
   subst hm;have hl:l'=[]:=Md Jm.hlen;subst hl;refine ij w s x 29 ho base 3 i 1 ny hi v (Lp l) _ hs FW c hx ?_;exact h v w (by simpa using FW) (UH _ _) (Jv.refl _ _)
 | some ad =>
   refine fO w s x 29 ho base 3 i (U 0) 1 8 ny hi Hl Mh KZ rfl FS v (Lp l) (l.map (Value.int .i64)) hs FW ad m c (l'.map (Value.int .i64)) hx (by simp[Jm.hlen]) ?_ ?_ p8 O G ?_
   ·intro j u hu;have hj:j<m:=by
     have:=(Ls.1 hu).1
     simpa[Jm.hlen]using this
    have hj':j<Lp l':=l8 Jm.hlen;have⟨b,off,e,hc⟩:=Jm.cell j hj;simp only[Pi]at e;subst e;have ha:((IM b off):Addr).add j=(IM b (off+j)):=by unfold Addr.add;split<;>simp_all
    rw[ha,hc j hj];simp only[sr,In hj',tv,Pi,NE]at hu⊢;exact hu
   ·intro u hu;obtain⟨z,_,rfl⟩:=xl.1 hu;rfl
   intro Z w' h1 h2 h3;refine h Z w' ?_ h2 h3;unfold y9;rw[ar,Jm.hlen,rN];exact h1
theorem bK(PK:o.guard=none)(s x:Operand)(ho:o.op=.call { callee:=.builtin .append,args:=#[s,x],argTypes:=#[29,29] })
 (base:Nat) (v:atY) (l:o7) (hs:a.eval s=v) (FW:y9 w base v l) (ao:o6) (m c:Nat) (l':o7) (hx:a.eval x=FB ao m c) (Jm:d6 w ao m c l') (hb:Lp l+m<=1099511627776) (G:base<=w.heap.size)
 (h:∀Z w',y9 w' base Z (l++l')->w.grownBy w' v.ownBlock->Jv w v Z->wpList prog ops Q rest (a.put o.dst Z) w'):wpList prog ops Q (o::rest) a w :=
 Vi PK λ_ hK=>aO s x ho base v l hs FW ao m c l' hx Jm hb G λZ w' h1 h2 h3=>hK _ _ (h Z w' h1 h2 h3)
theorem dz{K:Act->J->Prop}(s x:Operand)(ho:o.op=.call { callee:=.builtin .append,args:=#[s,x],argTypes:=#[122,122] })
 (base:Nat) (v:atY) (vs:List atY) (hs:a.eval s=v) (FW:E8 w base v vs) (ad:Addr) (u:atY) (c:Nat) (hx:a.eval x=FB (some ad) 1 c)
 (G:w.cell? ad=some u) (h1c:u.oneCell'=true) (hb:Lp vs<=1099511627775) (Z:base<=w.heap.size)
 (h:∀v' w',E8 w' base v' (vs++[u])->w.grownBy w' v.ownBlock->Jv w v v'->K (a.put o.dst v') w'):o.wp prog a w K Q:=by
 have⟨i,hi,Hl,Mh,KZ⟩:=Q0 Tryz.YP;refine fO w s x 122 ho base 29 i d9 1 24 Tryz.underlying122 hi Hl Mh KZ rfl FS v (Lp vs) vs hs FW ad 1 c [u] hx rfl ?_ ?_ p8 O Z ?_
 ·intro j u' hu
  match j with
  | 0=>simpa[Addr.add]using hu▸G
  | j+1=>simp at hu
 ·intro u' hu;simp only[Nu]at hu;rw[hu];exact h1c
 intro v' w' h1 h2 h3;refine h v' w' ?_ h2 h3;unfold E8;rw[ar];exact h1
theorem fd(PK:o.guard=none)(s x:Operand)(ho:o.op=.call { callee:=.builtin .append,args:=#[s,x],argTypes:=#[122,122] })
 (base:Nat) (v:atY) (vs:List atY) (hs:a.eval s=v) (FW:E8 w base v vs) (ad:Addr) (u:atY) (c:Nat) (hx:a.eval x=FB (some ad) 1 c)
 (G:w.cell? ad=some u) (h1c:u.oneCell'=true) (hb:Lp vs<=1099511627775) (Z:base<=w.heap.size)
 (h:∀v' w',E8 w' base v' (vs++[u])->w.grownBy w' v.ownBlock->Jv w v v'->wpList prog ops Q rest (a.put o.dst v') w'):wpList prog ops Q (o::rest) a w :=
 Vi PK λ_ hK=>dz s x ho base v vs hs FW ad u c hx G h1c hb Z λv' w' h1 h2 h3=>hK _ _ (h v' w' h1 h2 h3)
end
theorem d6.one(w:J)(x:Int)(t:TypeId):d6 (w.alloc (SH #[U x] t)) (some (IM w 0)) 1 1 [x] :=
 ⟨rfl,m9 _,by omega,λk G=>⟨_,0,rfl,λk G=>by
  obtain rfl:k=0:=O
  simp⟩⟩
section
variable{ops:Array Oper}{rest:List Oper}{o:Oper}{a:Act}{Q:Exit->Act->J->Prop}
def Vp(h:σ:=by
 obtain⟨a',n',c',rfl,hn⟩:=ho.var;exact h a' n' c' w' hn (I (aj (HX.trans ZL) hg λj hj=>bR hW (HO.lt j hj).1)) (I ho)
 ):σ:=h
theorem Wp{W wr:J}{b:o6}{n q base g:Nat}{l:o7}{s xo:Operand}{t:TypeId}(x:Int)(HO:e9 (y9 wr base (FB b n q) l))(HX:e9 (D4 W wr))(hb:Lp l+1<=1099511627776)
 (h:∀(a':o6) (n' c':Nat) (w':J),e9 (Lp (l++[x])=n')->e9 (D4 W w')->e9 (y9 w' base (FB a' n' c') (l++[x]))->wpList prog ops Q rest (a.put o.dst (FB a' n' c')) w')
 (G:o.guard=none:=by exact rfl) (ho:o.op=.call { callee:=.builtin .append,args:=#[s,xo],argTypes:=#[29,29] }:=by exact rfl)
 (hs:a.eval s=FB b n q:=by exact rfl) (hx:a.eval xo=GT g 1 1:=by exact rfl) (hg:g=wr.heap.size:=by simp) (hW:W.heap.size<=base:=by first|exact m9 _|omega|(simp<;>omega)) (hB:base<=wr.heap.size+1:=by first|omega|(simp<;>omega)) :
 wpList prog ops Q (o::rest) a (wr.alloc (SH #[U x] t)):=by
 subst hg;refine bK G s xo ho base _ l hs (HO.ext ZL) _ 1 _ [x] hx (d6.one _ _ _) hb t8 λv' w' ho hg _=>?_;exact Vp
end
def Fx(k:Int)(n:Nat):o7:=(List.range n).map λ(i:Nat)=>k+(i:Int)
theorem zg(k:Int)(n:Nat):Lp (Fx k n)=n:=by simp[Fx]
theorem y9.set{g cap:Nat}(h:y9 w base (GT g n cap) l)(k:Nat)(x:Int):
 y9 (w.setCell (IM g k) (U x)) base (GT g n cap) (l.set k x):=by
 obtain⟨a',c',G,_⟩:=y9.form h;simp only[mn]at G;obtain⟨_,rfl,_⟩:=G;have:=(W6 h k (U x)).1;unfold y9;rw[km,List.map_set];exact this
def TQ(h:σ:=by
 rcases h.2 with⟨he,h0⟩|⟨g,cap',cur,he,hb,hg,_⟩
 ·simp only[mn]at he;omega
 ·simp only[mn]at he;obtain⟨rfl,_⟩:=he;exact⟨g,rfl,hb,λj=>fy w g j cur _ hg,IO hg⟩
 ):σ:=h
theorem y9.block{cap:Nat}(h:y9 w base (FB a n cap) l)(hk:k<n):∃g,a=some (IM g 0)/\base<=g/\(∀j,w.frozen? (IM g j)=false)/\g<w.heap.size:=by
 exact TQ
structure bG(w:J)(base:Nat)(vs:List atY)(L:o4):Prop where
 len:vs.length=L.length
 row:∀i,i<L.length->y9 w base (vs[i]?.getD undef) (L[i]?.getD [])
 apart:∀i j k,i<j->j<L.length->(vs[i]?.getD undef).ownBlock=some k->(vs[j]?.getD undef).ownBlock≠some k
theorem bG.keep(h:bG w base vs L)(G:∀i k,i<Lp L->(vs[i]?.getD undef).ownBlock=some k->w'.heap[k]?=w.heap[k]?):bG w' base vs L :=
 ⟨h.len,λi hi=>(h.row i hi).keep λk Z=>G i k hi Z,h.apart⟩
theorem bG.ext(h:bG w base vs L)(hx:D4 w w'):bG w' base vs L :=
 h.keep λi k hi G=>hx.block k ((h.row i hi).lt k G).2
theorem bG.nil(w:J)(base:Nat):bG w base [] []:=⟨rfl,λi hi=>absurd hi j9,λi j k _ G=>absurd G j9⟩
theorem bG.on(h:bG w base vs L):On base w (λW=>bG W base vs L) :=
 λw2 Z=>h.keep λi k hi G=>Z k ((h.row i hi).lt k G).1 ((h.row i hi).lt k G).2
def KI(h:σ:=by
 have h':=h.ext hx;refine⟨by simp[h.len],λi hi=>?_,λi j k Th hj hk=>?_⟩
 ·by_cases hl:i<L.length
  ·rw[nP V6,nP hl];exact h'.row i hl
  have:i=L.length:=by simp at hi;omega
  subst this;rw[<-h.len];simp only[Rx,NE];rw[h.len];simp only[Rx,NE];exact ho.mono hb
 ·by_cases hl:j<L.length
  ·rw[nP Sr]at hk;rw[nP V6];exact h.apart i j k Th hl hk
  have:j=L.length:=by simp at hj;omega
  subst this;rw[nP Sr]at hk;rw[<-h.len];simp only[Rx,NE];intro KE;have h1:=((h.row i O).lt k hk).2;have h2:=(ho.lt k KE).1;omega
 ):σ:=h
theorem bG.snoc(h:bG w base vs L)(hx:D4 w w')(ho:y9 w' w v l)(hb:base<=w.heap.size):bG w' base (vs++[v]) (L++[l]):=by
 exact KI
def bZ(w:J)(base:Nat)(v:atY)(L:o4):Prop:=∃vs,E8 w base v vs/\bG w base vs L
theorem bZ.form(h:bZ w base v L):∃a cap,v=FB a (Lp L) cap/\Lp L<=cap/\cap<=9223372036854775807:=by
 obtain⟨vs,Z,G⟩:=h;have:=Z.form
 rwa [G.len]at this
theorem bZ.var(h:bZ w base v L):∃a n cap,v=FB a n cap/\e9 (Lp L=n):=by
 obtain⟨a,cap,e,_⟩:=h.form;exact⟨a,_,cap,e,rfl⟩
theorem bZ.ext(h:bZ w base v L)(hx:D4 w w'):bZ w' base v L :=
 let⟨vs,h1,h2⟩:=h;⟨vs,h1.ext hx,h2.ext hx⟩
theorem bZ.on(h:bZ w base v L):On base w (λW=>bZ W base v L) :=
 let⟨vs,h1,Z⟩:=h;λG hw=>⟨vs,h1.on G hw,Z.on G hw⟩
theorem bZ.nil(w:J)(base:Nat):bZ w base d9 []:=⟨[],E8.nil w base,bG.nil w base⟩
theorem bZ.Mg{cap:Nat}(h:bZ w base (FB a n cap) L):dD w a n cap L:=by
 have⟨a',G,he,h1,h2⟩:=h.form;simp only[mn]at he;obtain⟨rfl,rfl,rfl⟩:=he;obtain⟨vs,h3,h4⟩:=h;refine⟨rfl,h1,h2,λk Z=>?_⟩;obtain⟨g,rfl,_,hc⟩:=h3.cell Z;refine⟨g,0,rfl,λk Z=>?_⟩;have hv:k<Lp vs:=by rw[h4.len];exact Z
 obtain⟨a',G,hf,_⟩:=(h4.row k Z).form;have ho:=h4.row k Z;rw[hf]at ho;refine⟨a',_,G,?_,ho.ints⟩;rw[fs,hc k Z,<-hf];simp[hv]
def PB:Int->o4->o4
 | _,[]=>[]
 | k,l::L=>Fx k (Lp l)::PB (k+Lp l) L
def Wv(L:o4):Int:=(L.map λl=>(Lp l:Int)).sum
theorem iB:∀(k:Int) (L:o4),Lp (PB k L)=Lp L
 | _,[]=>rfl
 | k,l::L=>by simp[PB,iB]
theorem qv:∀(k:Int) (A B:o4),PB k (A++B)=PB k A++PB (k+Wv A) B
 | k,[],B=>by simp[PB,Wv]
 | k,l::A,B=>by
   simp only[Px,PB,qv _ A B,Wv,Zp,List.sum_cons]
   congr 3
   omega
theorem Qr(k:Int)(L:o4)(i:Nat)(h:i<Lp L):(PB k L)[i]?.getD []=Fx (k+Wv (L.take i)) (Lp (L[i]?.getD [])):=by
 have G:L=L.take i++(L[i]::L.drop (i+1)):=by rw[<-Xd h,YP]
 conv=>lhs;rw[G,qv]
 rw[J1 (by rw[iB];simp;omega),iB];have:i-(List.take i L).length=0:=t8;rw[this];simp[PB,h]
def jO(k:Int)(L:o4)(i:Nat):o4:=PB k (L.take i)++L.drop i
theorem M8(k:Int)(L:o4)(i:Nat)(h:i<=Lp L):Lp (jO k L i)=Lp L:=by simp[jO,iB];omega
theorem Ng(k:Int)(L:o4)(i j:Nat)(h:i<=j)(hj:j<Lp L):(jO k L i)[j]?.getD []=L[j]?.getD []:=by
 unfold jO;rw[J1 (by rw[iB];simp;omega),iB];have:Lp (List.take i L)=i:=t8;rw[this,QL];congr 2;omega
theorem Nt(k:Int)(L:o4)(i i' j:Nat)(h:j<i)(Z:j<i')(hj:j<Lp L):(jO k L i)[j]?.getD []=(jO k L i')[j]?.getD []:=by
 have G:∀i,j<i->(jO k L i)[j]?.getD []=Fx (k+Wv (L.take j)) (Lp (L[j]?.getD [])):=λi h=>by
  unfold jO;rw[nP (by rw[iB];simp;omega),Qr _ _ _ t8,QA,TW O]
  congr 3;rw[Ro,i7 h]
 rw[G i h,G i' Z]
theorem kg.own{b:Nat}(h:kg w b 3 l)(hb:base<=b)(G:Lp l=n)(hm:n<=1099511627776):y9 w base (GT b n n) l:=by
 subst G;refine⟨by simp,.inr ⟨b,Lp l,bF l,rfl,hb,h,?_,?_,?_,?_⟩⟩
 ·omega
 ·simp[maxLen];omega
 ·simp[bF]
 simp[bF,aP]
end
section
section
variable{H:Type}{enc:TypeId×atY->H}{P:Program}{w:J}{base:Nat}{spare:Nat->Bool}{held:Bool}
def Wl(h:σ:=by
 simp at hcs;exact⟨none,0,0,[],hcs,rfl,m9 _,by omega,λk hk=>absurd hk O⟩
 ):σ:=h
theorem El{t e:TypeId}{fuel:Nat}{v:atY}{x:DataW H×List MemPlace}(ht:P.underlying t=some (.slice e))(he:P.underlying e=some (.int .i64))(hc:P.cellsOf e=1)
 (h:DataW.trod enc P w base spare held fuel t [v]=some x):∃a n cap l,v=FB a n cap/\d6 w a n cap l:=by
 rcases open_ints ht he hc h with⟨hcs,_⟩|⟨a,len,cap,zs,hcs,_,hl,hm,hz,_,G,_⟩
 ·exact Wl
 simp at hcs;have hlen:len<=Lp zs:=by rw[hz];split<;>omega
 refine⟨some a,len,cap,zs.take len,hcs,by rw[jt];omega,hl,by simpa[maxLen]using hm,λk hk=>?_⟩;obtain⟨b,off,spot⟩:=a;have h0:=G 0 O;have Z:spot=none:=by simpa[Addr.add]using Rg h0
 subst Z;refine⟨b,off,rfl,λk hk=>?_⟩;have h1:=G k O;have ha:((IM b off):Addr).add k=(IM b (off+k)):=by unfold Addr.add;split<;>simp_all
 rw[ha]at h1;rw[h1];simp[hk]
theorem En{α:Type}[Inhabited α]{E:atY->α->Prop}{t e:TypeId}{fuel:Nat}{v:atY}{x:DataW H×List MemPlace}(Z:P.underlying t=some (.slice e))(hc:P.cellsOf e=1)
 (hE:∀n u y,DataW.trod enc P w base spare held n e [u]=some y->∃z,E u z)
 (h:DataW.trod enc P w base spare held fuel t [v]=some x) :
 ∃(a:o6) (n cap:Nat) (l:List α),v=FB a n cap/\Lp l=n/\n<=cap/\cap<=9223372036854775807/\∀k,k<n->∃b off,a=some (IM b off)/\∀k,k<n->∃u,w.cell? (IM b (off+k))=some u/\E u (l[k]?.getD default):=by
 rcases open_slice1 Z hc h with⟨hcs,_⟩|⟨a,len,cap,m,n,V,D,Pl,hcs,_,hl,hm,QO,_,hx⟩
 ·exact Wl
 simp at hcs;have hlen:len<=m:=by rw[QO];split<;>omega
 have⟨f,hf⟩:=choose_lt (α:=α) (n:=len) (p:=λi z=>E (V i) z) (λi hi=>hE n (V i) _ (hx i O).2);refine⟨some a,len,cap,(List.range len).map f,hcs,by simp,hl,by simpa[maxLen]using hm,λk hk=>?_⟩;obtain⟨b,off,spot⟩:=a;have h0:=(hx 0 O).1;have G:spot=none:=by simpa[Addr.add]using Rg h0
 subst G;refine⟨b,off,rfl,λk hk=>⟨V k,?_,?_⟩⟩
 ·have h1:=(hx k O).1;have ha:((IM b off):Addr).add k=(IM b (off+k)):=by unfold Addr.add;split<;>simp_all
  rwa [ha]at h1
 have:((List.range len).map f)[k]?.getD default=f k:=by simp[hk]
 rw[this];exact hf k hk
end
end
section
def y9.made(w:J)(base:Nat)(hb:base<=w.heap.size):y9 (w.alloc (SH #[] 3)) base (GT w 0 0) [] :=
 nr w #[] 0 hb O rfl
def Y8(h:σ:=by
 have:¬0<n:=λhn=>by obtain⟨b,off,e,_⟩:=h.cell 0 hn;cases e
 exact Md (l8 HL.o)
 ):σ:=h
def cm(h:σ:=by
 go_ret;exact⟨_,rfl,ho,aj ZL hg (λk hk=>sw (iv (show some w.heap.size=some k from hk)))⟩
 ):σ:=h
def A2(h:σ:=by
 simp only[Option.isNone_none]at heq;go_in
 go_wp2;go_ret;exact⟨_,rfl,by rw[hl];exact qq0 w _,So⟩
 ):σ:=h
def kh{w:J}{a:o6}{n cap:Nat}{l:o7}(h:d6 w a n cap l)(hb:n<=1099511627776):
 Calls prog 54 #[FB a n cap] w λe w'=>∃v,e=atn v/\y9 w' w v l/\D4 w w':=by
 have heq:∀w':J,(binOp .eql 29 (FB a n cap) d9).run prog w'=.ok (ato a.isNone) w':=λw'=>Pb w' _ _ a n cap 0 0 ny
 have HL:=I h.hlen;cases a with
 | none =>
   have hl:l=[]:=by
    exact Y8
   have qq0:=@y9.nil;exact A2
 | some ad =>
   simp only[Tg]at heq;have Z:=I (h.alloc (SH #[] 3));have G:=I (y9.made w w (m9 _));go_in
   go_wp2_with (at_builtin;refine bK rfl _ _ rfl w _ _ rfl G.o _ n _ l rfl Z.o T4 j9 ?_;intro v' w1 ho hg r');exact cm
def RE(l:o7)(x:Int):Bool:=l.contains x
def CJ{w:J}{a:o6}{n cap:Nat}{l:o7}(x:Int)(h:d6 w a n cap l):
 Calls prog 303 #[FB a n cap,U x] w λe w'=>e=atn (ato (RE l x))/\w=w':=by
 have⟨hn,hm⟩:=h.ath;go_in
 go_wp2
 go_loop [5] (λi=>∃k:Nat,k<=n/\i=U k/\e9 (RE (l.take k) x=false)) (λi=>n-(intOf i).toNat)
 ·exact⟨0,ef _,rfl,I rfl⟩
 obtain⟨k,hk,rfl,HA⟩:=hrel;by_cases Z:k<n
 ·obtain⟨b,off,rfl,hc⟩:=h.at Z;have G:=I h.hlen;by_cases hb:l[k]?.getD 0=x
  ·have Gm:(l[k]?.getD 0 == x)=true:=by simpa using hb
   have HB:=I hb;go_wp2;go_ret;refine⟨ag ?_,rfl⟩;symm;have GF:k<Lp l:=l8 G.o;have:=HB.o;simp only[GF,In,NE]at this;unfold RE;rw[List.contains_iff_mem];exact this▸cP GF
  have Gm:(l[k]?.getD 0 == x)=false:=by simpa using hb
  have HB:=I hb;go_wp2
  go_round
  case rel=>exact⟨k+1,by omega,by go_num,I (by rw[cD (l8 G.o)];have h1:=HA.o;unfold RE at h1⊢;rw[List.contains_append,h1];simpa using λe=>HB.o e.symm)⟩
  exact k9
 have G:=I h.hlen;go_wp2;go_ret;refine⟨ag ?_,rfl⟩;have:=HA.o;rw[aP (l8 G.o)]at this;exact this.symm
def MR:∀s:Fin 32,∀k:Fin 5,bits .andNot .i64 ((s.val:Nat):Int) (2^k.val)=(if M2 ((s.val:Nat):Int) k.val then((s.val:Nat):Int)-2^k.val else((s.val:Nat):Int))/\(M2 ((s.val:Nat):Int) k.val=true->(2:Int)^k.val<=((s.val:Nat):Int)):=by decide +kernel
def cut(s k:Nat)(hs:s<32)(G:k<5):bits .andNot .i64 (s:Int) (2^k)=(if M2 (s:Int) k then(s:Int)-2^k else(s:Int)):=(MR ⟨s,hs⟩ ⟨k,G⟩).1
def Xp(k:Nat)(h:k<=5)(w:J):Calls prog 176 #[U k] w λe w'=>e=atn (U (2^k))/\w=w':=by
 have:=uJ k w
 rwa [dT k h,oD]at this
end
section
variable{w:J}{n:Nat}{l:o7}
def PD(s:Int)(m:Nat):List Nat:=(List.range m).filter λ(k:Nat)=>M2 s k
def JY(s:Int)(m:Nat):o7:=(PD s m).map λ(k:Nat)=>(k:Int)
theorem lV(s:Int)(m:Nat):JY s (m+1)=JY s m++(if M2 s m then [(m:Int)] else []):=by
 unfold JY PD;cases h:M2 s m<;>simp[mr,h]
theorem rz(s:Int)(m:Nat):Lp (JY s m)<=m:=by
 unfold JY PD
 simpa using Zn (λ(k:Nat)=>M2 s k) (List.range m)
theorem uv(s:Int)(i:Nat)(h:i<Lp (JY s 5)):∃k:Nat,(JY s 5)[i]?.getD 0=(k:Int)/\k<5/\M2 s k=true/\(PD s 5)[i]?=some k:=by
 have G:i<Lp (PD s 5):=by simpa[JY]using h
 refine⟨(PD s 5)[i],?_,?_⟩
 ·simp[JY,G]
 have hm:(PD s 5)[i]∈PD s 5:=cP G;have Z:=UG.1 hm;exact⟨nM.1 Z.1,Z.2,by simp[G]⟩
theorem qr(s:Nat)(hs:s<32)(w:J):
 Calls prog 145 #[U s] w λe w'=>∃v,e=atn v/\y9 w' w v (JY (s:Int) 5)/\D4 w w':=by
 have FA:A8 (s:Int) 0 31=true:=by unfold A8;simp;omega
 have HO:=I (y9.made w w (m9 _));go_in
 go_wp2_with (go_at_call 82;refine cR ns ?_)
 go_loopw [9,3] (λi o wr=>∃(k:Nat) (a1:o6) (n1 c1:Nat),k<=5/\i=U k/\o=FB a1 n1 c1/\e9 (y9 wr w (FB a1 n1 c1) (JY (s:Int) k))/\e9 (D4 w wr)) (λi _ _=>5-(intOf i).toNat)
 ·exact⟨0,_,_,_,ef _,rfl,rfl,HO,I ZL⟩
 obtain⟨k,a1,n1,c1,hk,rfl,rfl,Z,A6⟩:=hrel;have hsz:=A6.size;by_cases hlt:k<5
 ·have HB:=I (dG (s:Int) k O O);cases G:M2 (s:Int) k
  ·rw[G]at HB;have HS:=I G;go_wp2_with (go_at_call 208;refine(il _ _ _ O).mono ?_;rw[HB.o];rintro e w3 ⟨rfl,rfl⟩)
   go_roundw
   case rel=>exact⟨k+1,a1,n1,c1,by omega,by go_num,rfl,I (by rw[lV,HS.o];simpa using Z.o),A6⟩
   exact k9
  rw[G]at HB;have HS:=I G
  go_wp2_with (first
   | (go_at_call 208;refine(il _ _ _ O).mono ?_;rw[HB.o];rintro e w3 ⟨rfl,rfl⟩)
   | (at_builtin;refine bK rfl _ _ rfl w (FB a1 n1 c1) _ rfl (Z.ext ZL) _ 1 _ [(k:Int)] rfl (d6.one _ _ _) (l8 (rz (s:Int) k)) t8 ?_;intro v2 w3 ho hg r';obtain⟨a2,n2,c2,rfl,Jb⟩:=ho.var;have Gh:=I ho;have HG4:=I hg))
  go_roundw
  case rel =>
   refine⟨k+1,a2,n2,c2,by omega,by go_num,rfl,I ?_,I ?_⟩
   ·rw[lV,HS.o];exact Gh
   exact aj (A6.trans ZL) HG4.o (λj hj=>(Z.lt j hj).1)
  exact k9
 have OE:k=5:=O;subst OE;go_wp2;go_ret;exact⟨_,rfl,Z,A6⟩
def Pu(h:σ:=by
 go_in
 go_wp2_with (go_at_call 90;refine p9.mono ?_;rintro e w' ⟨rfl,rfl⟩);go_ret;exact⟨rfl,rfl⟩
 ):σ:=h
theorem EW(s:Int)(w:J):Calls prog 252 #[U s] w λe w'=>e=atn (ato (A8 s 0 31))/\w=w':=by
 exact Pu
def Le(s:Int)(m:Nat):List UInt8:=(PD s m).map λk=>UInt8.ofNat (97+k)
theorem dd(l:List UInt8):(bs l).toList=l:=ByteArray.toList_mk l
theorem DQ(s:Int)(m:Nat):Le s (m+1)=Le s m++(if M2 s m then [UInt8.ofNat (97+m)] else []):=by
 unfold Le PD;rw[mr,Wq,rN];cases hb:M2 s m
 ·simp[WB,hb]
 simp[WB,hb]
theorem yk(s:Int)(m:Nat):Lp (Le s m)<=m:=by
 unfold Le PD;rw[b7];exact bR (Zn _ _) j9
def bJ(s:Int):List UInt8:=if Le s 5=[] then [45] else Le s 5
theorem jJ(s:Int):Lp (bJ s)<=5:=by
 unfold bJ;split
 ·simp
 exact yk s 5
def WE(h:σ:=by
 have h2:Le (s:Int) 5≠[]:=λe=>by rw[HT.o,dd,e]at h;exact absurd h FS
 unfold bJ;rw[f8 h2];exact HT
 ):σ:=h
def Lo(h:σ:=by
 have h2:Le (s:Int) 5=[]:=by rw[HT.o,dd]at h;exact List.isEmpty_iff.1 h
 unfold bJ;rw[i7 h2];rfl
 ):σ:=h
theorem ig(s:Nat)(hs:s<32):
 f9 167 #[U s] w (atr (bs (bJ (s:Int)))):=by
 have FA:A8 (s:Int) 0 31=true:=by unfold A8;simp;omega
 have HG:=I (λw'=>EW (s:Int) w');rw[FA]at HG;unfold f9;go_in
 go_wp2_with rfl;refine(HG _).mono ?_;rintro e w1 ⟨rfl,rfl⟩;go_wp2
 go_loopg [3,4] 5 (λgk oo kk wr=>∃(k:Nat),e9 (gk+k=5)/\kk=U k/\oo=atr (bs (Le (s:Int) k))/\e9 (D4 w wr))
 ·exact⟨0,I rfl,rfl,rfl,I So⟩
 rename Nat=>g1;rename J=>wr;obtain⟨k,HK,rfl,rfl,G⟩:=hrel;have Gq:=I (yk (s:Int) k);by_cases hlt:k<5
 ·refine Fn (bE (s:Int) (k:Int) wr O) (dG (s:Int) k O O) (DQ (s:Int) k) λZ HB HS=>?_;cases hb:M2 (s:Int) k
  ·rw[HB.o,hb]at Z;rw[hb]at HS;go_wp2_with rfl;refine cR Z ?_;go_wp2_with rfl;refine gy ?_;exact⟨k+1,I (l8 HK.o),by go_num,by rw[HS.o];simp,G⟩
  rw[HB.o,hb]at Z;rw[hb]at HS;go_wp2_with rfl;refine cR Z ?_;have akJ:k=0∨k=1∨k=2∨k=3∨k=4:=O;have⟨tx,HT⟩:=Ok (bs (Le (s:Int) k));rw[<-HT.o];have T6:¬9223372036854775807<tx.size+1:=by rw[HT.o,aX];have:=Gq.o;omega
  rcases akJ with rfl|rfl|rfl|rfl|rfl
  all_goals
   go_wp2_with rfl;refine gy ?_;refine⟨_+1,I (l8 HK.o),rfl,?_,G⟩;rw[HS.o,i7 trivial,<-cI,<-HT.o];rfl
 have OE:k=5:=l8 HK.o;subst OE;have⟨tx,Nc⟩:=j7 (bs (Le (s:Int) 5));have HT:=I Nc;rw[<-Nc];clear Nc;go_wp2_with rfl
 ·rename_i h;go_ret;refine⟨cu ?_,G⟩;exact Lo
 rename_i h;go_ret;refine⟨cu ?_,G⟩;exact WE
theorem ie(s:Nat)(hs:s<32):
 f9 70 #[U s] w (atr (bs (bJ (s:Int)))):=by
 have FA:A8 (s:Int) 0 31=true:=by unfold A8;simp;omega
 have HM:=I (qr s hs w);have⟨L,hL⟩:=j7 (JY (s:Int) 5);have HLE:=I (show Le (s:Int) 5=L.map (λk=>UInt8.ofNat (97+k.toNat))by
  rw[hL];unfold JY Le;rw[PX];rfl)
 have Gq:=I (show Lp L<=5 by rw[hL];exact rz _ _)
 have Hj:=I (show∀i,i<Lp L->∃k:Nat,L[i]?.getD 0=(k:Int)/\k<5 from λi hi=>by
  rw[hL]at hi⊢;obtain⟨k,h1,h2,_⟩:=uv (s:Int) i hi;exact⟨k,h1,h2⟩)
 rw[<-hL]at HM;clear hL;unfold f9;go_in
 go_wp2_with (go_at_call 82;refine cR ns ?_;rw[FA]);refine yf HM λw1 v ho hx=>?_;obtain⟨a1,G,c1,rfl,HN⟩:=ho.var;have HI:=I ho.ints;have LU:G<=5:=by have:=HN.o;have:=Gq.o;omega
 have A6:=I hx;clear hx;go_wp2
 go_loopg [3,12] G (λgk oo kk wr=>∃(k:Nat),e9 (gk+k=G)/\kk=U k/\oo=atr (bs ((L.map (λk=>UInt8.ofNat (97+k.toNat))).take k))/\e9 (D4 w1 wr))
 ·exact⟨0,I O,rfl,rfl,I So⟩
 rename Nat=>g1;rename J=>wr;obtain⟨k,HK,rfl,rfl,HX⟩:=hrel;by_cases hlt:k<G
 ·obtain⟨b,off,rfl,hc⟩:=(HI.ext HX).at hlt;have⟨j,hj,hj5⟩:=Hj.o k UK;rw[hj]at hc;have IG:=SW k G;have MI:=aE k;have⟨x,hx⟩:=j7 (UInt8.ofNat (97+j));have⟨M,hM⟩:=j7 (L.map (λk=>UInt8.ofNat (97+k.toNat)));have Wx:=I (show M.take (k+1)=M.take k++[x]by
   have GF:k<Lp M:=by rw[hM,b7,HN.o];exact hlt
   rw[tn GF];have Z:k<Lp L:=by rw[HN.o];exact hlt
   have h1:L[k]=(j:Int):=by rw[In Z,NE]at hj;exact hj
   simp only[hM,gz,h1,hx,eI])
  have PF:IntKind.u8.wrap (97+(j:Int))=97+(j:Int):=by rw[UU];omega
  have IL:=dc (97+(j:Int));have hcv:=kP (w:=wr) x (y:=97+(j:Int)) (by rw[hx,Sh];omega);have T6:¬9223372036854775807<(bs (M.take k)).size+(bs [x]).size:=by
   rw[aX,aX];have:Lp (M.take k)<=k:=by rw[jt];omega
   simp;omega
  rw[<-hM];have HA:=I (cI (M.take k) [x]);have MQ:=I hM;clear hx hM;go_wp2_with rfl;rw[HA.o];refine gy ?_;exact⟨k+1,I (l8 HK.o),by go_num,by rw[<-MQ.o,Wx.o],I (HX.trans ZL)⟩
 have E':G=k:=l8 HK.o;subst E';have⟨tx,Nc⟩:=j7 (bs ((L.map (λk=>UInt8.ofNat (97+k.toNat))).take G));have HT:=I (show tx=bs (Le (s:Int) 5)by rw[Nc,HLE.o,aP (by rw[b7,HN.o];omega)]);rw[<-Nc];clear Nc;go_wp2_with rfl
 ·rename_i h;go_ret;refine⟨cu ?_,A6.trans HX.o⟩;exact Lo
 rename_i h;go_ret;refine⟨cu ?_,A6.trans HX.o⟩;exact WE
theorem kX {w: J}(n : Int)(h0 : -1000000000000000000 <= n)(h1 : n <= 1000000000000000000)(ht : tIw w) :
 f9 144 #[U n] w (atr (bs (Lib.itoa n))):=by
 have HC:=I (Any.strconv_Itoa xY n O O w ht);unfold f9;go_in
 go_wp2_with rfl;refine HC.mono ?_;rintro e w' ⟨rfl,k,os,rfl⟩;have HX:e9 (D4 w _):=Lib.below_grow _ w (m9 _) k os;exact Vn
theorem uR(h:n<=1000000000000000000):Lp (Lib.decDigits n)<=21:=by
 have:=WZ (n:Int) O O
 rwa [Vd]at this
theorem pl(n:Nat)(hn:n<=1000000000000000000):
 f9 51 #[U n] w (atr (bs (Lib.decDigits n))):=by
 by_cases h0:n=0
 ·exact N9
 have hz:((n:Int) == 0)=false:=t8;have af6:¬(n:Int)<0:=O;have HL:=I (uR hn);have HD:=I (show KM n++[]=Lib.decDigits n by unfold KM;rw[f8 h0,D0]);unfold f9;go_in
 go_wp2
 go_loopg [0,4] n (λgk nn Z wr=>∃(m:Nat) (l:List UInt8),e9 (m<=gk)/\nn=U m/\Z=atr (bs l)/\e9 (KM m++l=Lib.decDigits n)/\e9 (D4 w wr)/\e9 (m<=1000000000000000000))
 ·exact tz
 rename Nat=>g1;rename J=>wr;obtain⟨m,l,HM,rfl,rfl,WA,HX,G⟩:=hrel;by_cases Rw:m=0
 ·exact SZ
 have QO:((m:Int) != 0)=true:=t8;have hm6:m<=1000000000000000000:=G.o;exact XW
def Va(h:σ:=by
 go_wp2_with rfl;rw[HA.o];refine Sp ?_;exact⟨q,[x]++l,I (l8 HM.o),rfl,rfl,I (by rw[<-vl,<-HS.o];exact WA),I (HX.trans ZL),I O⟩
 ):σ:=h
theorem pi(n:Nat)(h1n:1<=n)(hn:n<=1000000000000000000):
 f9 51 #[U (-(n:Int))] w (atr (bs (45::Lib.decDigits n))):=by
 have hz:(-(n:Int) == 0)=false:=t8;have af6:-(n:Int)<0:=O;have HL:=I (uR hn);have HD:=I (show KM n++[]=Lib.decDigits n by unfold KM;rw[f8 O,D0]);unfold f9;go_in
 go_wp2
 go_loopg [0,4] n (λgk nn oo wr=>∃(m:Nat) (l:List UInt8),e9 (m<=gk)/\nn=U (-(m:Int))/\oo=atr (bs l)/\e9 (KM m++l=Lib.decDigits n)/\e9 (D4 w wr)/\e9 (m<=1000000000000000000))
 ·exact tz
 rename Nat=>g1;rename J=>wr;obtain⟨m,l,HM,rfl,rfl,WA,HX,HMB⟩:=hrel;have T5:Lp l<=21:=by
  have h1:=HL.o;rw[<-WA.o,ar]at h1;omega
 by_cases Rw:m=0
 ·subst Rw;have G:(-((0:Nat):Int) != 0)=false:=by decide
  have HF:=I (show(⟨#[45]⟩:ByteArray)++bs l=bs (45::Lib.decDigits n)by rw[<-WA.o];exact cI [45] l);have T6:¬9223372036854775807<(⟨#[45]⟩:ByteArray).size+(bs l).size:=by rw[aX];show¬9223372036854775807<1+Lp l;omega
  go_wp2;go_ret;exact⟨cu HF.o,HX⟩
 have QO:(-(m:Int) != 0)=true:=t8;have hm6:m<=1000000000000000000:=HMB.o;have T3:Int.tmod (-(m:Int)) 10=-((m % 10:Nat):Int):=by rw[Int.neg_tmod,u' O];omega
 have hdiv:Int.tdiv (-(m:Int)) 10=-((m/10:Nat):Int):=by rw[XK,TA O];omega
 have⟨d,hd⟩:=j7 (m % 10);have⟨q,Z⟩:=j7 (m/10);rw[<-hd]at T3;rw[<-Z]at hdiv;have hd10:d<10:=O;have⟨x,hx⟩:=j7 (UInt8.ofNat (48+d));have HS:=I (show KM m=KM q++[x]by rw[hx,hd,Z];exact oK Rw);have hqm:q<m:=O;have PF:IntKind.u8.wrap (48+(d:Int))=48+(d:Int):=by rw[UU];omega
 have IL:=dc (48+(d:Int));have hwq:=dc (-(q:Int));have Nq:=I (show(x.toNat:Int)=48+(d:Int)by rw[hx,Sh];omega);have T6:¬9223372036854775807<(bs [x]).size+(bs l).size:=by rw[aX,aX];simp;omega
 have HA:=I (cI [x] l);clear Z hx;by_cases Pe:d=0
 ·subst Pe;have hw0:IntKind.i64.wrap (-((0:Nat):Int))=((0:Nat):Int):=by decide
  have hdn:¬((0:Nat):Int)<0:=O;have G:Int.tmod (-(m:Int)) 10=((0:Nat):Int):=by rw[T3];rfl
  have hcv:=kP (w:=wr) x (y:=48) (l8 Nq.o);clear hd;exact Va
 have hdn:-(d:Int)<0:=O;have hwd:=dc (-(d:Int));have Q':=qj (0 - -(d:Int)) (d:Int);have hcv:=kP (w:=wr) x (y:=48+(d:Int)) Nq.o;clear hd;exact Va
theorem iX(n:Int)(h0:-1000000000000000000<=n)(h1:n<=1000000000000000000):
 f9 51 #[U n] w (atr (bs (Lib.itoa n))):=by
 by_cases hn:n<0
 ·obtain⟨k,rfl⟩:∃k:Nat,n=-(k:Int):=⟨n.natAbs,by omega⟩;rw[Lib.itoa_neg k O];exact pi k O O
 obtain⟨k,rfl⟩:∃k:Nat,n=(k:Int):=⟨n.toNat,by omega⟩;rw[Vd];exact pl k O
def ak(p:Int)(l:o7):Bool:=l.all (λx=>A8 x (-500) 500)&&(A8 p 1 5&&(decide ((Lp l:Int)=Gg p)&&decide (l[0]?.getD 0=0)))
theorem ap{p:Int}(h:ak p l=true):∃n:Nat,p=n/\1<=n/\n<=5/\Lp l=cN n/\l[0]?.getD 0=0/\∀x∈l,-500<=x/\x<=500:=by
 unfold ak at h;simp only[cM,cq]at h;obtain⟨ha,G,Z,h0⟩:=h;have hb:1<=p/\p<=5:=by unfold A8 at G;simpa using G
 refine⟨p.toNat,by omega,by omega,by omega,?_,h0,?_⟩
 ·have:p=(p.toNat:Int):=by omega
  rw[this,dT _ O]at Z;omega
 intro x hx;have:=fp.1 ha x hx;unfold A8 at this
 simpa using this
theorem bY{p:Int}{a:o6}{cap:Nat}(h:d6 w a n cap l):
 f9 96 #[Id p a n cap] w (ato (ak p l)):=by
 have h1:=h.alloc (SH #[U p,FB a n cap] 31);have⟨hn,hm⟩:=h.ath;have HL:=I h.hlen;unfold f9;go_in
 go_wp2
 go_loop [3] (λi=>∃k:Nat,k<=n/\i=U k/\(l.take k).all (λx=>A8 x (-500) 500)=true) (λi=>n-(intOf i).toNat)
 ·exact Qc
 obtain⟨k,hk,rfl,Z⟩:=hrel;have HA:=I Z;by_cases hlt:k<n
 ·obtain⟨b,off,rfl,hc⟩:=h1.at hlt;cases hb:A8 (l[k]?.getD 0) (-500) 500
  ·have HB:=I hb;go_wp2_with (go_at_call 90;refine cR p9 ?_);go_ret;refine⟨ag ?_,ZL⟩
   symm;unfold ak;cases hx:l.all (λx=>A8 x (-500) 500)
   ·rfl
   have:=tU hx (k:=k) (l8 HL.o);rw[HB.o]at this;cases this
  have HB:=I hb;go_wp2_with (go_at_call 90;refine cR p9 ?_)
  go_round
  case rel=>exact hY
  exact k9
 have E':k=Lp l:=l8 HL.o;have Z:=HA.o;rw[E',Wt]at Z;have S2:=I Z;cases G:A8 p 1 5
 ·have HP:=I G;go_wp2
  go_quiet ((first|(go_at_call 90;exact be p9)|(go_at_call 91;exact be (dp _ _))))
  go_wp2;go_ret;exact⟨ag (by unfold ak;rw[S2.o,HP.o];rfl),y6 ZL _⟩
 have HP:=I G;cases hl:((n:Int) == Gg p)
 ·have HE:=I hl;go_wp2
  go_quiet ((first|(go_at_call 90;exact be p9)|(go_at_call 91;exact be (dp _ _))))
  go_wp2;go_ret;refine⟨ag ?_,y6 ZL _⟩;have:¬((Lp l:Int)=Gg p):=by rw[HL.o];have:=HE.o;simpa using this
  unfold ak;rw[RK this];simp
 have HE:=I hl;have J4:0<n:=by
  have h1:1<=p/\p<=5:=by unfold A8 at G;simpa using G
  have h2:(n:Int)=Gg p:=by simpa using hl
  unfold Gg at h2;rw[i7 q7]at h2;have:=fk p.toNat;omega
 obtain⟨b,off,rfl,hc⟩:=h1.at J4;rw[wA]at hc;go_wp2
 go_quiet ((first|(go_at_call 90;exact be p9)|(go_at_call 91;exact be (dp _ _))))
 go_wp2;go_ret;refine⟨ag ?_,y6 ZL _⟩;have he:(Lp l:Int)=Gg p:=by rw[HL.o];have:=HE.o;simpa using this
 unfold ak;rw[S2.o,HP.o,bl he];rw[uu];simp
theorem uj(x:Int)(w:J):Calls prog 154 #[U x] w λe w'=>e=atn (ato (!A8 x (-500) 500))/\w=w':=by
 exact YW
theorem sF:Rd prog 154:=cE func154 k8 k8
theorem pX(w:J):O4 prog w 154 #[] (λx=>!A8 x (-500) 500) :=
 λx G _=>(uj x G).mono λe w' ⟨Z,hw⟩=>⟨Z,hw▸So⟩
theorem kj(p:Int)(l:o7):ak p l=(A8 p 1 5&&(decide ((Lp l:Int)=Gg p)&&(decide (l[0]?.getD 0=0)&&!l.any (λx=>!A8 x (-500) 500)))):=by
 unfold ak;have:(!l.any (λx=>!A8 x (-500) 500))=l.all (λx=>A8 x (-500) 500):=by rw[Y4];simp
 rw[this];cases l.all (λx=>A8 x (-500) 500)<;>simp
theorem bV{p:Int}{a:o6}{cap:Nat}(h:d6 w a n cap l):
 f9 84 #[Id p a n cap] w (ato (ak p l)):=by
 have h1:=h.alloc (SH #[U p,FB a n cap] 31);have HX:=I (D4.alloc w (SH #[U p,FB a n cap] 31));have⟨hn,hm⟩:=h.ath;have HL:=I h.hlen;clear h;cases G:A8 p 1 5
 ·have HP:=I G;unfold f9;go_in
  go_wp2
  go_quiet ((go_at_call 82;exact be ns))
  go_wp2;go_ret;exact⟨ag (by rw[kj,HP.o];rfl),y6 ZL _⟩
 have HP:=I G;obtain⟨m,rfl⟩:∃m:Nat,p=m:=⟨p.toNat,by unfold A8 at G;simp at G;omega⟩;have Qr:1<=m/\m<=5:=by unfold A8 at G;simp at G;omega
 obtain⟨Qr,Og⟩:=Qr;have hwp:IntKind.i64.wrap ((2:Int)^m)=(cN m:Int):=by
  have h1:=fk m;have h2:=gG m Og;rw[j0,oD];omega
 have hwp':wrap64 ((2:Int)^m)=(cN m:Int):=(rU m Og).trans (oD m).symm;have HC:=I (dT m Og);have hN:=bp m Og;cases hl:((n:Int) != (cN m:Int))
 ·have Z:n=cN m:=Int.ofNat.inj (show(n:Int)=(cN m:Int)by simpa using hl);have HNM:=I Z;have J4:0<n:=by omega
  obtain⟨b,off,rfl,hc⟩:=h1.at J4;rw[wA]at hc;clear Z;cases h0:(l[0]?.getD 0 != 0)
  ·have HZ:=I h0;have HI:=I h1;unfold f9;go_in
   go_wp2
   go_quiet ((go_at_call 82;exact be ns))
   go_wp2_with rfl;refine i6 (dJ (HI.drewN _) sF (pX _)) λw1 hx=>?_;go_wp2;go_ret;refine⟨ag ?_,D4.trans (y6 HX.o _) hx⟩;rw[kj,HP.o,HC.o,HL.o,HNM.o,bl rfl];have:l[0]?.getD 0=0:=by simpa using HZ.o
   rw[bl this];rfl
  have HZ:=I h0;unfold f9;go_in
  go_wp2
  go_quiet ((go_at_call 82;exact be ns))
  go_wp2;go_ret;refine⟨ag ?_,y6 HX.o _⟩;have:¬(l[0]?.getD 0=0):=by simpa using HZ.o
  rw[kj,RK this];simp
 have NZ:=I hl;unfold f9;go_in
 go_wp2
 go_quiet ((go_at_call 82;exact be ns))
 go_wp2;go_ret;refine⟨ag ?_,y6 HX.o _⟩;have:¬((Lp l:Int)=Gg (m:Int)):=by rw[HL.o,HC.o];have:=NZ.o;simpa using this
 rw[kj,RK this];simp
