import Derived.Test.YtdadoignenffgaaGreatDoorProg
import Derived.WalkKit
import Derived.WalkSpells
import Derived.WalkLawsBesides
import Derived.Lib.Hide
import Derived.Deep.QuietTactic
import Derived.BigQuiet
import Derived.Deep.RegionHeld3
set_option linter.unusedVariables false
set_option linter.unusedSimpArgs false
namespace Go.Proofs.YtdadoignenffgaaGreatDoor
open Go.RowKit
abbrev ao:=@Nat.le_refl
abbrev bk:=@List.getElem?_eq_getElem
abbrev bA:=@Option.some.injEq
abbrev bB:=@heap_setCell_other
abbrev bR:=@bodyPost_ret
abbrev cn:=@IntKind.wrap_i64
abbrev hD:=@if_neg
abbrev hI:=@if_pos
abbrev l':=@Option.getD_some
abbrev mq:=@Addr.mk.injEq
abbrev mr:=@lt_of_block
abbrev pk:=@List.length_append
abbrev p4:=@List.take_of_length_le
abbrev rN:=@wp_region_held_drew
abbrev sd:=@frozen_of_row
abbrev sw:=@decide_eq_true_eq
abbrev ta:=@heap_setCell_same
abbrev tn:=@cell_of_row
abbrev u':=@decide_eq_false
abbrev vl:=@List.getElem_mem
abbrev xf:=@Bool.and_eq_true
abbrev zo:=@List.length_map
abbrev zz:=@and_true
abbrev z':=@decide_eq_true
abbrev Cj:=@Nat.le_succ
abbrev CI:=@Int.toNat_natCast
abbrev C':=@Value.slice.injEq
abbrev Di:=@List.all_eq_true
abbrev DZ:=@List.getElem?_set_ne
abbrev Ep:=@List.getElem?_append_left
abbrev EE:=@of_decide_eq_true
abbrev FX:=@List.length_take
abbrev Gh:=@wpAnyH_done
abbrev G3:=@Option.bind_some
abbrev G4:=@List.getElem?_eq_none
abbrev H3:=@List.getElem?_set_self
abbrev H4:=@List.length_set
abbrev Jr:=@congrArg
abbrev JH:=@And.intro
abbrev Kn:=@List.take_succ_eq_append_getElem
abbrev Kq:=@World.block_lt_of_cell?
abbrev KJ:=@Nat.zero_le
abbrev Lj:=@List.eq_nil_of_length_eq_zero
abbrev L':=@heap_alloc_new
abbrev Mf:=@Nat.zero_add
abbrev MD:=@List.getElem?_map
abbrev N7:=@List.append_assoc
abbrev Og:=@Option.some.inj
abbrev OX:=@List.length_cons
abbrev O5:=@List.length_replicate
abbrev RI:=@List.getElem?_eq_some_iff
abbrev RN:=@List.all_append
abbrev SC:=@Nat.le_trans
abbrev S4:=@List.mem_range
abbrev Tc:=@Option.map_some
abbrev TP:=@List.range_succ
abbrev U9:=@Bool.eq_iff_iff
abbrev U':=@Option.map_eq_some_iff
abbrev Vy:=@List.getElem?_append_right
abbrev V4:=@World.size_alloc
abbrev We:=@List.map_append
abbrev Xm:=@List.getElem?_cons_zero
abbrev Y4:=@Nat.mul_le_mul
abbrev Y':=@List.getElem?_concat_length
abbrev ZR:=@List.append_nil
abbrev aaa:=@Option.getD_none
abbrev aac:=@below_drewN
abbrev aad:=@Bool.true_and
abbrev aae:=@List.getElem?_cons_succ
abbrev aaf:=@List.mem_of_getElem?
abbrev aag:=@List.findIdx?_eq_some_iff_getElem
abbrev aah:=@Rat.intCast_mul
abbrev aai:=@List.mem_map
abbrev aaj:=@List.length_drop
abbrev aak:=@List.getElem?_range
abbrev aam:=@cell_of_one
abbrev aan:=@Tryz.underlying26
abbrev aao:=@List.getElem?_take
abbrev aap:=@List.length_nil
abbrev aaq:=@Tryz.underlying9
abbrev aar:=@List.flatMap_cons
abbrev aas:=@Nat.le_of_eq
abbrev aav:=@List.mem_singleton
abbrev aaw:=@List.not_any_eq_all_not
abbrev aax:=@Ne.symm
abbrev aay:=@decide_eq_false_iff_not
abbrev aaz:=@List.not_mem_nil
abbrev aaA:=@List.replicate_succ'
abbrev aaB:=@List.ext_getElem
abbrev aaC:=@World.ownsRow_nil
abbrev aaD:=@Tryz.underlying53
abbrev aaE:=@List.cons_append
abbrev aaF:=@results_none
abbrev aaG:=@Prod.mk.injEq
abbrev aaH:=@World.ownsRow.stored
abbrev aaI:=@List.getElem?_replicate
abbrev aaJ:=@Or.inl
abbrev aaL:=@List.mem_cons
abbrev aaM:=@Int.tdiv_eq_ediv_of_nonneg
abbrev aaN:=@List.take_length
abbrev aaO:=@Int.natAbs_mul
abbrev aaR:=@Bool.and_eq_false_iff
abbrev aaS:=@List.getElem?_drop
abbrev aaT:=@UInt8.toNat_ofNat'
abbrev aaU:=@Classical.byContradiction
abbrev aaV:=@Int.mul_tdiv_cancel_left
abbrev aaW:=@Int.tdiv_neg
abbrev aaX:=@List.nil_append
abbrev aaY:=@World.ownsRow_lit
abbrev aaZ:=@Tryz.ntmps130
abbrev aa0:=@Rat.mul_le_mul_of_nonneg_left
abbrev aa1:=@List.getElem_mapIdx
abbrev aa2:=@Int.mul_nonneg
abbrev aa3:=@List.take_take
abbrev aa4:=@Tryz.underlying5
abbrev aa5:=@Nat.lt_of_lt_of_le
abbrev aa6:=@Int.neg_tdiv
abbrev aa7:=@Option.isSome_some
abbrev aa8:=@List.filter_append
abbrev aa9:=@Tryz.func130
abbrev aa':=@List.mem_append
abbrev aba:=@Int.mul_ne_zero
abbrev abb:=@List.length_singleton
abbrev abc:=@Tryz.results123
abbrev abd:=@Tryz.results129
abbrev abe:=@Int.tmod_eq_emod_of_nonneg
abbrev abf:=@Int.eq_of_mul_eq_mul_right
abbrev abg:=@List.all_eq_false
abbrev abh:=@List.findIdx?_eq_none_iff
abbrev abi:=@BitVec.ofInt_natCast
abbrev abj:=@List.mem_cons_of_mem
abbrev abk:=@if_true
abbrev abl:=@AllReadyH.cons
abbrev abm:=@Tryz.results44
abbrev abn:=@Tryz.results80
abbrev abo:=@Bool.not_eq_true
abbrev abp:=@List.any_eq_true
abbrev abq:=@Nat.mod_eq_of_lt
abbrev abr:=@Tryz.underlying4
abbrev abt:=@beq_eq_false_iff_ne
abbrev abu:=@Nat.Coprime.dvd_of_dvd_mul_left
abbrev abv:=@BitVec.toNat_ofNat
abbrev abw:=@Nat.min_eq_left
abbrev abx:=@List.mem_cons_self
abbrev aby:=@IntKind.wrap_u8
abbrev abz:=@Tryz.results107
abbrev abA:=@Rat.intCast_le_intCast
abbrev abB:=@List.foldl_append
abbrev abC:=@Tryz.underlying30
abbrev abD:=@Tryz.underlying42
abbrev abE:=@List.map_map
abbrev abF:=@List.set_append_right
abbrev abG:=@List.length_filter_le
abbrev abH:=@Bool.false_and
abbrev abI:=@List.dropLast_concat_getLast
abbrev abJ:=@Lib.run_eql_slice_nil
abbrev abK:=@Tryz.results31
abbrev abL:=@Tryz.results35
abbrev abM:=@Tryz.results26
abbrev abN:=@Tryz.results19
abbrev abO:=@Tryz.results22
abbrev abP:=@List.getElem_map
abbrev abQ:=@World.ownsRow.lt
abbrev abR:=@Tryz.underlying3
abbrev abS:=@Tryz.ntmps144
abbrev abT:=@List.map_congr_left
abbrev abU:=@List.mem_take_iff_getElem
abbrev abV:=@UInt8.toNat_inj
abbrev abW:=@Tryz.results231
abbrev abX:=@Tryz.results235
abbrev abZ:=@List.set_cons_zero
abbrev ab0:=@Option.isNone_none
abbrev ab1:=@Option.isNone_some
abbrev ab2:=@Nat.sub_self
abbrev ab3:=@Nat.add_zero
abbrev ab4:=@Nat.succ_mul
abbrev ab5:=@Nat.lt_or_ge
abbrev ab6:=@of_decide_eq_false
abbrev ab7:=@List.getElem?_take_of_lt
abbrev ab8:=@bodyPost_end
abbrev ab9:=@Tryz.func144
abbrev ab':=@Tryz.ntmps31
abbrev aca:=@Tryz.ntmps35
abbrev acb:=@Below.refl
abbrev acd:=@Tryz.results37
abbrev ace:=@Tryz.results28
abbrev acf:=@Tryz.results15
abbrev acg:=@List.length_range
abbrev ach:=@Or.inr
abbrev aci:=@run_convert_bytes_back
abbrev acj:=@Tryz.func31
abbrev ack:=@Tryz.func35
abbrev acm:=@Tryz.ntmps123
abbrev acn:=@Tryz.ntmps219
abbrev aco:=@Tryz.ntmps128
abbrev acp:=@List.getElem_set
abbrev acq:=@true_and
abbrev acr:=@List.countP_le_length
abbrev acs:=@List.eq_replicate_iff
abbrev acu:=@Int.natAbs_tmod
abbrev acv:=@Int.natCast_mul
abbrev acw:=@Nat.mul_comm
abbrev acx:=@Int.mul_comm
abbrev acy:=@List.contains_eq_mem
abbrev acz:=@Nat.pow_le_pow_right
abbrev acA:=@List.mem_of_mem_take
abbrev acB:=@Tryz.func123
abbrev acC:=@Tryz.ntmps44
abbrev acD:=@Tryz.ntmps73
abbrev acE:=@Tryz.func219
abbrev acF:=@Tryz.results197
abbrev acG:=@Region.noSelect_spec
abbrev acH:=@Tryz.func128
abbrev acI:=@Tryz.results176
abbrev acJ:=@Tryz.results243
abbrev acK:=@Tryz.zeroValue3
abbrev acL:=@Tryz.zeroValue4
abbrev acM:=@Tryz.zeroValue9
abbrev acN:=@Tryz.ntmps16
abbrev acO:=@List.getElem_of_mem
abbrev acP:=@List.flatMap_append
abbrev acQ:=@Tryz.results70
abbrev acR:=@Tryz.results47
abbrev acS:=@Tryz.results21
abbrev acT:=@Tryz.func44
abbrev acU:=@Tryz.func73
abbrev acV:=@Tryz.func16
abbrev acW:=@Nat.eq_zero_or_pos
abbrev acX:=@Int.emod_lt_of_pos
abbrev acY:=@Nat.lt_or_gt_of_ne
abbrev acZ:=@Option.isSome_none
abbrev ac0:=@List.map_singleton
abbrev ac1:=@List.length_mapIdx
abbrev ac2:=@Nat.add_sub_cancel
abbrev ac3:=@List.all_replicate
abbrev ac4:=@World.grownBy.refl
abbrev ac5:=@List.all_cons
abbrev ac6:=@AllReadyH.nil
abbrev ac7:=@Tryz.ntmps236
abbrev ac8:=@Tryz.ntmps231
abbrev ac9:=@Tryz.ntmps172
abbrev ac':=@Tryz.ntmps108
abbrev ada:=@Tryz.ntmps118
abbrev adb:=@Tryz.ntmps158
abbrev ade:=@Tryz.underlying35
abbrev adf:=@info_parts
abbrev adg:=@or_false
abbrev adh:=@Int.lt_or_le
abbrev adi:=@List.mem_flatMap
abbrev adj:=@List.filter_cons
abbrev adk:=@List.isEmpty_iff
abbrev adl:=@wpAnyH_ready
abbrev adm:=@wpList_plain
abbrev adn:=@Tryz.ntmps64
abbrev ado:=@Tryz.func238
abbrev adp:=@Tryz.func236
abbrev adq:=@Tryz.func231
abbrev adr:=@Region.free_spec
abbrev ads:=@Tryz.func172
abbrev adt:=@Tryz.func108
abbrev adu:=@Tryz.sizeOf3
abbrev adv:=@Tryz.sizeOf4
abbrev adw:=@Tryz.sizeOf9
abbrev adx:=@Tryz.func118
abbrev ady:=@Tryz.ntmps60
abbrev adz:=@Tryz.ntmps58
abbrev adA:=@Tryz.func158
abbrev adB:=@Tryz.func208
abbrev adC:=@Int.natAbs_tdiv
abbrev adD:=@Nat.div_le_self
abbrev adE:=@Int.emod_nonneg
abbrev adF:=@List.mem_filter
abbrev adG:=@List.foldl_cons
abbrev adH:=@Result.ok.injEq
abbrev adI:=@Tryz.results138
abbrev adJ:=@Tryz.results237
abbrev adK:=@Tryz.results223
abbrev adL:=@Tryz.results253
abbrev adM:=@Tryz.results242
abbrev adN:=@Tryz.results251
abbrev adO:=@Obj.cells.injEq
abbrev adP:=@Tryz.results146
abbrev adQ:=@Tryz.func64
abbrev adR:=@Tryz.isAgg3
abbrev adS:=@Tryz.isAgg4
abbrev adT:=@Tryz.isAgg9
abbrev adU:=@Tryz.func60
abbrev adV:=@Tryz.func58
abbrev adW:=@free_of_one
abbrev adX:=@run_underlying
abbrev adY:=@Tryz.results76
abbrev adZ:=@Tryz.results48
abbrev ad0:=@Tryz.results54
abbrev ad1:=@Tryz.func5
abbrev ad2:=@List.map_cons
abbrev ad3:=@Bool.and_comm
abbrev ad4:=@Tryz.ntmps131
abbrev ad5:=@Tryz.ntmps103
abbrev ad6:=@Tryz.ntmps138
abbrev ad7:=@Tryz.ntmps237
abbrev ad8:=@Tryz.ntmps223
abbrev ad9:=@Tryz.ntmps253
abbrev ad':=@Tryz.ntmps242
abbrev aea:=@Tryz.ntmps133
abbrev aeb:=@Tryz.ntmps238
abbrev aec:=@Below.setCell
abbrev aed:=@Tryz.ntmps233
abbrev aee:=@Tryz.ntmps235
abbrev aef:=@Tryz.ntmps194
abbrev aeg:=@Tryz.ntmps196
abbrev aeh:=@Tryz.ntmps177
abbrev aei:=@Tryz.ntmps110
abbrev aek:=@Tryz.ntmps208
abbrev ael:=@Tryz.ntmps146
abbrev aem:=@List.all_nil
abbrev aen:=@List.set_set
abbrev aeo:=@Tryz.func131
abbrev aep:=@Tryz.func103
abbrev aeq:=@Tryz.ntmps76
abbrev aer:=@Tryz.ntmps48
abbrev aes:=@Tryz.func138
abbrev aet:=@Tryz.func237
abbrev aeu:=@Tryz.func223
abbrev aev:=@Tryz.func253
abbrev aew:=@Tryz.func242
abbrev aex:=@Tryz.func133
abbrev aey:=@Tryz.ntmps40
abbrev aez:=@Tryz.func233
abbrev aeA:=@Tryz.func235
abbrev aeB:=@Tryz.func194
abbrev aeC:=@Tryz.func196
abbrev aeD:=@Tryz.func177
abbrev aeE:=@Tryz.func110
abbrev aeF:=@Tryz.ntmps80
abbrev aeG:=@Tryz.func148
abbrev aeH:=@Tryz.ntmps98
abbrev aeI:=@Tryz.ntmps77
abbrev aeJ:=@Tryz.ntmps52
abbrev aeK:=@Tryz.func206
abbrev aeL:=@Tryz.func146
abbrev aeM:=@Tryz.ntmps28
abbrev aeN:=@Rat.le_refl
abbrev aeO:=@Nat.mul_one
abbrev aeP:=@Tryz.func76
abbrev aeQ:=@Tryz.func48
abbrev aeR:=@Tryz.func40
abbrev aeS:=@getD_set_ne
abbrev aeT:=@Tryz.func80
abbrev aeU:=@Tryz.func98
abbrev aeV:=@Tryz.func77
abbrev aeW:=@Tryz.func52
abbrev aeX:=@Tryz.func84
abbrev aeY:=@Tryz.func28
abbrev aeZ:=@if_false
abbrev j8:=Int×Int
abbrev j7:=List Int
abbrev j6:=Option Addr
abbrev j5:=List (List Int)
abbrev j4:=List (Int×Int)
abbrev j2:=List (Int×Int×Int)
theorem j1{Q P:Prop}(q:Q)(h:Q->P:=by intro this;omega):P:=h q
theorem j0{P:Prop}(h:P:=by rfl):P:=h
theorem e9{P:Prop}(h:P:=by kernel_rfl):P:=h
theorem e8{P:Prop}(h:P:=by simp):P:=h
theorem e7{P:Prop}(h:P:=by omega):P:=h
theorem b9{α:Sort _}(a:α):∃x,x=a:=⟨a,rfl⟩
def b7(p:Prop):Prop:=p
theorem b7.o{p:Prop}(h:b7 p):p:=h
theorem b7.out{p:Prop}(h:b7 p):p:=h
variable{P:World->Prop}{k b base n i:Nat}{a:j6}{c w w':World}{v:Value}{l:j7}{t:TypeId}{α:Type}{fid:FuncId}{ca:Array Value}
set_option maxHeartbeats 16000000
theorem ae{P:Prop}(h:P):b7 P:=h
theorem ap{k:IntKind}{a b:Int}(h:a=b):Ending.returned (.int k a)=.returned (.int k b):=by rw[h]
theorem ag{a b:Bool}(h:a=b):Ending.returned (.bool a)=.returned (.bool b):=by rw[h]
abbrev Ext(w w':World):Prop:=Below w.heap.size w w'
theorem Ext.refl(w:World):Ext w w:=acb _ _
theorem Ext.trans{a b:World}(h:Ext a b)(k:Ext b c):Ext a c:=Below.trans h (Below.mono k h.size)
theorem Ext.alloc(w:World)(o:Obj):Ext w (w.alloc o):=(acb _ _).alloc (ao _) o
theorem Ext.Jf{a b:World}(h:Ext a b)(k:Below a.heap.size b c):Ext a c:=Below.trans h k
theorem Ext.cells(h:Ext w w'):∀b o,b<w.heap.size->w'.cell? ⟨b,o,none⟩=w.cell? ⟨b,o,none⟩:=fun b o k=>h.cell (p:=⟨b,o,none⟩) k
theorem Ext.zq(h:Ext w w'):∀b o,b<w.heap.size->w'.frozen? ⟨b,o,none⟩=w.frozen? ⟨b,o,none⟩:=fun b o k=>h.frozen (p:=⟨b,o,none⟩) k
theorem Ext.j9(h:Ext w w'){a:Addr}(k:w.cell? a=some v):w'.cell? a=some v :=
 (h.cell (Kq w a k)).trans k
def On(base:Nat)(w:World)(P:World->Prop):Prop:=∀w2:World,(∀k,base<=k->k<w.heap.size->w2.heap[k]?=w.heap[k]?)->P w2
theorem On.here(h:On base w P):P w:=h w fun _ _ _=>rfl
theorem On.keep(h:On base w P)(hs:w.heap.size<=w'.heap.size)(hk:∀k,base<=k->k<w.heap.size->w'.heap[k]?=w.heap[k]?):On base w' P :=
 fun G h2=>h G fun k h1 h3=>(h2 k h1 e7).trans (hk k h1 h3)
theorem On.ext(h:On base w P)(hx:Ext w w'):On base w' P:=h.keep hx.size fun k _ hk=>hx.block k hk
theorem On.set(h:On base w P){a:Addr}(ha:a.block<base)(v:Value):On base (w.setCell a v) P :=
 h.keep e8 fun k hk _=>bB w a k v e7
theorem On.mono{base':Nat}(h:On base w P)(hb:base'<=base):On base' w P:=fun G h2=>h G fun k h1 h3=>h2 k e7 h3
structure Ints(w:World)(a:j6)(n cap:Nat)(l:j7):Prop where
 hlen:l.length=n
 l8:n<=cap
 l9:cap<=9223372036854775807
 cell:∀k,k<n->∃b off,a=some ⟨b,off,none⟩/\∀k,k<n->w.cell? ⟨b,off+k,none⟩=some (.int .i64 (l[k]?.getD 0))
theorem Ints.ext{cap:Nat}(h:Ints w a n cap l)(hx:Ext w w'):Ints w' a n cap l :=
 ⟨h.hlen,h.l8,h.l9,fun k hk=>let⟨b,off,e,hc⟩:=h.cell k hk;⟨b,off,e,fun k hk=>hx.j9 (hc k hk)⟩⟩
theorem Ints.at{cap:Nat}(h:Ints w a n cap l)(hk:k<n):
 ∃b off,a=some ⟨b,off,none⟩/\w.cell? ⟨b,off+k,none⟩=some (.int .i64 (l[k]?.getD 0)) :=
 let⟨b,off,e,hc⟩:=h.cell k hk;⟨b,off,e,hc k hk⟩
theorem Ints.drewN{cap:Nat}(h:Ints w a n cap l)(m:Nat):Ints (w.drewN m) a n cap l:=h.ext (aac (Ext.refl w) m)
theorem Ints.alloc{cap:Nat}(h:Ints w a n cap l)(o:Obj):Ints (w.alloc o) a n cap l:=h.ext (Ext.alloc w o)
abbrev Bj(w w':World):Prop:=∃m,w'=w.drewN m
theorem Bj.refl(w:World):Bj w w:=⟨0,rfl⟩
theorem Bj.trans{a b:World}(h:Bj a b)(k:Bj b c):Bj a c:=by
 obtain⟨m,rfl⟩:=h;obtain⟨n,rfl⟩:=k;exact⟨m+n,World.drewN_drewN _ _ _⟩
theorem Bj.ext(h:Bj w w'):Ext w w':=by obtain⟨m,rfl⟩:=h;exact aac (Ext.refl w) m
theorem Ext.drew(w:World):Ext w w.drew:=aac (Ext.refl w) 1
theorem aU{P:Program}{f:FuncId}{args:Array Value}
 (h:Calls P f args (w.drewN n) fun e w'=>e=.returned v/\w.drewN n=w'):Calls P f args (w.drewN n) fun e w''=>e=.returned v/\∃m,w''=w.drewN m :=
 h.mono fun _ _ ⟨he,hm⟩=>⟨he,n,hm.symm⟩
def be(l:j7):Array Value:=(l.map (Value.int .i64)).toArray
theorem uG(l:j7)(k:Nat)(h:k<l.length):(be l)[k]?=some (.int .i64 (l[k]?.getD 0)):=by simp[be,h]
theorem sH(l:j7)(k:Nat)(x:Int):(be l).setIfInBounds k (.int .i64 x)=be (l.set k x):=by simp[be]
def Row(w:World)(b:Nat)(t:TypeId)(l:j7):Prop:=w.heap[b]?=some (.cells (be l) t (0,0))
theorem Row.cell(h:Row w b t l)(hk:k<l.length):w.cell? ⟨b,k,none⟩=some (.int .i64 (l[k]?.getD 0)):=by
 rw[tn w b k _ t _ h,uG l k hk]
theorem Row.free(h:Row w b t l)(k:Nat):w.frozen? ⟨b,k,none⟩=false:=sd w b k _ t h
theorem Row.lt(h:Row w b t l):b<w.heap.size:=mr h
theorem Row.set(h:Row w b t l)(k:Nat)(x:Int):Row (w.setCell ⟨b,k,none⟩ (.int .i64 x)) b t (l.set k x):=by
 have:=ta w b k _ t (.int .i64 x) h;rw[sH]at this;exact this
theorem Row.ext(h:Row w b t l)(hx:Ext w w'):Row w' b t l:=(hx.block b h.lt).trans h
theorem Row.ints(h:Row w b t l){cap:Nat}(hn:l.length=n)(hc:n<=cap)(hm:cap<=9223372036854775807):Ints w (some ⟨b,0,none⟩) n cap l :=
 ⟨hn,hc,hm,fun _ _=>⟨b,0,rfl,fun k hk=>by rw[Mf];exact h.cell e7⟩⟩
theorem Row.other(h:Row w b t l){a:Addr}(ha:b≠a.block)(v:Value):Row (w.setCell a v) b t l :=
 (bB w a b v ha).trans h
def VRow(w:World)(b:Nat)(t:TypeId)(vs:List Value):Prop:=w.heap[b]?=some (.cells vs.toArray t (0,0))
theorem ai(w:World)(o:Obj)(n:Nat)(h:n=w.heap.size):(w.alloc o).heap[n]?=some o:=by rw[h];exact L' w o
theorem aO(w:World)(o:Obj)(n:Nat)(h:n<w.heap.size):(w.alloc o).heap[n]?=w.heap[n]?:=by rw[World.alloc,Array.getElem?_push,hD e7]
theorem cu(h:k<l.length):l.take (k+1)=l.take k++[l[k]?.getD 0]:=by
 rw[Kn h];simp[h]
def GI(l:j7):Int:=l.foldl (fun a x=>wrap64 (a+x)) 0
theorem rx(l:j7)(x:Int):GI (l++[x])=wrap64 (GI l+x):=by simp[GI]
def r9(n lo hi:Int):Bool:=decide (lo<=n)&&decide (n<=hi)
theorem gA{xs:List α}:xs.toArray[i]?=xs[i]?:=List.getElem?_toArray
theorem gB{a:α}{l:List α}:(a::l)[i+1]?=l[i]?:=aae
theorem gC{a:α}{l:List α}:(a::l)[0]?=some a:=Xm
theorem sA{xs:List α}{a:α}:xs.toArray.setIfInBounds i a=(xs.set i a).toArray:=List.setIfInBounds_toArray xs i a
theorem sB{x:α}{xs:List α}{a:α}:(x::xs).set 0 a=a::xs:=abZ
theorem sC{x:α}{xs:List α}{a:α}:(x::xs).set (i+1) a=x::xs.set i a:=List.set_cons_succ
section
variable{P:Program}{md:Region.Mode}{ops:Array Oper}{Q:Exit->Act->World->Prop}{S:World->Prop}{fuel:Nat}{listed:Array Bool}{a:Act}{w:World}
theorem tk(i:Nat){oi:Oper}{v:Value}{G:Array Bool}{I:Act}(h:wpAnyH P md ops Q S fuel G I w)(hi:ops[i]?=some oi:=by simp only[gA,gB,gC];rfl)(hs:Region.noSelect ops=true:=by kernel_rfl)
 (hf:Region.free md ops listed i=true:=by kernel_rfl) (hr:(Region.ready md ops listed).contains i=true:=by kernel_rfl) (J:∀c a w,Q (.panic c) (a.put oi.dst v) w->Q (.panic c) a w:=by exact fun _ _ _ h=>h)
 (hy:YieldsIf P ops S oi v a:=by(refine aaJ ⟨by rfl,?_⟩;intro w hSw;(try dsimp only at hSw);go_simp;(try with_reducible rfl))) (hS:S w:=by assumption)
 (hl:listed.setIfInBounds i true=G:=by(try simp only[sA,sB,sC]);rfl) (ha:a.put oi.dst v=I:=by(try simp only[Act.put,sA,sB,sC]);rfl):wpAnyH P md ops Q S (fuel+1) listed a w:=by subst hl ha;exact wpAnyH_take hi hs hf hr J hy hS h
theorem sk(i:Nat){oi:Oper}{G:Array Bool}{I:Act}(h:wpAnyH P md ops Q S fuel G I w)(hi:ops[i]?=some oi:=by simp only[gA,gB,gC];rfl)(hs:Region.noSelect ops=true:=by kernel_rfl)
 (hf:Region.free md ops listed i=true:=by kernel_rfl) (hr:(Region.ready md ops listed).contains i=true:=by kernel_rfl) (J:∀c a w,Q (.panic c) (a.put oi.dst undef) w->Q (.panic c) a w:=by exact fun _ _ _ h=>h)
 (hy:YieldsIf P ops S oi undef a:=by exact ach ⟨by rfl,rfl⟩) (hS:S w:=by assumption)
 (hl:listed.setIfInBounds i true=G:=by(try simp only[sA,sB,sC]);rfl) (ha:a.put oi.dst undef=I:=by(try simp only[Act.put,sA,sB,sC]);rfl):wpAnyH P md ops Q S (fuel+1) listed a w:=by subst hl ha;exact wpAnyH_take hi hs hf hr J hy hS h
theorem rd{i:Nat}{o:Oper}(hr:Region.ready md ops listed=[i]:=by kernel_rfl)(ho:ops[i]?=some o:=by simp only[gA,gB,gC];rfl)
 (h:∀K':Act->World->Prop,Shut (∀a w,S w->(S w->wpAnyH P md ops Q S fuel (listed.setIfInBounds i true) a w)->K' a w)->if Region.wanted o (yielded ops a.tmps)=true then Oper.wp P o a w K' Q else K' (a.put o.dst undef) w) :
 wpAnyH P md ops Q S (fuel+1) listed a w:=adl hr e8 (abl ho h ac6)
end
theorem aq(n lo hi:Int)(w:World):
 Calls Tryz.prog 61 #[.int .i64 n,.int .i64 lo,.int .i64 hi] w fun e w'=>e=.returned (.bool (r9 n lo hi))/\w=w':=by
 go_enter Tryz.func61,Tryz.ntmps61
 go_wp2
 all_goals go_ret;refine⟨?_,rfl⟩;simp[r9, *]
 intro h;omega
theorem aZ(n lo hi:Int)(w:World):
 Calls Tryz.prog 45 #[.int .i64 n,.int .i64 lo,.int .i64 hi] w fun e w'=>e=.returned (.bool (r9 n lo hi))/\w=w':=by
 go_enter Tryz.func45,Tryz.ntmps45
 go_wp2
 all_goals go_ret;refine⟨?_,rfl⟩;simp[r9, *]
 intro h;omega
theorem vd{cap:Nat}(h:Ints w a n cap l):
 Calls Tryz.prog 210 #[.slice a n cap] w fun e w'=>e=.returned (.int .i64 (GI l))/\w=w':=by
 have hn:=h.l8;have hm:=h.l9;go_enter Tryz.func210,Tryz.ntmps210
 go_wp2
 go_loop [3,8] (fun s i=>∃k:Nat,k<=n/\i=.int .i64 k/\s=.int .i64 (GI (l.take k))) (fun _ i=>n-(intOf i).toNat)
 case atStart=>exact⟨0,KJ _,rfl,rfl⟩
 case round =>
  obtain⟨k,hk,rfl,rfl⟩:=hrel;by_cases hlt:k<n
  ·obtain⟨b,off,rfl,hc⟩:=h.at hlt
   go_wp2
   all_goals
    go_round
    case rel=>exact⟨k+1,by omega,by go_num,by rw[cu (j1 h.hlen),rx]⟩
    case measure=>simp[intOf];omega
  ·go_wp2
   go_ret;exact⟨ap (by rw[p4 (j1 h.hlen)]),rfl⟩
theorem tM{cap:Nat}(h:Ints w a n cap l):
 Calls Tryz.prog 214 #[.slice a n cap] w fun e w'=>e=.returned (.int .i64 (GI l))/\w=w':=by
 have hn:=h.l8;have hm:=h.l9;go_enter Tryz.func214,Tryz.ntmps214
 go_wp2
 go_loop [3,4] (fun s i=>∃k:Nat,k<=n/\i=.int .i64 k/\s=.int .i64 (GI (l.take k))) (fun _ i=>n-(intOf i).toNat)
 case atStart=>exact⟨0,KJ _,rfl,rfl⟩
 case round =>
  obtain⟨k,hk,rfl,rfl⟩:=hrel;by_cases hlt:k<n
  ·obtain⟨b,off,rfl,hc⟩:=h.at hlt
   go_wp2
   all_goals
    go_round
    case rel=>exact⟨k+1,by omega,by go_num,by rw[cu (j1 h.hlen),rx]⟩
    case measure=>simp[intOf];omega
  ·go_wp2
   go_ret;exact⟨ap (by rw[p4 (j1 h.hlen)]),rfl⟩
def fs(l:j7)(most:Int):Bool:=l.all (r9 · 0 most)&&r9 l.length 1 5
theorem py{p:Int->Bool}(h:l.all p=true)(hk:k<l.length):p (l[k]?.getD 0)=true:=by
 have:=Di.1 h (l[k]) (vl hk);simpa[hk]using this
theorem kx{cap:Nat}(most:Int)(h:Ints w a n cap l):
 Calls Tryz.prog 212 #[.slice a n cap,.int .i64 most] w fun e w'=>e=.returned (.bool (fs l most))/\w=w':=by
 have hn:=h.l8;have hm:=h.l9;go_enter Tryz.func212,Tryz.ntmps212
 go_wp2
 go_loop [5] (fun i=>∃k:Nat,k<=n/\i=.int .i64 k/\(l.take k).all (r9 · 0 most)=true) (fun i=>n-(intOf i).toNat)
 case atStart=>exact⟨0,KJ _,rfl,rfl⟩
 case round =>
  obtain⟨k,hk,rfl,Ap⟩:=hrel;have HA:=ae Ap;clear Ap;by_cases hlt:k<n
  ·obtain⟨b,off,rfl,hc⟩:=h.at hlt;have HL:=ae h.hlen;by_cases hb:r9 (l[k]?.getD 0) 0 most=true
   ·have HB:=ae hb;go_wp2_with (first|(go_at_call 45;refine(aZ _ _ _ _).mono ?_;rintro e w' ⟨rfl,rfl⟩))
    go_round
    case rel=>exact⟨k+1,by omega,by go_num,by rw[cu (j1 HL.o),RN,HA.o];simpa using HB.o⟩
    case measure=>simp[intOf];omega
   ·have HB:=ae hb;simp only[abo]at hb;go_wp2_with (first|(go_at_call 45;refine(aZ _ _ _ _).mono ?_;rintro e w' ⟨rfl,rfl⟩));go_ret;refine⟨ag ?_,rfl⟩
    symm
    unfold fs;cases hx:l.all (r9 · 0 most)
    ·rfl
    ·exact absurd (py hx (j1 HL.o)) HB.o
  ·have HL:=ae h.hlen;go_wp2_with (first|(go_at_call 45;refine(aZ _ _ _ _).mono ?_;rintro e w' ⟨rfl,rfl⟩));go_ret;refine⟨ag ?_,rfl⟩;have:=HA.o;have hl:=HL.o;rw[p4 e7]at this;simp only[fs,this,aad];rw[hl]
def FJ(P:Program)(w:World)(fid:FuncId)(ca:Array Value)(p:Int->Bool):Prop :=
 ∀x (w1:World),Ext w w1->Calls P fid (#[.int .i64 x]++ca) w1 fun e w2=>e=.returned (.bool (p x))/\Ext w1 w2
theorem FJ.ext{P:Program}{p:Int->Bool}(h:FJ P w fid ca p)(hx:Ext w w'):FJ P w' fid ca p :=
 fun x w1 k=>h x w1 (hx.trans k)
def IsGo(P:Program)(fid:FuncId):Prop:=∀(args:Array Value) (w:World),(callFunc fid args).run P w=.ok (.enter fid args) w
theorem isGo {P: Program}{fid: FuncId}{fn: Func}(h : P.funcs[fid]? = some fn)(hn : (fn.name == "runtime.NumGoroutine") = false)(hb : fn.body.isNone = false) : IsGo P fid := by
 intro args w;have hn' : fn.name ≠ "runtime.NumGoroutine" := by simpa using hn
 simp[callFunc,h,hn'];intro hx;rw[hx]at hb;cases hb
def cl{α:Type}(p:α->Bool)(l:List α):Int:=match l.findIdx? p with|some i=>(i:Int)|none=>-1
theorem eQ{p:α->Bool}{l:List α}{d:α}(hk:k<l.length)(h0:(l.take k).all (fun x=>!p x)=true)(h1:p (l[k]?.getD d)=true):cl p l=k:=by
 have:l.findIdx? p=some k:=by
  rw[aag];refine⟨hk,by simpa[hk]using h1,fun j hj=>?_⟩;have:=Di.1 h0 (l[j]) (by rw[abU];exact⟨j,by omega,rfl⟩)
  simpa using this
 simp[cl,this]
theorem dP{p:α->Bool}{l:List α}(h0:l.all (fun x=>!p x)=true):cl p l=-1:=by
 have:l.findIdx? p=none:=by
  rw[abh];intro x hx;have:=Di.1 h0 x hx
  simpa using this
 simp[cl,this]
theorem gG(p:α->Bool)(l:List α):decide (0<=cl p l)=l.any p:=by
 by_cases h:l.any p=true
 ·rw[h];unfold cl;cases hf:l.findIdx? p with
  | some i=>simp
  | none =>
    rw[abh]at hf;obtain⟨x,hx,hp⟩:=abp.1 h;rw[hf x hx]at hp;cases hp
 ·rw[dP (by simpa using h)];simp only[abo]at h;rw[h];rfl
theorem jP{cap:Nat}{p:Int->Bool}(h:Ints w a n cap l)(hg:IsGo Tryz.prog fid)(hf:FJ Tryz.prog w fid ca p):
 Calls Tryz.prog 185 #[.slice a n cap,.func (.func fid) #[] ca] w fun e w'=>e=.returned (.int .i64 (cl p l))/\Ext w w':=by
 have hn:=h.l8;have hm:=h.l9;have OI:∀(args:Array Value) (w:World),(callFunc fid args).run Tryz.prog w=.ok (.enter fid args) w:=hg;go_enter Tryz.func185,Tryz.ntmps185
 go_wp2
 go_loopw [8] (fun i wr=>∃k:Nat,k<=n/\i=.int .i64 k/\(l.take k).all (fun x=>!p x)=true/\Ext w wr) (fun i _=>n-(intOf i).toNat)
 case atStart=>exact⟨0,KJ _,rfl,rfl,Ext.refl _⟩
 case round =>
  obtain⟨k,hk,rfl,Ap,hx⟩:=hrel;have HA:=ae Ap;clear Ap;by_cases hlt:k<n
  ·have h':=h.ext hx;obtain⟨b,off,rfl,hc⟩:=h'.at hlt;have HL:=ae h.hlen;have HF:=ae (hf (l[k]?.getD 0) wr hx);by_cases hb:p (l[k]?.getD 0)=true
   ·have HB:=ae hb;go_wp2_with fail;refine HF.o.mono ?_;rintro e w2 ⟨rfl,zJ⟩
    go_wp2
    go_ret;exact⟨ap (eQ (j1 HL.o) HA.o HB.o).symm,hx.trans (by assumption)⟩
   ·have HB:=ae hb;simp only[abo]at hb;go_wp2_with fail;refine HF.o.mono ?_;rintro e w2 ⟨rfl,zJ⟩
    go_wp2
    go_roundw
    case rel=>exact⟨k+1,by omega,by go_num,by rw[cu (j1 HL.o),RN,HA.o];simpa using HB.o,hx.trans (by assumption)⟩
    case measure=>simp[intOf];omega
  ·have HL:=ae h.hlen
   go_wp2
   go_ret;refine⟨ap ?_,hx⟩;have:=HA.o;rw[p4 (j1 HL.o)]at this;exact(dP this).symm
theorem de{cap:Nat}{p:Int->Bool}(h:Ints w a n cap l)(hg:IsGo Tryz.prog fid)(hf:FJ Tryz.prog w fid ca p):
 Calls Tryz.prog 120 #[.slice a n cap,.func (.func fid) #[] ca] w fun e w'=>e=.returned (.bool (l.any p))/\Ext w w':=by
 have HC:=ae (jP h hg hf);go_enter Tryz.func120,Tryz.ntmps120
 go_wp2_with fail;refine HC.o.mono ?_;rintro e w2 ⟨rfl,zJ⟩
 go_wp2
 all_goals go_ret;refine⟨ag ?_,zJ⟩;rw[<-gG]
theorem Tryz.KT:(Tryz.prog.info? 3).map (fun i=>(i.zero,i.size,i.bytes))=some (some (.int .i64 0),1,8):=by kernel_rfl
theorem gh(n:Nat)(hn:n<=1099511627776)(w:World):
 (Instr.makeSlice 30 (.int .i64 (n:Int)) (.int .i64 (n:Int))).run Tryz.prog w=.ok (.slice (some ⟨w.heap.size,0,none⟩) n n) (w.alloc (.cells (be (List.replicate n 0)) 3)):=by
 obtain⟨i,hi,I,G,El⟩:=adf Tryz.KT;have hr:=run_make (P:=Tryz.prog) w 30 3 i (.int .i64 0) abC hi I .i64 .i64 n n e7 (Int.le_refl _) (by rw[El];omega) e7;simp only[CI]at hr;rw[hr,G];have:madeCells (Value.int .i64 0).cells (n*1)=be (List.replicate n 0):=by
  apply Array.toList_inj.1
  show(madeCells #[Value.int .i64 0] (n*1)).toList=_;rw[toList_madeCells_one];simp[be]
 rw[this]
abbrev pair(x:Int)(a:j6)(n cap:Nat):Value:=.agg #[.int .i64 x,.slice a n cap]
def aJ(lo x:Int)(l:j7):Bool:=fs l 100&&r9 x lo (GI l)
theorem io(l:j7)(most:Int):fs l most=(!(l.any (fun x=>!r9 x 0 most))&&r9 l.length 1 5):=by
 unfold fs
 congr 1
 rw[aaw];simp
