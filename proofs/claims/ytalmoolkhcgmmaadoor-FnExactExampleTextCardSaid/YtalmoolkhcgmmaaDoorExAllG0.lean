import Derived.Shelf.Strconv.Itoa3
import Derived.Test.YtalmoolkhcgmmaaDoorProg
import Derived.WalkKit
import Derived.WalkSpells
import Derived.WalkLawsBesides
import Derived.Lib.Hide
import Derived.Deep.QuietTactic
import Derived.BigQuiet
import Derived.Deep.RegionHeld3
import Derived.Deep.DeepCutAuto
import Derived.Deep.Cut
import Derived.Outline
import Derived.Laws.IdiomStrings
import Derived.Lib.AppendIntMem
import Derived.Lib.ItoaLen
namespace Go.Proofs.YtalmoolkhcgmmaaDoor
open Go.Shelf
def laysItoa_ren : Go.Shelf.Ren := ⟨fun | 171 => 53 | 243 => 68 | 246 => 70 | 283 => 71 | 284 => 72 | 285 => 73 | 286 => 74 | 129 => 76 | 317 => 75 | 318 => 77 | 319 => 78 | 320 => 79 | 337 => 80 | 338 => 81 | n => n, fun | 3 => 3 | 9 => 9 | 2 => 2 | 4 => 4 | 171 => 70 | 0 => 0 | 53 => 71 | 37 => 46 | 5 => 5 | 173 => 74 | 212 => 76 | 51 => 77 | 20 => 20 | 213 => 78 | 46 => 79 | 232 => 82 | 233 => 83 | n => n, fun | 17 => 0 | 18 => 1 | 19 => 2 | n => n⟩
theorem laysItoa : Go.Proofs.LaysM.n171 Tryd.prog laysItoa_ren := {
 mixed := by kernel_rfl
 f129 := Tryd.func76.trans (congrArg some (by kernel_rfl))
 f171 := Tryd.func53.trans (congrArg some (by kernel_rfl))
 f243 := Tryd.func68.trans (congrArg some (by kernel_rfl))
 f246 := Tryd.func70.trans (congrArg some (by kernel_rfl))
 f283 := Tryd.func71.trans (congrArg some (by kernel_rfl))
 f284 := Tryd.func72.trans (congrArg some (by kernel_rfl))
 f285 := Tryd.func73.trans (congrArg some (by kernel_rfl))
 f286 := Tryd.func74.trans (congrArg some (by kernel_rfl))
 f317 := Tryd.func75.trans (congrArg some (by kernel_rfl))
 f318 := Tryd.func77.trans (congrArg some (by kernel_rfl))
 f319 := Tryd.func78.trans (congrArg some (by kernel_rfl))
 f320 := Tryd.func79.trans (congrArg some (by kernel_rfl))
 f337 := Tryd.func80.trans (congrArg some (by kernel_rfl))
 f338 := Tryd.func81.trans (congrArg some (by kernel_rfl))
 t0 := Tryd.underlying0
 a0 := Tryd.isAgg0
 z0 := Tryd.sizeOf0
 v0 := Tryd.zeroValue0
 t2 := Tryd.underlying2
 a2 := Tryd.isAgg2
 z2 := Tryd.sizeOf2
 v2 := Tryd.zeroValue2
 t3 := Tryd.underlying3
 a3 := Tryd.isAgg3
 z3 := Tryd.sizeOf3
 v3 := Tryd.zeroValue3
 t4 := Tryd.underlying4
 a4 := Tryd.isAgg4
 z4 := Tryd.sizeOf4
 v4 := Tryd.zeroValue4
 t5 := Tryd.underlying5
 a5 := Tryd.isAgg5
 z5 := Tryd.sizeOf5
 v5 := Tryd.zeroValue5
 t9 := Tryd.underlying9
 a9 := Tryd.isAgg9
 z9 := Tryd.sizeOf9
 v9 := Tryd.zeroValue9
 t20 := Tryd.underlying20
 a20 := Tryd.isAgg20
 z20 := Tryd.sizeOf20
 v20 := Tryd.zeroValue20
 t37 := Tryd.underlying46
 a37 := Tryd.isAgg46
 z37 := Tryd.sizeOf46
 v37 := Tryd.zeroValue46
 t46 := Tryd.underlying79
 a46 := Tryd.isAgg79
 z46 := Tryd.sizeOf79
 v46 := Tryd.zeroValue79
 t51 := Tryd.underlying77
 a51 := Tryd.isAgg77
 z51 := Tryd.sizeOf77
 v51 := Tryd.zeroValue77
 t53 := Tryd.underlying71
 a53 := Tryd.isAgg71
 z53 := Tryd.sizeOf71
 v53 := Tryd.zeroValue71
 t171 := Tryd.underlying70
 a171 := Tryd.isAgg70
 z171 := Tryd.sizeOf70
 v171 := Tryd.zeroValue70
 t173 := Tryd.underlying74
 a173 := Tryd.isAgg74
 z173 := Tryd.sizeOf74
 v173 := Tryd.zeroValue74
 t212 := Tryd.underlying76
 a212 := Tryd.isAgg76
 z212 := Tryd.sizeOf76
 v212 := Tryd.zeroValue76
 t213 := Tryd.underlying78
 a213 := Tryd.isAgg78
 z213 := Tryd.sizeOf78
 t232 := Tryd.underlying82
 a232 := Tryd.isAgg82
 z232 := Tryd.sizeOf82
 v232 := Tryd.zeroValue82
 t233 := Tryd.underlying83
 a233 := Tryd.isAgg83
 z233 := Tryd.sizeOf83
 v233 := Tryd.zeroValue83
 g17 := by kernel_rfl
 g18 := by kernel_rfl
 g19 := by kernel_rfl
 i0 := by kernel_rfl
 i2 := by kernel_rfl
 i3 := by kernel_rfl
 i4 := by kernel_rfl
 i5 := by kernel_rfl
 i9 := by kernel_rfl
 i20 := by kernel_rfl
 i37 := by kernel_rfl
 i46 := by kernel_rfl
 i51 := by kernel_rfl
 i53 := by kernel_rfl
 i171 := by kernel_rfl
 i173 := by kernel_rfl
 i212 := by kernel_rfl
 i232 := by kernel_rfl
 i233 := by kernel_rfl
 m17 := by kernel_rfl
 m18 := by kernel_rfl
 m19 := by kernel_rfl }
end Go.Proofs.YtalmoolkhcgmmaaDoor
namespace Go.Proofs.YtalmoolkhcgmmaaDoor
set_option linter.unusedVariables false
open Go.RowKit
theorem ret_int {k : IntKind} {a b : Int} (h : a = b) : Ending.returned (.int k a) = .returned (.int k b) := by rw [h]
theorem ret_bool {a b : Bool} (h : a = b) : Ending.returned (.bool a) = .returned (.bool b) := by rw [h]
abbrev Ext (w w' : World) : Prop := Below w.heap.size w w'
theorem Ext.refl (w : World) : Ext w w := Below.refl _ _
theorem Ext.trans {a b c : World} (h : Ext a b) (k : Ext b c) : Ext a c := Below.trans h (Below.mono k h.size)
theorem Ext.alloc (w : World) (o : Obj) : Ext w (w.alloc o) := (Below.refl _ _).alloc (Nat.le_refl _) o
theorem Ext.cells {w w' : World} (h : Ext w w') : ∀ b o, b < w.heap.size → w'.cell? ⟨b, o, none⟩ = w.cell? ⟨b, o, none⟩ := fun b o k => h.cell (p := ⟨b, o, none⟩) k
theorem Ext.frozens {w w' : World} (h : Ext w w') : ∀ b o, b < w.heap.size → w'.frozen? ⟨b, o, none⟩ = w.frozen? ⟨b, o, none⟩ := fun b o k => h.frozen (p := ⟨b, o, none⟩) k
theorem Ext.cellSome {w w' : World} (h : Ext w w') {a : Addr} {v : Value} (k : w.cell? a = some v) : w'.cell? a = some v :=
 (h.cell (World.block_lt_of_cell? w a k)).trans k
def On (base : Nat) (w : World) (P : World → Prop) : Prop := ∀ w2 : World, (∀ k, base ≤ k → k < w.heap.size → w2.heap[k]? = w.heap[k]?) → P w2
theorem On.keep {base : Nat} {w w' : World} {P : World → Prop} (h : On base w P) (hs : w.heap.size ≤ w'.heap.size) (hk : ∀ k, base ≤ k → k < w.heap.size → w'.heap[k]? = w.heap[k]?) : On base w' P :=
 fun w2 h2 => h w2 fun k h1 h3 => (h2 k h1 (by omega)).trans (hk k h1 h3)
theorem On.ext {base : Nat} {w w' : World} {P : World → Prop} (h : On base w P) (hx : Ext w w') : On base w' P := h.keep hx.size fun k _ hk => hx.block k hk
theorem On.set {base : Nat} {w : World} {P : World → Prop} (h : On base w P) {a : Addr} (ha : a.block < base) (v : Value) : On base (w.setCell a v) P :=
 h.keep (by simp) fun k hk _ => heap_setCell_other w a k v (by omega)
theorem On.mono {base base' : Nat} {w : World} {P : World → Prop} (h : On base w P) (hb : base' ≤ base) : On base' w P := fun w2 h2 => h w2 fun k h1 h3 => h2 k (by omega) h3
theorem On.and {base : Nat} {w : World} {P Q : World → Prop} (h : On base w P) (k : On base w Q) : On base w (fun w => P w ∧ Q w) := fun w2 h2 => ⟨h w2 h2, k w2 h2⟩
theorem On.alloc {base : Nat} {w : World} {P : World → Prop} (h : On base w P) (o : Obj) : On base (w.alloc o) P := h.ext (Ext.alloc w o)
structure Ints (w : World) (a : Option Addr) (n cap : Nat) (l : List Int) : Prop where
 hlen : l.length = n
 hcap : n ≤ cap
 hmax : cap ≤ 9223372036854775807
 cell : ∀ k, k < n → ∃ b off, a = some ⟨b, off, none⟩ ∧ ∀ k, k < n → w.cell? ⟨b, off + k, none⟩ = some (.int .i64 (l[k]?.getD 0))
theorem Ints.ext {w w' : World} {a : Option Addr} {n cap : Nat} {l : List Int} (h : Ints w a n cap l) (hx : Ext w w') : Ints w' a n cap l :=
 ⟨h.hlen, h.hcap, h.hmax, fun k hk => let ⟨b, off, e, hc⟩ := h.cell k hk; ⟨b, off, e, fun k hk => hx.cellSome (hc k hk)⟩⟩
theorem Ints.at {w : World} {a : Option Addr} {n cap : Nat} {l : List Int} (h : Ints w a n cap l) {k : Nat} (hk : k < n) :
 ∃ b off, a = some ⟨b, off, none⟩ ∧ w.cell? ⟨b, off + k, none⟩ = some (.int .i64 (l[k]?.getD 0)) :=
 let ⟨b, off, e, hc⟩ := h.cell k hk; ⟨b, off, e, hc k hk⟩
theorem Ints.drewN {w : World} {a : Option Addr} {n cap : Nat} {l : List Int} (h : Ints w a n cap l) (m : Nat) : Ints (w.drewN m) a n cap l := h.ext (below_drewN (Ext.refl w) m)
theorem Ints.alloc {w : World} {a : Option Addr} {n cap : Nat} {l : List Int} (h : Ints w a n cap l) (o : Obj) : Ints (w.alloc o) a n cap l := h.ext (Ext.alloc w o)
abbrev Drew (w w' : World) : Prop := ∃ m, w' = w.drewN m
theorem Drew.refl (w : World) : Drew w w := ⟨0, rfl⟩
theorem Drew.trans {a b c : World} (h : Drew a b) (k : Drew b c) : Drew a c := by
 obtain ⟨m, rfl⟩ := h; obtain ⟨n, rfl⟩ := k; exact ⟨m + n, World.drewN_drewN _ _ _⟩
theorem Drew.ext {w w' : World} (h : Drew w w') : Ext w w' := by obtain ⟨m, rfl⟩ := h; exact below_drewN (Ext.refl w) m
theorem Ext.drew (w : World) : Ext w w.drew := below_drewN (Ext.refl w) 1
theorem quiet_same {P : Program} {f : FuncId} {args : Array Value} {w : World} {n : Nat} {v : Value}
 (h : Calls P f args (w.drewN n) fun e w' => e = .returned v ∧ w.drewN n = w') : Calls P f args (w.drewN n) fun e w'' => e = .returned v ∧ ∃ m, w'' = w.drewN m :=
 h.mono fun _ _ ⟨he, hm⟩ => ⟨he, n, hm.symm⟩
def intCells (l : List Int) : Array Value := (l.map (Value.int .i64)).toArray
theorem intCells_at (l : List Int) (k : Nat) (h : k < l.length) : (intCells l)[k]? = some (.int .i64 (l[k]?.getD 0)) := by simp [intCells, h]
theorem intCells_set (l : List Int) (k : Nat) (x : Int) : (intCells l).setIfInBounds k (.int .i64 x) = intCells (l.set k x) := by simp [intCells]
def Row (w : World) (b : Nat) (t : TypeId) (l : List Int) : Prop := w.heap[b]? = some (.cells (intCells l) t (0, 0))
theorem Row.cell {w : World} {b : Nat} {t : TypeId} {l : List Int} (h : Row w b t l) {k : Nat} (hk : k < l.length) : w.cell? ⟨b, k, none⟩ = some (.int .i64 (l[k]?.getD 0)) := by
 rw [cell_of_row w b k _ t _ h, intCells_at l k hk]
theorem Row.free {w : World} {b : Nat} {t : TypeId} {l : List Int} (h : Row w b t l) (k : Nat) : w.frozen? ⟨b, k, none⟩ = false := frozen_of_row w b k _ t h
theorem Row.lt {w : World} {b : Nat} {t : TypeId} {l : List Int} (h : Row w b t l) : b < w.heap.size := lt_of_block h
theorem Row.set {w : World} {b : Nat} {t : TypeId} {l : List Int} (h : Row w b t l) (k : Nat) (x : Int) : Row (w.setCell ⟨b, k, none⟩ (.int .i64 x)) b t (l.set k x) := by
 have := heap_setCell_same w b k _ t (.int .i64 x) h
 rw [intCells_set] at this
 exact this
theorem Row.ext {w w' : World} {b : Nat} {t : TypeId} {l : List Int} (h : Row w b t l) (hx : Ext w w') : Row w' b t l := (hx.block b h.lt).trans h
theorem Row.ints {w : World} {b : Nat} {t : TypeId} {l : List Int} (h : Row w b t l) {n cap : Nat} (hn : l.length = n) (hc : n ≤ cap) (hm : cap ≤ 9223372036854775807) : Ints w (some ⟨b, 0, none⟩) n cap l :=
 ⟨hn, hc, hm, fun _ _ => ⟨b, 0, rfl, fun k hk => by rw [Nat.zero_add]; exact h.cell (by omega)⟩⟩
theorem Row.other {w : World} {b : Nat} {t : TypeId} {l : List Int} (h : Row w b t l) {a : Addr} (ha : b ≠ a.block) (v : Value) : Row (w.setCell a v) b t l :=
 (heap_setCell_other w a b v ha).trans h
theorem Row.on {base : Nat} {w : World} {b : Nat} {t : TypeId} {l : List Int} (h : Row w b t l) (hb : base ≤ b) : On base w (fun w => Row w b t l) := fun w2 hk => (hk b hb h.lt).trans h
theorem Row.made (w : World) (t : TypeId) (n : Nat) : Row (w.alloc (.cells (madeCells #[.int .i64 0] (n * 1)) t)) w.heap.size t (List.replicate n 0) := by
 unfold Row
 rw [heap_alloc_new]
 have : madeCells #[.int .i64 0] (n * 1) = intCells (List.replicate n 0) := by
  apply Array.toList_inj.1
  rw [toList_madeCells_one]; simp [intCells]
 rw [this]
def VRow (w : World) (b : Nat) (t : TypeId) (vs : List Value) : Prop := w.heap[b]? = some (.cells vs.toArray t (0, 0))
theorem VRow.cell {w : World} {b : Nat} {t : TypeId} {vs : List Value} (h : VRow w b t vs) (k : Nat) : w.cell? ⟨b, k, none⟩ = vs[k]? := by
 rw [cell_of_row w b k _ t _ h]; simp
theorem VRow.free {w : World} {b : Nat} {t : TypeId} {vs : List Value} (h : VRow w b t vs) (k : Nat) : w.frozen? ⟨b, k, none⟩ = false := frozen_of_row w b k _ t h
theorem VRow.lt {w : World} {b : Nat} {t : TypeId} {vs : List Value} (h : VRow w b t vs) : b < w.heap.size := lt_of_block h
theorem VRow.set {w : World} {b : Nat} {t : TypeId} {vs : List Value} (h : VRow w b t vs) (k : Nat) (x : Value) : VRow (w.setCell ⟨b, k, none⟩ x) b t (vs.set k x) := by
 have := heap_setCell_same w b k _ t x h
 unfold VRow
 rw [this]; simp
theorem VRow.ext {w w' : World} {b : Nat} {t : TypeId} {vs : List Value} (h : VRow w b t vs) (hx : Ext w w') : VRow w' b t vs := (hx.block b h.lt).trans h
theorem VRow.other {w : World} {b : Nat} {t : TypeId} {vs : List Value} (h : VRow w b t vs) {a : Addr} (ha : b ≠ a.block) (v : Value) : VRow (w.setCell a v) b t vs :=
 (heap_setCell_other w a b v ha).trans h
theorem heapA_new (w : World) (o : Obj) (n : Nat) (h : n = w.heap.size) : (w.alloc o).heap[n]? = some o := by rw [h]; exact heap_alloc_new w o
theorem heapA_old (w : World) (o : Obj) (n : Nat) (h : n < w.heap.size) : (w.alloc o).heap[n]? = w.heap[n]? := by rw [World.alloc, Array.getElem?_push, if_neg (by omega)]
theorem take_snoc {l : List Int} {k : Nat} (h : k < l.length) : l.take (k+1) = l.take k ++ [l[k]?.getD 0] := by
 rw [List.take_succ_eq_append_getElem h]; simp [h]
def sumW (l : List Int) : Int := l.foldl (fun a x => wrap64 (a + x)) 0
theorem sumW_snoc (l : List Int) (x : Int) : sumW (l ++ [x]) = wrap64 (sumW l + x) := by simp [sumW]
def inB (n lo hi : Int) : Bool := decide (lo ≤ n) && decide (n ≤ hi)
theorem gA {α : Type} {xs : List α} {i : Nat} : xs.toArray[i]? = xs[i]? := List.getElem?_toArray
theorem gB {α : Type} {a : α} {l : List α} {i : Nat} : (a :: l)[i + 1]? = l[i]? := List.getElem?_cons_succ
theorem gC {α : Type} {a : α} {l : List α} : (a :: l)[0]? = some a := List.getElem?_cons_zero
theorem sA {α : Type} {xs : List α} {i : Nat} {a : α} : xs.toArray.setIfInBounds i a = (xs.set i a).toArray := List.setIfInBounds_toArray xs i a
theorem sB {α : Type} {x : α} {xs : List α} {a : α} : (x :: xs).set 0 a = a :: xs := List.set_cons_zero
theorem sC {α : Type} {x : α} {xs : List α} {i : Nat} {a : α} : (x :: xs).set (i + 1) a = x :: xs.set i a := List.set_cons_succ
section
variable {P : Program} {md : Region.Mode} {ops : Array Oper} {Q : Exit → Act → World → Prop} {S : World → Prop} {fuel : Nat} {listed : Array Bool} {a : Act} {w : World}
theorem tk (i : Nat) {oi : Oper} {v : Value} {l' : Array Bool} {a' : Act} (h : wpAnyH P md ops Q S fuel l' a' w) (hi : ops[i]? = some oi := by simp only [gA, gB, gC]; rfl) (hs : Region.noSelect ops = true := by kernel_rfl)
 (hf : Region.free md ops listed i = true := by kernel_rfl) (hr : (Region.ready md ops listed).contains i = true := by kernel_rfl) (hQ : ∀ c a w, Q (.panic c) (a.put oi.dst v) w → Q (.panic c) a w := by exact fun _ _ _ h => h)
 (hy : YieldsIf P ops S oi v a := by (refine Or.inl ⟨by rfl, ?_⟩; intro w hSw; (try dsimp only at hSw); go_simp; (try with_reducible rfl))) (hS : S w := by assumption)
 (hl : listed.setIfInBounds i true = l' := by (try simp only [sA, sB, sC]); rfl) (ha : a.put oi.dst v = a' := by (try simp only [Act.put, sA, sB, sC]); rfl) : wpAnyH P md ops Q S (fuel + 1) listed a w := by subst hl ha; exact wpAnyH_take hi hs hf hr hQ hy hS h
theorem sk (i : Nat) {oi : Oper} {l' : Array Bool} {a' : Act} (h : wpAnyH P md ops Q S fuel l' a' w) (hi : ops[i]? = some oi := by simp only [gA, gB, gC]; rfl) (hs : Region.noSelect ops = true := by kernel_rfl)
 (hf : Region.free md ops listed i = true := by kernel_rfl) (hr : (Region.ready md ops listed).contains i = true := by kernel_rfl) (hQ : ∀ c a w, Q (.panic c) (a.put oi.dst undef) w → Q (.panic c) a w := by exact fun _ _ _ h => h)
 (hy : YieldsIf P ops S oi undef a := by exact Or.inr ⟨by rfl, rfl⟩) (hS : S w := by assumption)
 (hl : listed.setIfInBounds i true = l' := by (try simp only [sA, sB, sC]); rfl) (ha : a.put oi.dst undef = a' := by (try simp only [Act.put, sA, sB, sC]); rfl) : wpAnyH P md ops Q S (fuel + 1) listed a w := by subst hl ha; exact wpAnyH_take hi hs hf hr hQ hy hS h
theorem rd {i : Nat} {o : Oper} (hr : Region.ready md ops listed = [i] := by kernel_rfl) (ho : ops[i]? = some o := by simp only [gA, gB, gC]; rfl)
 (h : ∀ K' : Act → World → Prop, Shut (∀ a w, S w → (S w → wpAnyH P md ops Q S fuel (listed.setIfInBounds i true) a w) → K' a w) → if Region.wanted o (yielded ops a.tmps) = true then Oper.wp P o a w K' Q else K' (a.put o.dst undef) w) :
 wpAnyH P md ops Q S (fuel + 1) listed a w := wpAnyH_ready hr (by simp) (AllReadyH.cons ho h AllReadyH.nil)
end
end Go.Proofs.YtalmoolkhcgmmaaDoor
namespace Go.Proofs.YtalmoolkhcgmmaaDoor
set_option linter.unusedVariables false
open Go.RowKit
set_option maxHeartbeats 400000 in
theorem i_within (n lo hi : Int) (w : World) :
 Calls Tryd.prog 50 #[.int .i64 n, .int .i64 lo, .int .i64 hi] w fun e w' => e = .returned (.bool (inB n lo hi)) ∧ w = w' := by
 go_enter Tryd.func50, Tryd.ntmps50
 go_wp2
 all_goals go_ret; refine ⟨?_, rfl⟩; simp [inB, *]
 intro h; omega
set_option maxHeartbeats 400000 in
theorem s_l1In (n lo hi : Int) (w : World) :
 Calls Tryd.prog 27 #[.int .i64 n, .int .i64 lo, .int .i64 hi] w fun e w' => e = .returned (.bool (inB n lo hi)) ∧ w = w' := by
 go_enter Tryd.func27, Tryd.ntmps27
 go_wp2
 all_goals go_ret; refine ⟨?_, rfl⟩; simp [inB, *]
 intro h; omega
set_option maxHeartbeats 400000 in
theorem i_total {w : World} {a : Option Addr} {n cap : Nat} {l : List Int} (h : Ints w a n cap l) :
 Calls Tryd.prog 65 #[.slice a n cap] w fun e w' => e = .returned (.int .i64 (sumW l)) ∧ w = w' := by
 have hn := h.hcap
 have hm := h.hmax
 go_enter Tryd.func65, Tryd.ntmps65
 go_wp2
 go_loop [3, 8] (fun s i => ∃ k : Nat, k ≤ n ∧ i = .int .i64 k ∧ s = .int .i64 (sumW (l.take k))) (fun _ i => n - (intOf i).toNat)
 case atStart => exact ⟨0, Nat.zero_le _, rfl, rfl⟩
 case round =>
  obtain ⟨k, hk, rfl, rfl⟩ := hrel
  by_cases hlt : k < n
  ·obtain ⟨b, off, rfl, hc⟩ := h.at hlt
   go_wp2
   all_goals
    go_round
    case rel => exact ⟨k + 1, by omega, by go_num, by rw [take_snoc (by have := h.hlen; omega), sumW_snoc]⟩
    case measure => simp [intOf]; omega
  ·go_wp2
   go_ret
   exact ⟨ret_int (by rw [List.take_of_length_le (by have := h.hlen; omega)]), rfl⟩
set_option maxHeartbeats 400000 in
theorem s_l18Sum {w : World} {a : Option Addr} {n cap : Nat} {l : List Int} (h : Ints w a n cap l) :
 Calls Tryd.prog 58 #[.slice a n cap] w fun e w' => e = .returned (.int .i64 (sumW l)) ∧ w = w' := by
 have hn := h.hcap
 have hm := h.hmax
 go_enter Tryd.func58, Tryd.ntmps58
 go_wp2
 go_loop [3, 4] (fun s i => ∃ k : Nat, k ≤ n ∧ i = .int .i64 k ∧ s = .int .i64 (sumW (l.take k))) (fun _ i => n - (intOf i).toNat)
 case atStart => exact ⟨0, Nat.zero_le _, rfl, rfl⟩
 case round =>
  obtain ⟨k, hk, rfl, rfl⟩ := hrel
  by_cases hlt : k < n
  ·obtain ⟨b, off, rfl, hc⟩ := h.at hlt
   go_wp2
   all_goals
    go_round
    case rel => exact ⟨k + 1, by omega, by go_num, by rw [take_snoc (by have := h.hlen; omega), sumW_snoc]⟩
    case measure => simp [intOf]; omega
  ·go_wp2
   go_ret
   exact ⟨ret_int (by rw [List.take_of_length_le (by have := h.hlen; omega)]), rfl⟩
def small (l : List Int) (most : Int) : Bool := l.all (inB · 0 most) && inB l.length 1 5
theorem all_get {p : Int → Bool} {l : List Int} (h : l.all p = true) {k : Nat} (hk : k < l.length) : p (l[k]?.getD 0) = true := by
 have := List.all_eq_true.1 h (l[k]) (List.getElem_mem hk); simpa [hk] using this
set_option maxHeartbeats 400000 in
theorem s_l18Small {w : World} {a : Option Addr} {n cap : Nat} {l : List Int} (most : Int) (h : Ints w a n cap l) :
 Calls Tryd.prog 56 #[.slice a n cap, .int .i64 most] w fun e w' => e = .returned (.bool (small l most)) ∧ w = w' := by
 have hn := h.hcap
 have hm := h.hmax
 go_enter Tryd.func56, Tryd.ntmps56
 go_wp2
 go_loop [5] (fun i => ∃ k : Nat, k ≤ n ∧ i = .int .i64 k ∧ (l.take k).all (inB · 0 most) = true) (fun i => n - (intOf i).toNat)
 case atStart => exact ⟨0, Nat.zero_le _, rfl, rfl⟩
 case round =>
  obtain ⟨k, hk, rfl, hall⟩ := hrel
  have HA := Lib.hid hall
  clear hall
  by_cases hlt : k < n
  ·obtain ⟨b, off, rfl, hc⟩ := h.at hlt
   have HL := Lib.hid h.hlen
   by_cases hb : inB (l[k]?.getD 0) 0 most = true
   ·have HB := Lib.hid hb
    go_wp2_with (first | (go_at_call 27; refine (s_l1In _ _ _ _).mono ?_; rintro e w' ⟨rfl, rfl⟩))
    go_round
    case rel => exact ⟨k + 1, by omega, by go_num, by rw [take_snoc (by have := HL.out; omega), List.all_append, HA.out]; simpa using HB.out⟩
    case measure => simp [intOf]; omega
   ·have HB := Lib.hid hb
    simp only [Bool.not_eq_true] at hb
    go_wp2_with (first | (go_at_call 27; refine (s_l1In _ _ _ _).mono ?_; rintro e w' ⟨rfl, rfl⟩))
    go_ret
    refine ⟨ret_bool ?_, rfl⟩
    symm
    unfold small
    cases hx : l.all (inB · 0 most)
    ·rfl
    ·exact absurd (all_get hx (by have := HL.out; omega)) HB.out
  ·have HL := Lib.hid h.hlen
   go_wp2_with (first | (go_at_call 27; refine (s_l1In _ _ _ _).mono ?_; rintro e w' ⟨rfl, rfl⟩))
   go_ret
   refine ⟨ret_bool ?_, rfl⟩
   have := HA.out
   have hl := HL.out
   rw [List.take_of_length_le (by omega)] at this
   simp only [small, this, Bool.true_and]
   rw [hl]
def Asks (P : Program) (w : World) (fid : FuncId) (ca : Array Value) (p : Int → Bool) : Prop :=
 ∀ x (w1 : World), Ext w w1 → Calls P fid (#[.int .i64 x] ++ ca) w1 fun e w2 => e = .returned (.bool (p x)) ∧ Ext w1 w2
theorem Asks.ext {P : Program} {w w' : World} {fid : FuncId} {ca : Array Value} {p : Int → Bool} (h : Asks P w fid ca p) (hx : Ext w w') : Asks P w' fid ca p :=
 fun x w1 k => h x w1 (hx.trans k)
def IsGo (P : Program) (fid : FuncId) : Prop := ∀ (args : Array Value) (w : World), (callFunc fid args).run P w = .ok (.enter fid args) w
theorem isGo {P : Program} {fid : FuncId} {fn : Func} (h : P.funcs[fid]? = some fn) (hn : (fn.name == "runtime.NumGoroutine") = false) (hb : fn.body.isNone = false) : IsGo P fid := by
 intro args w
 have hn' : fn.name ≠ "runtime.NumGoroutine" := by simpa using hn
 simp [callFunc, h, hn']
 intro hx
 rw [hx] at hb
 cases hb
def indexF {α : Type} (p : α → Bool) (l : List α) : Int := match l.findIdx? p with | some i => (i : Int) | none => -1
theorem indexF_at {α : Type} {p : α → Bool} {l : List α} {k : Nat} {d : α} (hk : k < l.length) (h0 : (l.take k).all (fun x => !p x) = true) (h1 : p (l[k]?.getD d) = true) : indexF p l = k := by
 have : l.findIdx? p = some k := by
  rw [List.findIdx?_eq_some_iff_getElem]
  refine ⟨hk, by simpa [hk] using h1, fun j hj => ?_⟩
  have := List.all_eq_true.1 h0 (l[j]) (by rw [List.mem_take_iff_getElem]; exact ⟨j, by omega, rfl⟩)
  simpa using this
 simp [indexF, this]
theorem indexF_none {α : Type} {p : α → Bool} {l : List α} (h0 : l.all (fun x => !p x) = true) : indexF p l = -1 := by
 have : l.findIdx? p = none := by
  rw [List.findIdx?_eq_none_iff]
  intro x hx
  have := List.all_eq_true.1 h0 x hx
  simpa using this
 simp [indexF, this]
theorem indexF_any {α : Type} (p : α → Bool) (l : List α) : decide (0 ≤ indexF p l) = l.any p := by
 by_cases h : l.any p = true
 ·rw [h]
  unfold indexF
  cases hf : l.findIdx? p with
  | some i => simp
  | none =>
    rw [List.findIdx?_eq_none_iff] at hf
    obtain ⟨x, hx, hp⟩ := List.any_eq_true.1 h
    rw [hf x hx] at hp; cases hp
 ·rw [indexF_none (by simpa using h)]; simp only [Bool.not_eq_true] at h; rw [h]; rfl
set_option maxHeartbeats 400000 in
theorem indexFunc_ints {w : World} {a : Option Addr} {n cap : Nat} {l : List Int} {fid : FuncId} {ca : Array Value} {p : Int → Bool} (h : Ints w a n cap l) (hg : IsGo Tryd.prog fid) (hf : Asks Tryd.prog w fid ca p) :
 Calls Tryd.prog 67 #[.slice a n cap, .func (.func fid) #[] ca] w fun e w' => e = .returned (.int .i64 (indexF p l)) ∧ Ext w w' := by
 have hn := h.hcap
 have hm := h.hmax
 have hcf : ∀ (args : Array Value) (w : World), (callFunc fid args).run Tryd.prog w = .ok (.enter fid args) w := hg
 go_enter Tryd.func67, Tryd.ntmps67
 go_wp2
 go_loopw [8] (fun i wr => ∃ k : Nat, k ≤ n ∧ i = .int .i64 k ∧ (l.take k).all (fun x => !p x) = true ∧ Ext w wr) (fun i _ => n - (intOf i).toNat)
 case atStart => exact ⟨0, Nat.zero_le _, rfl, rfl, Ext.refl _⟩
 case round =>
  obtain ⟨k, hk, rfl, hall, hx⟩ := hrel
  have HA := Lib.hid hall
  clear hall
  by_cases hlt : k < n
  ·have h' := h.ext hx
   obtain ⟨b, off, rfl, hc⟩ := h'.at hlt
   have HL := Lib.hid h.hlen
   have HF := Lib.hid (hf (l[k]?.getD 0) wr hx)
   by_cases hb : p (l[k]?.getD 0) = true
   ·have HB := Lib.hid hb
    go_wp2_with fail
    refine HF.out.mono ?_
    rintro e w2 ⟨rfl, hx2⟩
    go_wp2
    go_ret
    exact ⟨ret_int (indexF_at (by have := HL.out; omega) HA.out HB.out).symm, hx.trans (by assumption)⟩
   ·have HB := Lib.hid hb
    simp only [Bool.not_eq_true] at hb
    go_wp2_with fail
    refine HF.out.mono ?_
    rintro e w2 ⟨rfl, hx2⟩
    go_wp2
    go_roundw
    case rel => exact ⟨k + 1, by omega, by go_num, by rw [take_snoc (by have := HL.out; omega), List.all_append, HA.out]; simpa using HB.out, hx.trans (by assumption)⟩
    case measure => simp [intOf]; omega
  ·have HL := Lib.hid h.hlen
   go_wp2
   go_ret
   refine ⟨ret_int ?_, hx⟩
   have := HA.out
   rw [List.take_of_length_le (by have := HL.out; omega)] at this
   exact (indexF_none this).symm
set_option maxHeartbeats 400000 in
theorem containsFunc_ints {w : World} {a : Option Addr} {n cap : Nat} {l : List Int} {fid : FuncId} {ca : Array Value} {p : Int → Bool} (h : Ints w a n cap l) (hg : IsGo Tryd.prog fid) (hf : Asks Tryd.prog w fid ca p) :
 Calls Tryd.prog 51 #[.slice a n cap, .func (.func fid) #[] ca] w fun e w' => e = .returned (.bool (l.any p)) ∧ Ext w w' := by
 have HC := Lib.hid (indexFunc_ints h hg hf)
 go_enter Tryd.func51, Tryd.ntmps51
 go_wp2_with fail
 refine HC.out.mono ?_
 rintro e w2 ⟨rfl, hx2⟩
 go_wp2
 all_goals go_ret; refine ⟨ret_bool ?_, hx2⟩; rw [← indexF_any]
theorem Tryd.infoInt : (Tryd.prog.info? 3).map (fun i => (i.zero, i.size, i.bytes)) = some (some (.int .i64 0), 1, 8) := by kernel_rfl
theorem mk_ints (n : Nat) (hn : n ≤ 1099511627776) (w : World) :
 (Instr.makeSlice 25 (.int .i64 (n : Int)) (.int .i64 (n : Int))).run Tryd.prog w = .ok (.slice (some ⟨w.heap.size, 0, none⟩) n n) (w.alloc (.cells (intCells (List.replicate n 0)) 3)) := by
 obtain ⟨i, hi, hz0, hz1, hz2⟩ := info_parts Tryd.infoInt
 have hr := run_make (P := Tryd.prog) w 25 3 i (.int .i64 0) Tryd.underlying25 hi hz0 .i64 .i64 n n (by omega) (Int.le_refl _) (by rw [hz2]; omega) (by omega)
 simp only [Int.toNat_natCast] at hr
 rw [hr, hz1]
 have : madeCells (Value.int .i64 0).cells (n * 1) = intCells (List.replicate n 0) := by
  apply Array.toList_inj.1
  show (madeCells #[Value.int .i64 0] (n * 1)).toList = _
  rw [toList_madeCells_one]; simp [intCells]
 rw [this]
abbrev pair (x : Int) (a : Option Addr) (n cap : Nat) : Value := .agg #[.int .i64 x, .slice a n cap]
def validPair (lo x : Int) (l : List Int) : Bool := small l 100 && inB x lo (sumW l)
theorem small_any (l : List Int) (most : Int) : small l most = (!(l.any (fun x => !inB x 0 most)) && inB l.length 1 5) := by
 unfold small
 congr 1
 rw [List.not_any_eq_all_not]
 simp
def bit (s : Int) (k : Nat) : Bool := decide (s / 2 ^ k % 2 = 1)
def hasP (s k : Int) : Bool := decide (0 ≤ s) && (inB k 0 4 && bit s k.toNat)
def cntC (n : Int) : Int := if inB n 0 5 then 2 ^ n.toNat else 0
theorem and_i64 (a b : Nat) (ha : a < 9223372036854775808) (hb : b < 9223372036854775808) : bits .and .i64 (a : Int) (b : Int) = ((a &&& b : Nat) : Int) := by
 have hx : a &&& b < 2 ^ 63 := Nat.and_lt_two_pow _ (by omega)
 have h1 : (BitVec.ofInt 64 (a : Int)).toNat = a := by rw [BitVec.ofInt_natCast, BitVec.toNat_ofNat]; exact Nat.mod_eq_of_lt (by omega)
 have h2 : (BitVec.ofInt 64 (b : Int)).toNat = b := by rw [BitVec.ofInt_natCast, BitVec.toNat_ofNat]; exact Nat.mod_eq_of_lt (by omega)
 show IntKind.i64.wrap ((BitVec.ofInt 64 (a : Int) &&& BitVec.ofInt 64 (b : Int)).toNat : Int) = _
 rw [BitVec.toNat_and, h1, h2, IntKind.wrap_i64]
 omega
theorem and_one (x : Int) (h : 0 ≤ x) (h' : x ≤ 9223372036854775807) : bits BinOp.and IntKind.i64 x 1 = x % 2 := by
 obtain ⟨n, rfl⟩ : ∃ n : Nat, x = n := ⟨x.toNat, by omega⟩
 have := and_i64 n 1 (by omega) (by omega)
 rw [Nat.and_one_is_mod] at this
 have h2 : ((n % 2 : Nat) : Int) = (n : Int) % 2 := by omega
 exact this.trans h2
theorem pow_pos (k : Nat) : (1 : Int) ≤ 2 ^ k := by
 have : (0 : Int) < 2 ^ k := Int.pow_pos (by decide)
 omega
theorem pow_le5 (k : Nat) (h : k ≤ 5) : (2 : Int) ^ k ≤ 32 := by
 have : k = 0 ∨ k = 1 ∨ k = 2 ∨ k = 3 ∨ k = 4 ∨ k = 5 := by omega
 rcases this with rfl | rfl | rfl | rfl | rfl | rfl <;> decide
theorem div_pow (s : Int) (k : Nat) (h : 0 ≤ s) : 0 ≤ s / 2 ^ k ∧ s / 2 ^ k ≤ s := by
 have := pow_pos k
 exact ⟨Int.ediv_nonneg h (by omega), Int.ediv_le_self _ h⟩
theorem bit_test (s : Int) (k : Nat) (h : 0 ≤ s) (h' : s ≤ 9223372036854775807) : (bits BinOp.and IntKind.i64 (s / 2 ^ k) 1 == 1) = bit s k := by
 have := div_pow s k h
 rw [and_one _ this.1 (by omega)]
 unfold bit
 rw [Bool.eq_iff_iff]; simp
theorem wrap_pow (k : Nat) (h : k ≤ 5) : wrap64 ((2 : Int) ^ k) = 2 ^ k := by
 have := pow_pos k
 have := pow_le5 k h
 unfold wrap64; omega
set_option maxHeartbeats 400000 in
theorem i_HasPlayer (s k : Int) (w : World) (h' : s ≤ 9223372036854775807) :
 Calls Tryd.prog 40 #[.int .i64 s, .int .i64 k] w fun e w' => e = .returned (.bool (hasP s k)) ∧ w = w' := by
 by_cases hs : 0 ≤ s
 ·cases hk : inB k 0 4
  ·go_enter Tryd.func40, Tryd.ntmps40
   go_wp2_with (first | (go_at_call 50; refine (i_within _ _ _ _).mono ?_; rintro e w' ⟨rfl, rfl⟩))
   go_ret
   exact ⟨ret_bool (by unfold hasP; rw [hk]; simp), rfl⟩
  ·obtain ⟨n, rfl⟩ : ∃ n : Nat, k = n := ⟨k.toNat, by unfold inB at hk; simp at hk; omega⟩
   have hn : n ≤ 4 := by unfold inB at hk; simp at hk; omega
   have hb := bit_test s n hs h'
   go_enter Tryd.func40, Tryd.ntmps40
   go_wp2_with (first | (go_at_call 50; refine (i_within _ _ _ _).mono ?_; rintro e w' ⟨rfl, rfl⟩))
   go_ret
   exact ⟨ret_bool (by unfold hasP; rw [hk]; simp [hs]), rfl⟩
 ·go_enter Tryd.func40, Tryd.ntmps40
  go_wp2_with fail
  go_ret
  exact ⟨ret_bool (by unfold hasP; rw [decide_eq_false (by omega)]; rfl), rfl⟩
set_option maxHeartbeats 400000 in
theorem i_CountCoalitions (n : Int) (w : World) : Calls Tryd.prog 39 #[.int .i64 n] w fun e w' => e = .returned (.int .i64 (cntC n)) ∧ w = w' := by
 cases hk : inB n 0 5
 ·go_enter Tryd.func39, Tryd.ntmps39
  go_wp2_with (first | (go_at_call 50; refine (i_within _ _ _ _).mono ?_; rintro e w' ⟨rfl, rfl⟩))
  go_ret
  exact ⟨ret_int (by unfold cntC; rw [hk]; rfl), rfl⟩
 ·obtain ⟨k, rfl⟩ : ∃ k : Nat, n = k := ⟨n.toNat, by unfold inB at hk; simp at hk; omega⟩
  have hn : k ≤ 5 := by unfold inB at hk; simp at hk; omega
  have hw := wrap_pow k hn
  go_enter Tryd.func39, Tryd.ntmps39
  go_wp2_with (first | (go_at_call 50; refine (i_within _ _ _ _).mono ?_; rintro e w' ⟨rfl, rfl⟩))
  go_ret
  exact ⟨ret_int (by unfold cntC; rw [hk]; simpa using wrap_pow k hn), rfl⟩
set_option maxHeartbeats 400000 in
theorem s_CountCoalitions (n : Int) (w : World) : Calls Tryd.prog 28 #[.int .i64 n] w fun e w' => e = .returned (.int .i64 (cntC n)) ∧ w = w' := by
 cases hk : inB n 0 5
 ·go_enter Tryd.func28, Tryd.ntmps28
  go_wp2_with (first | (go_at_call 27; refine (s_l1In _ _ _ _).mono ?_; rintro e w' ⟨rfl, rfl⟩))
  go_ret
  exact ⟨ret_int (by unfold cntC; rw [hk]; rfl), rfl⟩
 ·obtain ⟨m, rfl⟩ : ∃ k : Nat, n = k := ⟨n.toNat, by unfold inB at hk; simp at hk; omega⟩
  have hn : m ≤ 5 := by unfold inB at hk; simp at hk; omega
  go_enter Tryd.func28, Tryd.ntmps28
  go_wp2_with (first | (go_at_call 27; refine (s_l1In _ _ _ _).mono ?_; rintro e w' ⟨rfl, rfl⟩))
  go_loop [3, 4] (fun s i => ∃ (k : Nat) (z : Int), k ≤ m ∧ i = .int .i64 k ∧ s = .int .i64 z ∧ 0 ≤ z ∧ z ≤ 32 ∧ Hid (z = 2 ^ k)) (fun _ i => m - (intOf i).toNat)
  case atStart => exact ⟨0, 1, Nat.zero_le _, rfl, rfl, by omega, by omega, Lib.hid (by simp)⟩
  case round =>
   obtain ⟨k, z, hkm, rfl, rfl, hz0, hz1, HZ⟩ := hrel
   by_cases hlt : k < m
   ·go_wp2
    go_round
    case rel =>
     refine ⟨k + 1, z * 2, by omega, by go_num, rfl, by omega, ?_, Lib.hid (by rw [HZ.out, Int.pow_succ])⟩
     have := pow_le5 (k + 1) (by omega)
     rw [Int.pow_succ, ← HZ.out] at this
     exact this
    case measure => simp [intOf]; omega
   ·go_wp2
    go_ret
    have hkm' : k = m := by omega
    subst hkm'
    exact ⟨ret_int (by unfold cntC; rw [hk]; simpa using HZ.out), rfl⟩
theorem cntC_bit (k : Int) (h : inB k 0 4 = true) : cntC k = 2 ^ k.toNat := by
 unfold cntC
 rw [if_pos]
 unfold inB at *
 simp at *; omega
set_option maxHeartbeats 400000 in
theorem s_l2Bit (n : Int) (w : World) : Calls Tryd.prog 55 #[.int .i64 n] w fun e w' => e = .returned (.int .i64 (cntC n)) ∧ w = w' := by
 go_enter Tryd.func55, Tryd.ntmps55
 go_wp2_with (first | (go_at_call 28; refine (s_CountCoalitions _ _).mono ?_; rintro e w' ⟨rfl, rfl⟩))
 go_ret
 exact ⟨rfl, rfl⟩
set_option maxHeartbeats 400000 in
theorem s_HasPlayer (s k : Int) (w : World) (h' : s ≤ 9223372036854775807) :
 Calls Tryd.prog 30 #[.int .i64 s, .int .i64 k] w fun e w' => e = .returned (.bool (hasP s k)) ∧ w = w' := by
 cases hk : inB k 0 4
 ·go_enter Tryd.func30, Tryd.ntmps30
  go_wp2_with (first | (go_at_call 27; refine (s_l1In _ _ _ _).mono ?_; rintro e w' ⟨rfl, rfl⟩))
  go_ret
  exact ⟨ret_bool (by unfold hasP; rw [hk]; simp), rfl⟩
 ·by_cases hs : 0 ≤ s
  ·obtain ⟨n, rfl⟩ : ∃ n : Nat, k = n := ⟨k.toNat, by unfold inB at hk; simp at hk; omega⟩
   have hn : n ≤ 4 := by unfold inB at hk; simp at hk; omega
   have hc : cntC (n : Int) = 2 ^ n := by rw [cntC_bit _ hk]; simp
   have hp := pow_pos n
   have hd := div_pow s n hs
   have hd1 := hd.1
   have hne : ((2 : Int) ^ n == 0) = false := by simp; omega
   have HB := Lib.hid (show (s / 2 ^ n % 2 == 1) = bit s n by unfold bit; rw [Bool.eq_iff_iff]; simp)
   have HD := Lib.hid hd
   clear hd
   go_enter Tryd.func30, Tryd.ntmps30
   go_wp2_with (first | (go_at_call 27; refine (s_l1In _ _ _ _).mono ?_; rintro e w' ⟨rfl, rfl⟩) | (go_at_call 55; refine (s_l2Bit _ _).mono ?_; rintro e w' ⟨rfl, rfl⟩))
   go_ret
   exact ⟨ret_bool (by rw [HB.out]; unfold hasP; rw [hk]; simp [hs]), rfl⟩
  ·go_enter Tryd.func30, Tryd.ntmps30
   go_wp2_with (first | (go_at_call 27; refine (s_l1In _ _ _ _).mono ?_; rintro e w' ⟨rfl, rfl⟩))
   go_ret
   exact ⟨ret_bool (by unfold hasP; rw [decide_eq_false (by omega)]; rfl), rfl⟩
def bitI (b : Bool) : Int := if b then 1 else 0
set_option maxHeartbeats 400000 in
theorem s_l1Bit (b : Bool) (w : World) : Calls Tryd.prog 36 #[.bool b] w fun e w' => e = .returned (.int .i64 (bitI b)) ∧ w = w' := by
 cases b
 all_goals
  go_enter Tryd.func36, Tryd.ntmps36
  go_wp2
  go_ret
  exact ⟨rfl, rfl⟩
def sumTo (s : Int) (l : List Int) : Nat → Int
 | 0 => 0
 | k + 1 => if bit s k then wrap64 (sumTo s l k + l[k]?.getD 0) else sumTo s l k
theorem hasP_bit (s : Int) (k : Nat) (h : 0 ≤ s) (hk : k ≤ 4) : hasP s (k : Int) = bit s k := by
 unfold hasP inB
 rw [decide_eq_true h, decide_eq_true (by omega), decide_eq_true (by omega)]
 simp
set_option maxHeartbeats 400000 in
theorem i_sumOver {w : World} {a : Option Addr} {n cap : Nat} {l : List Int} (s : Int) (h : Ints w a n cap l) (h0 : 0 ≤ s) (h1 : s ≤ 9223372036854775807) (h5 : n ≤ 60) :
 Calls Tryd.prog 46 #[.slice a n cap, .int .i64 s] w fun e w' => e = .returned (.int .i64 (sumTo s l n)) ∧ w = w' := by
 have hn := h.hcap
 have hm := h.hmax
 go_enter Tryd.func46, Tryd.ntmps46
 go_wp2
 go_loop [5, 10] (fun t i => ∃ k : Nat, k ≤ n ∧ i = .int .i64 k ∧ t = .int .i64 (sumTo s l k)) (fun _ i => n - (intOf i).toNat)
 case atStart => exact ⟨0, Nat.zero_le _, rfl, rfl⟩
 case round =>
  obtain ⟨k, hk, rfl, rfl⟩ := hrel
  by_cases hlt : k < n
  ·obtain ⟨b, off, rfl, hc⟩ := h.at hlt
   have hb := bit_test s k h0 h1
   cases hbit : bit s k
   all_goals
    rw [hbit] at hb
    have HB := Lib.hid hbit
    clear hbit
    go_wp2
    go_round
    case rel => exact ⟨k + 1, by omega, by go_num, by simp only [sumTo, HB.out]; rfl⟩
    case measure => simp [intOf]; omega
  ·go_wp2
   go_ret
   have hkn : k = n := by omega
   subst hkn
   exact ⟨rfl, rfl⟩
def cN (n : Nat) : Nat := 2 ^ n
theorem cN_pow (n : Nat) : (cN n : Int) = 2 ^ n := by unfold cN; simp
theorem cN_le (n : Nat) (h : n ≤ 5) : 1 ≤ cN n ∧ cN n ≤ 32 := by
 have h1 := pow_pos n
 have h2 := pow_le5 n h
 rw [← cN_pow] at h1 h2
 omega
theorem cntC_nat (n : Nat) (h : n ≤ 5) : cntC (n : Int) = (cN n : Int) := by
 unfold cntC
 rw [if_pos (by unfold inB; simp; omega), cN_pow]; simp
set_option maxHeartbeats 400000 in
theorem s_CountC (n : Nat) (h : n ≤ 5) (w : World) : Calls Tryd.prog 28 #[.int .i64 (n : Int)] w fun e w' => e = .returned (.int .i64 (cN n : Int)) ∧ w = w' := by
 have := s_CountCoalitions n w
 rwa [cntC_nat n h] at this
theorem i_CountC (n : Nat) (h : n ≤ 5) (w : World) : Calls Tryd.prog 39 #[.int .i64 (n : Int)] w fun e w' => e = .returned (.int .i64 (cN n : Int)) ∧ w = w' := by
 have := i_CountCoalitions n w
 rwa [cntC_nat n h] at this
set_option linter.unusedSimpArgs false
set_option maxRecDepth 100000
def bs (l : List UInt8) : ByteArray := ⟨l.toArray⟩
theorem bs_add (l l' : List UInt8) : bs l ++ bs l' = bs (l ++ l') := by
 unfold bs
 apply ByteArray.ext
 simp
theorem bs_size (l : List UInt8) : (bs l).size = l.length := by
 show (l.toArray).size = _
 simp
def decS (m : Nat) : List UInt8 := if m = 0 then [] else Lib.decDigits m
theorem decS_step {m : Nat} (h : m ≠ 0) : decS m = decS (m / 10) ++ [UInt8.ofNat (48 + m % 10)] := by
 unfold decS
 rw [if_neg h, Lib.decDigits]
 split
 ·rename_i h1
  rw [if_pos (by omega), Nat.mod_eq_of_lt h1]; rfl
 ·rw [if_neg (by omega)]
theorem tab_ext {w w' : World} {name : String} {k : IntKind} {zs : List Int} (h : Lib.TabIs Tryd.prog w name k zs) (hx : Ext w w') : Lib.TabIs Tryd.prog w' name k zs := Lib.tabBelow_of_tabIs h w' hx
theorem i_FormatInt {w : World} (n : Nat) (hn : n ≤ 1000000) (ht : Lib.TabIs Tryd.prog w "internal/strconv.uint64pow10" .u64 Lib.pow10Tab) :
 Calls Tryd.prog 25 #[.int .i64 (n : Int)] w fun e w' => e = .returned (.string (bs (Lib.decDigits n))) ∧ Ext w w' := by
 have HC := Lib.hid (Any.strconv_Itoa laysItoa (n : Int) (by omega) (by omega) w ht)
 go_enter Tryd.func25, Tryd.ntmps25
 go_wp2_with fail
 refine HC.out.mono ?_
 rintro e w' ⟨rfl, k, os, rfl⟩
 have HX := Lib.hid (show Ext w _ from Lib.below_grow _ w (Nat.le_refl _) k os)
 rw [Lib.itoa_nonneg]
 obtain ⟨W, hW⟩ : ∃ W, W = Sort.grow (w.drewN k) os := ⟨_, rfl⟩
 rw [← hW] at HX
 rw [← hW]
 clear hW
 go_wp2_with fail
 go_ret
 exact ⟨rfl, HX.out⟩
theorem ret_str {a b : ByteArray} (h : a = b) : Ending.returned (.string a) = Ending.returned (.string b) := by rw [h]
theorem conv_one {w : World} (x : UInt8) {y : Int} (hy : (x.toNat : Int) = y) : (convert 46 9 (.slice (some ⟨w.heap.size, 0, none⟩) 1 1)).run Tryd.prog (w.alloc (.cells #[.int .u8 y] 5)) = .ok (.string (bs [x])) (w.alloc (.cells #[.int .u8 y] 5)) := by
 subst hy
 exact run_convert_bytes_back (P := Tryd.prog) (w.alloc (.cells #[.int .u8 (x.toNat : Int)] 5)) 46 9 5 ⟨w.heap.size, 0, none⟩ 1 [x] Tryd.underlying46 Tryd.underlying5 Tryd.underlying9 (fun j hj => by
  obtain rfl : j = 0 := by simp at hj; omega
  simp [Addr.add])
set_option maxHeartbeats 4000000 in
theorem s_FormatInt {w : World} (n : Nat) (hn : n ≤ 1000000) :
 Calls Tryd.prog 11 #[.int .i64 (n : Int)] w fun e w' => e = .returned (.string (bs (Lib.decDigits n))) ∧ Ext w w' := by
 by_cases h0 : n = 0
 ·subst h0
  have HZ := Lib.hid (show bs (Lib.decDigits 0) = { data := #[48] } by rw [Lib.decDigits_one (by omega)]; rfl)
  go_enter Tryd.func11, Tryd.ntmps11
  go_wp2_with fail
  go_ret
  exact ⟨ret_str HZ.out.symm, Ext.refl _⟩
 have hz : ((n : Int) == 0) = false := by simp; omega
 have hlt0 : ¬ (n : Int) < 0 := by omega
 have hlen : (Lib.decDigits n).length ≤ 21 := by
  have := Lib.itoa_length_le (n : Int) (by omega) (by omega)
  rwa [Lib.itoa_nonneg] at this
 have HL := Lib.hid hlen
 have HD := Lib.hid (show decS n ++ [] = Lib.decDigits n by unfold decS; rw [if_neg h0, List.append_nil])
 clear hlen
 go_enter Tryd.func11, Tryd.ntmps11
 go_wp2_with fail
 go_loopg [0, 4] n (fun gk nn oo wr => ∃ (m : Nat) (l : List UInt8), Hid (m ≤ gk) ∧ nn = .int .i64 (m : Int) ∧ oo = .string (bs l) ∧ Hid (decS m ++ l = Lib.decDigits n) ∧ Hid (Ext w wr) ∧ Hid (m ≤ 1000000))
 case atStart => exact ⟨n, [], Lib.hid (Nat.le_refl _), rfl, rfl, HD, Lib.hid (Ext.refl _), Lib.hid hn⟩
 case round =>
  obtain ⟨g1, h_g1⟩ : ∃ x, x = gk := ⟨_, rfl⟩
  subst h_g1
  obtain ⟨wr, h_wr⟩ : ∃ x, x = wr := ⟨_, rfl⟩
  subst h_wr
  obtain ⟨m, l, HM, rfl, rfl, HDM, HX, HMB⟩ := hrel
  by_cases hm0 : m = 0
  ·subst hm0
   have HF := Lib.hid (show bs l = bs (Lib.decDigits n) by rw [← HDM.out]; rfl)
   go_wp2_with fail
   go_ret
   exact ⟨ret_str HF.out, HX.out⟩
  ·have hmm : ((m : Int) != 0) = true := by simp; omega
   have hm6 : m ≤ 1000000 := HMB.out
   have hmod : Int.tmod (m : Int) 10 = ((m % 10 : Nat) : Int) := by rw [Int.tmod_eq_emod_of_nonneg (by omega)]; omega
   have hdiv : Int.tdiv (m : Int) 10 = ((m / 10 : Nat) : Int) := by rw [Int.tdiv_eq_ediv_of_nonneg (by omega)]; omega
   obtain ⟨d, hd⟩ : ∃ d, d = m % 10 := ⟨_, rfl⟩
   obtain ⟨q, hq⟩ : ∃ q, q = m / 10 := ⟨_, rfl⟩
   rw [← hd] at hmod
   rw [← hq] at hdiv
   have hd10 : d < 10 := by omega
   obtain ⟨x, hx⟩ : ∃ x, x = UInt8.ofNat (48 + d) := ⟨_, rfl⟩
   have HS := Lib.hid (show decS m = decS q ++ [x] by rw [hx, hd, hq]; exact decS_step hm0)
   have hqm : q < m := by omega
   have hll : l.length ≤ 21 := by
    have h1 := HL.out
    rw [← HDM.out, List.length_append] at h1; omega
   have hdn : ¬ (d : Int) < 0 := by omega
   have hw8 : IntKind.u8.wrap (48 + (d : Int)) = 48 + (d : Int) := by rw [IntKind.wrap_u8]; omega
   have hw6 : IntKind.i64.wrap (48 + (d : Int)) = 48 + (d : Int) := by rw [IntKind.wrap_i64]; omega
   have hwq : IntKind.i64.wrap (q : Int) = (q : Int) := by rw [IntKind.wrap_i64]; omega
   have hcv := conv_one (w := wr) x (y := 48 + (d : Int)) (by rw [hx, UInt8.toNat_ofNat']; omega)
   have hfit : ¬ 9223372036854775807 < (bs [x]).size + (bs l).size := by rw [bs_size, bs_size]; simp; omega
   have HA := Lib.hid (bs_add [x] l)
   clear hd hq hx
   clear hm0
   go_wp2_with fail
   rw [HA.out]
   go_roundg (g1 - 1)
   case measure => have := HM.out; omega
   case rel => exact ⟨q, [x] ++ l, Lib.hid (by have := HM.out; omega), rfl, rfl, Lib.hid (by rw [← List.append_assoc, ← HS.out]; exact HDM.out), Lib.hid (HX.out.trans (Ext.alloc _ _)), Lib.hid (by omega)⟩
set_option maxHeartbeats 400000 in
theorem s_IsValidVoting {w : World} {x : Int} {a : Option Addr} {n cap : Nat} {l : List Int} (h : Ints w a n cap l) :
 Calls Tryd.prog 37 #[pair x a n cap] w fun e w' => e = .returned (.bool (validPair 1 x l)) ∧ Ext w w' := by
 have h1 := h.alloc (.cells #[.int .i64 x, .slice a n cap] 42)
 have hq := fun m => quiet_same (s_l18Small 100 (h1.drewN m))
 cases hs : small l 100
 all_goals
  have HS := Lib.hid hs
  rw [hs] at hq
  have HQ := Lib.hid hq
  clear hq hs
  go_enter Tryd.func37, Tryd.ntmps37
  go_wp2
  go_quiet ((first | (go_at_call 56; exact HQ.out _) | (go_at_call 58; exact quiet_same (s_l18Sum (h1.drewN _))) | (go_at_call 27; exact quiet_same (s_l1In _ _ _ _))))
  go_wp2
  go_ret
  refine ⟨ret_bool ?_, below_drewN (Ext.alloc _ _) _⟩
  simp only [validPair, HS.out, Bool.true_and, Bool.false_and]
theorem go_IsValidVoting1 : IsGo Tryd.prog 66 := isGo Tryd.func66 (by kernel_rfl) (by kernel_rfl)
set_option maxHeartbeats 400000 in
theorem i_IsValidVoting1 (x : Int) (w : World) : Calls Tryd.prog 66 #[.int .i64 x] w fun e w' => e = .returned (.bool (!inB x 0 100)) ∧ w = w' := by
 go_enter Tryd.func66, Tryd.ntmps66
 go_wp2_with (first | (go_at_call 50; refine (i_within _ _ _ _).mono ?_; rintro e w' ⟨rfl, rfl⟩))
 go_ret
 exact ⟨rfl, rfl⟩
theorem asks_IsValidVoting1 (w : World) : Asks Tryd.prog w 66 #[] (fun x => !inB x 0 100) :=
 fun x w1 _ => (i_IsValidVoting1 x w1).mono fun e w' ⟨he, hw⟩ => ⟨he, hw ▸ Ext.refl _⟩
set_option maxHeartbeats 400000 in
theorem i_IsValidVoting {w : World} {x : Int} {a : Option Addr} {n cap : Nat} {l : List Int} (h : Ints w a n cap l) :
 Calls Tryd.prog 47 #[pair x a n cap] w fun e w' => e = .returned (.bool (validPair 1 x l)) ∧ Ext w w' := by
 have h1 := h.alloc (.cells #[.int .i64 x, .slice a n cap] 42)
 have HX := Lib.hid (Ext.alloc w (.cells #[.int .i64 x, .slice a n cap] 42))
 have HC := Lib.hid (containsFunc_ints h1 go_IsValidVoting1 (asks_IsValidVoting1 _))
 have HL := Lib.hid h.hlen
 cases hin : inB n 1 5
 ·have HI := Lib.hid hin
  go_enter Tryd.func47, Tryd.ntmps47
  go_wp2_with (first | (go_at_call 50; refine (i_within _ _ _ _).mono ?_; rintro e w' ⟨rfl, rfl⟩))
  go_ret
  refine ⟨ret_bool ?_, HX.out⟩
  simp only [validPair, small, HL.out, HI.out, Bool.and_false, Bool.false_and]
 ·have HI := Lib.hid hin
  cases hany : l.any (fun x => !inB x 0 100)
  all_goals
   have HA := Lib.hid hany
   rw [hany] at HC
   clear hany
   go_enter Tryd.func47, Tryd.ntmps47
   go_wp2_with (first | (go_at_call 50; refine (i_within _ _ _ _).mono ?_; rintro e w' ⟨rfl, rfl⟩))
  ·refine HC.out.mono ?_
   rintro e w1 ⟨rfl, hx⟩
   have hcs := hx.cells
   have HX1 := Lib.hid (HX.out.trans hx)
   have h2 := h1.ext hx
   clear hx
   go_wp2
   go_quiet ((first | (go_at_call 65; exact quiet_same (i_total (h2.drewN _))) | (go_at_call 50; exact quiet_same (i_within _ _ _ _))))
   go_wp2
   go_ret
   refine ⟨ret_bool ?_, below_drewN HX1.out _⟩
   simp only [validPair, small_any, HL.out, HI.out, HA.out, Bool.not_false, Bool.true_and]
  ·refine HC.out.mono ?_
   rintro e w1 ⟨rfl, hx⟩
   have HX1 := Lib.hid (HX.out.trans hx)
   clear hx
   go_wp2
   go_ret
   refine ⟨ret_bool ?_, HX1.out⟩
   simp only [validPair, small_any, HA.out, Bool.not_true, Bool.false_and]
end Go.Proofs.YtalmoolkhcgmmaaDoor
