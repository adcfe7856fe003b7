import Derived.Test.YtalmoolkhcgmmaaDoorExAllG0
import Derived.Deep.RegionLaw
import Derived.Deep.RegionWith
namespace Go.Proofs.YtalmoolkhcgmmaaDoor
set_option linter.unusedVariables false
open Go.RowKit
def winsB (q : Int) (l : List Int) (s : Int) : Bool := decide (q ≤ sumTo s l l.length)
set_option maxHeartbeats 400000 in
theorem i_wins {w : World} {q : Int} {a : Option Addr} {n cap : Nat} {l : List Int} (s : Int) (h : Ints w a n cap l) (h0 : 0 ≤ s) (h1 : s ≤ 9223372036854775807) (h5 : n ≤ 60) :
 Calls Tryd.prog 49 #[pair q a n cap, .int .i64 s] w fun e w' => e = .returned (.bool (winsB q l s)) ∧ Ext w w' := by
 have hi := h.alloc (.cells #[.int .i64 q, .slice a n cap] 42)
 have HL := Lib.hid h.hlen
 go_enter Tryd.func49, Tryd.ntmps49
 go_wp2
 go_quiet ((go_at_call 46; exact quiet_same (i_sumOver s (hi.drewN _) h0 h1 h5)))
 go_wp2
 go_ret
 exact ⟨ret_bool (by unfold winsB; rw [HL.out]), below_drewN (Ext.alloc _ _) _⟩
set_option maxHeartbeats 400000 in
theorem s_l20Wins {w : World} {q : Int} {a : Option Addr} {n cap : Nat} {l : List Int} (s : Int) (h : Ints w a n cap l) (h0 : 0 ≤ s) (h1 : s ≤ 9223372036854775807) (h5 : n ≤ 5) :
 Calls Tryd.prog 38 #[pair q a n cap, .int .i64 s] w fun e w' => e = .returned (.bool (winsB q l s)) ∧ Ext w w' := by
 have hi := h.alloc (.cells #[.int .i64 q, .slice a n cap] 42)
 have HL := Lib.hid h.hlen
 go_enter Tryd.func38, Tryd.ntmps38
 go_wp2
 go_loop [5, 6] (fun t i => ∃ k : Nat, k ≤ n ∧ i = .int .i64 k ∧ t = .int .i64 (sumTo s l k)) (fun _ i => n - (intOf i).toNat)
 case atStart => exact ⟨0, Nat.zero_le _, rfl, rfl⟩
 case round =>
  obtain ⟨k, hk, rfl, rfl⟩ := hrel
  by_cases hlt : k < n
  ·obtain ⟨b, off, rfl, hc⟩ := hi.at hlt
   have hp := hasP_bit s k h0 (by omega)
   cases hbit : bit s k
   all_goals
    rw [hbit] at hp
    have HB := Lib.hid hbit
    clear hbit
    go_wp2_with (first | (go_at_call 30; refine (s_HasPlayer _ _ _ h1).mono ?_; rintro e w' ⟨rfl, rfl⟩))
    go_round
    case rel => exact ⟨k + 1, by omega, by go_num, by simp only [sumTo, HB.out]; rfl⟩
    case measure => simp [intOf]; omega
  ·go_wp2
   go_ret
   have hkn : k = n := by omega
   subst hkn
   exact ⟨ret_bool (by unfold winsB; rw [HL.out]), Ext.alloc _ _⟩
theorem valid_len {lo x : Int} {l : List Int} (h : validPair lo x l = true) : 1 ≤ l.length ∧ l.length ≤ 5 := by
 unfold validPair small inB at h
 simp only [Bool.and_eq_true, decide_eq_true_eq] at h
 omega
structure IntSS (w : World) (a : Option Addr) (n cap : Nat) (L : List (List Int)) : Prop where
 hlen : L.length = n
 hcap : n ≤ cap
 hmax : cap ≤ 9223372036854775807
 cell : ∀ k, k < n → ∃ b off, a = some ⟨b, off, none⟩ ∧ ∀ k, k < n → ∃ a' n' c', w.cell? ⟨b, off + k, none⟩ = some (.slice a' n' c') ∧ Ints w a' n' c' (L[k]?.getD [])
theorem IntSS.ext {w w' : World} {a : Option Addr} {n cap : Nat} {L : List (List Int)} (h : IntSS w a n cap L) (hx : Ext w w') : IntSS w' a n cap L :=
 ⟨h.hlen, h.hcap, h.hmax, fun k hk => let ⟨b, off, e, hc⟩ := h.cell k hk; ⟨b, off, e, fun k hk => let ⟨a', n', c', h1, h2⟩ := hc k hk; ⟨a', n', c', hx.cellSome h1, h2.ext hx⟩⟩⟩
theorem IntSS.at {w : World} {a : Option Addr} {n cap : Nat} {L : List (List Int)} (h : IntSS w a n cap L) {k : Nat} (hk : k < n) :
 ∃ b off a' n' c', a = some ⟨b, off, none⟩ ∧ w.cell? ⟨b, off + k, none⟩ = some (.slice a' n' c') ∧ Ints w a' n' c' (L[k]?.getD []) :=
 let ⟨b, off, e, hc⟩ := h.cell k hk; let ⟨a', n', c', h1, h2⟩ := hc k hk; ⟨b, off, a', n', c', e, h1, h2⟩
theorem IntSS.alloc {w : World} {a : Option Addr} {n cap : Nat} {L : List (List Int)} (h : IntSS w a n cap L) (o : Obj) : IntSS (w.alloc o) a n cap L := h.ext (Ext.alloc w o)
theorem IntSS.drewN {w : World} {a : Option Addr} {n cap : Nat} {L : List (List Int)} (h : IntSS w a n cap L) (m : Nat) : IntSS (w.drewN m) a n cap L := h.ext (Drew.ext ⟨m, rfl⟩)
theorem takeL_snoc {α : Type} {L : List (List α)} {k : Nat} (h : k < L.length) : L.take (k+1) = L.take k ++ [L[k]?.getD []] := by
 rw [List.take_succ_eq_append_getElem h]; simp [h]
def Filled (w : World) (B : Nat) (vs : List Value) (L : List (List Int)) (k : Nat) : Prop :=
 ∀ j, j < k → ∃ b m, vs[j]? = some (.slice (some ⟨b, 0, none⟩) m m) ∧ B < b ∧ (L[j]?.getD []).length = m ∧ Row w b 3 (L[j]?.getD [])
theorem Filled.ext {w w' : World} {B : Nat} {vs : List Value} {L : List (List Int)} {k : Nat} (h : Filled w B vs L k) (hx : Ext w w') : Filled w' B vs L k :=
 fun j hj => let ⟨b, m, h1, h2, h3, h4⟩ := h j hj; ⟨b, m, h1, h2, h3, h4.ext hx⟩
def AsksS (P : Program) (w : World) (fid : FuncId) (ca : Array Value) (p : List Int → Bool) : Prop :=
 ∀ (l : List Int) (a : Option Addr) (n c : Nat) (w1 : World), Ext w w1 → Ints w1 a n c l → Calls P fid (#[.slice a n c] ++ ca) w1 fun e w2 => e = .returned (.bool (p l)) ∧ Ext w1 w2
set_option maxHeartbeats 400000 in
theorem indexFunc_intss {w : World} {a : Option Addr} {n cap : Nat} {L : List (List Int)} {fid : FuncId} {ca : Array Value} {p : List Int → Bool} (h : IntSS w a n cap L) (hg : IsGo Tryd.prog fid) (hf : AsksS Tryd.prog w fid ca p) :
 Calls Tryd.prog 69 #[.slice a n cap, .func (.func fid) #[] ca] w fun e w' => e = .returned (.int .i64 (indexF p L)) ∧ Ext w w' := by
 have hn := h.hcap
 have hm := h.hmax
 have hcf : ∀ (args : Array Value) (w : World), (callFunc fid args).run Tryd.prog w = .ok (.enter fid args) w := hg
 go_enter Tryd.func69, Tryd.ntmps69
 go_wp2
 go_loopw [8] (fun i wr => ∃ k : Nat, k ≤ n ∧ i = .int .i64 k ∧ Hid ((L.take k).all (fun x => !p x) = true) ∧ Ext w wr) (fun i _ => n - (intOf i).toNat)
 case atStart => exact ⟨0, Nat.zero_le _, rfl, Lib.hid rfl, Ext.refl _⟩
 case round =>
  obtain ⟨k, hk, rfl, HA, hx⟩ := hrel
  by_cases hlt : k < n
  ·obtain ⟨b, off, a', n', c', rfl, hc, hr⟩ := (h.ext hx).at hlt
   have HL := Lib.hid h.hlen
   have HF := Lib.hid (hf (L[k]?.getD []) a' n' c' wr hx hr)
   clear hr
   by_cases hb : p (L[k]?.getD []) = true
   ·have HB := Lib.hid hb
    go_wp2_with fail
    refine HF.out.mono ?_
    rintro e w2 ⟨rfl, hx2⟩
    go_wp2
    go_ret
    exact ⟨ret_int (indexF_at (by have := HL.out; omega) HA.out HB.out).symm, hx.trans (by assumption)⟩
   ·have HB := Lib.hid hb
    simp only [Bool.not_eq_true] at hb
    go_wp2_with fail
    refine HF.out.mono ?_
    rintro e w2 ⟨rfl, hx2⟩
    go_wp2
    go_roundw
    case rel => exact ⟨k + 1, by omega, by go_num, Lib.hid (by rw [takeL_snoc (by have := HL.out; omega), List.all_append, HA.out]; simpa using HB.out), hx.trans (by assumption)⟩
    case measure => simp [intOf]; omega
  ·have HL := Lib.hid h.hlen
   go_wp2
   go_ret
   refine ⟨ret_int ?_, hx⟩
   have := HA.out
   rw [List.take_of_length_le (by have := HL.out; omega)] at this
   exact (indexF_none this).symm
set_option maxHeartbeats 400000 in
theorem containsFunc_intss {w : World} {a : Option Addr} {n cap : Nat} {L : List (List Int)} {fid : FuncId} {ca : Array Value} {p : List Int → Bool} (h : IntSS w a n cap L) (hg : IsGo Tryd.prog fid) (hf : AsksS Tryd.prog w fid ca p) :
 Calls Tryd.prog 59 #[.slice a n cap, .func (.func fid) #[] ca] w fun e w' => e = .returned (.bool (L.any p)) ∧ Ext w w' := by
 have HC := Lib.hid (indexFunc_intss h hg hf)
 go_enter Tryd.func59, Tryd.ntmps59
 go_wp2_with fail
 refine HC.out.mono ?_
 rintro e w2 ⟨rfl, hx2⟩
 go_wp2
 all_goals go_ret; refine ⟨ret_bool ?_, hx2⟩; rw [← indexF_any]
def Near (w : World) (v v' : Value) : Prop := ∀ k, v'.ownBlock = some k → v.ownBlock = some k ∨ w.heap.size ≤ k
theorem Near.refl (w : World) (v : Value) : Near w v v := fun k hk => .inl hk
theorem Near.trans {w w1 : World} {v v1 v2 : Value} (h : Near w v v1) (h1 : Near w1 v1 v2) (hs : w.heap.size ≤ w1.heap.size) : Near w v v2 := fun k hk => by
 rcases h1 k hk with h2 | h2
 ·exact h k h2
 ·exact .inr (by omega)
theorem ext_grown {w0 w w' : World} {row : Option Nat} (h : Ext w0 w) (hg : w.grownBy w' row) (hr : ∀ k, row = some k → w0.heap.size ≤ k) : Ext w0 w' := Below.grown h hg h.size hr
section
variable {P : Program} (w : World)
theorem run_append_near (base : Nat) (t ty e : TypeId) (i : TypeInfo) (z : Value) (size bytes : Nat) (ht : P.underlying t = some (.slice e)) (hi : P.info? e = some i) (hz : i.zero = some z)
 (hsize : i.size = size) (hby : i.bytes = bytes) (hzs : z.cells.size = size) (hsz : 0 < size)
 (v : Value) (n : Nat) (xs : List Value) (hown : w.ownsRow base e size v n xs)
 (a : Addr) (m c : Nat) (news : List Value) (hl : news.length = m * size) (hnews : ∀ j u, news[j]? = some u → w.cell? (a.add j) = some u) (h1 : ∀ u ∈ news, u.oneCell' = true)
 (h63 : n + m ≤ maxLen) (hbytes : (n + m) * bytes ≤ 140737488355328) (hbase : base ≤ w.heap.size) :
 ∃ v' w', (Builtin.append_ #[t, t] ty #[v, .slice (some a) m c]).run P w = .ok v' w' ∧ w'.ownsRow base e size v' (n + m) (xs ++ news) ∧ w.grownBy w' v.ownBlock ∧ Near w v v' := by
 obtain ⟨v', w', hrun, h2, h3, _⟩ := run_append_own (P := P) w base t ty e i z size bytes ht hi hz hsize hby hzs hsz v n xs hown a m c news hl hnews h1 h63 hbytes hbase
 refine ⟨v', w', hrun, h2, h3, ?_⟩
 subst hsize
 subst hby
 have hsmall : n + m ≤ 9223372036854775807 := by simp only [maxLen] at h63; omega
 rcases hown.2 with ⟨rfl, rfl⟩ | ⟨g, cap, cur, rfl, hbg, hg, hnc, hcm, hcs, htake⟩
 ·by_cases hm : m = 0
  ·subst hm
   intro k hk
   rcases h2.2 with ⟨rfl, _⟩ | ⟨g', cap', cur', rfl, _, hg', _⟩
   ·simp [Value.ownBlock] at hk
   ·have hn : news = [] := List.eq_nil_of_length_eq_zero (by simpa using hl)
    subst hn
    have : (Builtin.append_ #[t, t] ty #[Value.slice none 0 0, .slice (some a) 0 c]).run P w = .ok (.slice none 0 0) w := by
     simp [Builtin.append_, run_underlying ht, sizeOf, typeInfo, hi, Builtin.lenOf, Builtin.firstCells, loadCells, loadCellsFrom]
    rw [this] at hrun
    simp at hrun
  ·have hr := run_append_nil (P := P) w t ty e i z ht hi hz a m c news hl hnews (by omega) (by omega) (by have hb := hbytes; simp only [Nat.zero_add] at hb; omega)
   rw [hr] at hrun
   simp only [Result.ok.injEq] at hrun
   obtain ⟨rfl, rfl⟩ := hrun
   intro k hk
   exact .inr (Nat.le_of_eq (Option.some.inj (show some w.heap.size = some k from hk)))
 ·by_cases hroom : n + m ≤ cap
  ·have hfit : n * i.size + news.length ≤ cur.size := by rw [hl, hcs, ← Nat.add_mul]; exact Nat.mul_le_mul_right _ hroom
   have hr := run_append_room (P := P) w t ty e i ht hi g n cap cur hg a m c news hl hnews h1 hroom hfit
   rw [hr] at hrun
   simp only [Result.ok.injEq] at hrun
   obtain ⟨rfl, rfl⟩ := hrun
   intro k hk
   exact .inl hk
  ·have holds : ∀ j u, xs[j]? = some u → w.cell? ((⟨g, 0, none⟩ : Addr).add j) = some u := hown.cells (g := g) rfl
   have hr := run_append_grow (P := P) w t ty e i z ht hi hz ⟨g, 0, none⟩ n cap xs hown.1 holds a m c news hl hnews (by omega) (by omega) (growslice_fits (by omega) hbytes)
   rw [hr] at hrun
   simp only [Result.ok.injEq] at hrun
   obtain ⟨rfl, rfl⟩ := hrun
   intro k hk
   exact .inr (Nat.le_of_eq (Option.some.inj (show some w.heap.size = some k from hk)))
theorem wp_append_near {o : Oper} {a : Act} {K : Act → World → Prop} {Q : Exit → Act → World → Prop} (s x : Operand) (t : TypeId)
 (ho : o.op = .call { callee := .builtin .append, args := #[s, x], argTypes := #[t, t] })
 (base : Nat) (e : TypeId) (i : TypeInfo) (z : Value) (size bytes : Nat) (ht : P.underlying t = some (.slice e)) (hi : P.info? e = some i) (hz : i.zero = some z)
 (hsize : i.size = size) (hby : i.bytes = bytes) (hzs : z.cells.size = size) (hsz : 0 < size)
 (v : Value) (n : Nat) (xs : List Value) (hs : a.eval s = v) (hown : w.ownsRow base e size v n xs)
 (ad : Addr) (m c : Nat) (news : List Value) (hx : a.eval x = .slice (some ad) m c) (hl : news.length = m * size) (hnews : ∀ j u, news[j]? = some u → w.cell? (ad.add j) = some u) (h1 : ∀ u ∈ news, u.oneCell' = true)
 (h63 : n + m ≤ maxLen) (hbytes : (n + m) * bytes ≤ 140737488355328) (hbase : base ≤ w.heap.size)
 (h : ∀ v' w', w'.ownsRow base e size v' (n + m) (xs ++ news) → w.grownBy w' v.ownBlock → Near w v v' → K (a.put o.dst v') w') : o.wp P a w K Q := by
 obtain ⟨v', w', hr, h2, h3, h4⟩ := run_append_near (P := P) w base t o.type e i z size bytes ht hi hz hsize hby hzs hsz v n xs hown ad m c news hl hnews h1 h63 hbytes hbase
 unfold Oper.wp execOp
 simp only [ho, resolve, invoke, builtin, Sem.run_bind, Sem.run_pure, Result.andThen_ok, List.map_toArray, List.map_cons, List.map_nil, hs, hx, hr]
 exact h v' w' h2 h3 h4
theorem wp_append_nothing {o : Oper} {a : Act} {K : Act → World → Prop} {Q : Exit → Act → World → Prop} (s x : Operand) (t : TypeId)
 (ho : o.op = .call { callee := .builtin .append, args := #[s, x], argTypes := #[t, t] })
 (base : Nat) (e : TypeId) (i : TypeInfo) (size : Nat) (ht : P.underlying t = some (.slice e)) (hi : P.info? e = some i)
 (v : Value) (n : Nat) (xs : List Value) (hs : a.eval s = v) (hown : w.ownsRow base e size v n xs) (c : Nat) (hx : a.eval x = .slice none 0 c)
 (h : K (a.put o.dst v) w) : o.wp P a w K Q := by
 have hrun : (Builtin.append_ #[t, t] o.type #[v, .slice none 0 c]).run P w = .ok v w := by
  rcases hown.2 with ⟨rfl, rfl⟩ | ⟨g, cap, cur, rfl, _, _, hnc, _⟩
  ·simp [Builtin.append_, run_underlying ht, sizeOf, typeInfo, hi, Builtin.lenOf, Builtin.firstCells]
  ·simp [Builtin.append_, run_underlying ht, sizeOf, typeInfo, hi, Builtin.lenOf, Builtin.firstCells, hnc, storeCells]
 unfold Oper.wp execOp
 simp only [ho, resolve, invoke, builtin, Sem.run_bind, Sem.run_pure, Result.andThen_ok, List.map_toArray, List.map_cons, List.map_nil, hs, hx, hrun]
 exact h
theorem step_of_wp {ops : Array Oper} {o : Oper} {a : Act} {K : Act → World → Prop} {Q : Exit → Act → World → Prop} {E : Prop} (hgd : o.guard = none) (h : o.wp P a w K Q) :
 if Region.wanted o (yielded ops a.tmps) = true then Oper.wp P o a w K Q else E := by
 have hw : Region.wanted o (yielded ops a.tmps) = true := by simp [Region.wanted, hgd]
 rw [if_pos hw]
 exact h
end
end Go.Proofs.YtalmoolkhcgmmaaDoor
namespace Go.Proofs.YtalmoolkhcgmmaaDoor
set_option linter.unusedVariables false
open Go.RowKit
def OwnI (w : World) (base : Nat) (v : Value) (l : List Int) : Prop := w.ownsRow base 3 1 v l.length (l.map (Value.int .i64))
def OwnV (w : World) (base : Nat) (v : Value) (vs : List Value) : Prop := w.ownsRow base 25 1 v vs.length vs
theorem OwnI.form {w : World} {base : Nat} {v : Value} {l : List Int} (h : OwnI w base v l) : ∃ a cap, v = .slice a l.length cap ∧ l.length ≤ cap ∧ cap ≤ 9223372036854775807 := by
 rcases h.2 with ⟨rfl, h0⟩ | ⟨g, cap, cur, rfl, _, _, h1, h2, _⟩
 ·exact ⟨none, 0, by rw [h0], by omega, by omega⟩
 ·exact ⟨_, cap, rfl, h1, by simpa [maxLen] using h2⟩
theorem OwnI.var {w : World} {base : Nat} {v : Value} {l : List Int} (h : OwnI w base v l) : ∃ a n cap, v = .slice a n cap ∧ Hid (l.length = n) := by
 obtain ⟨a, cap, e, _⟩ := h.form
 exact ⟨a, _, cap, e, rfl⟩
theorem OwnI.ints {w : World} {base : Nat} {a : Option Addr} {n cap : Nat} {l : List Int} (h : OwnI w base (.slice a n cap) l) : Ints w a n cap l := by
 rcases h.2 with ⟨he, h0⟩ | ⟨g, cap', cur, he, _, hg, h1, h2, hs, ht⟩
 ·simp only [Value.slice.injEq] at he
  obtain ⟨rfl, rfl, rfl⟩ := he
  exact ⟨h0, Nat.le_refl _, by omega, fun k hk => absurd hk (by omega)⟩
 ·simp only [Value.slice.injEq] at he
  obtain ⟨rfl, rfl, rfl⟩ := he
  refine ⟨rfl, h1, by simpa [maxLen] using h2, fun k hk => ⟨g, 0, rfl, fun k hk => ?_⟩⟩
  rw [Nat.zero_add, cell_of_row w g k cur _ (0, 0) hg]
  have : (cur.toList.take (l.length * 1))[k]? = some (.int .i64 (l[k]?.getD 0)) := by rw [ht]; simp [hk]
  rw [List.getElem?_take, if_pos (by omega)] at this
  simpa using this
theorem OwnI.lt {w : World} {base : Nat} {v : Value} {l : List Int} (h : OwnI w base v l) : ∀ k, v.ownBlock = some k → base ≤ k ∧ k < w.heap.size := World.ownsRow.lt h
theorem OwnI.keep {w w' : World} {base : Nat} {v : Value} {l : List Int} (h : OwnI w base v l) (hk : ∀ k, v.ownBlock = some k → w'.heap[k]? = w.heap[k]?) : OwnI w' base v l := by
 refine ⟨h.1, ?_⟩
 rcases h.2 with hn | ⟨g, cap, cur, rfl, hb, hgg, rest⟩
 ·exact .inl hn
 ·exact .inr ⟨g, cap, cur, rfl, hb, (hk g rfl).trans hgg, rest⟩
theorem OwnI.ext {w w' : World} {base : Nat} {v : Value} {l : List Int} (h : OwnI w base v l) (hx : Ext w w') : OwnI w' base v l := h.keep fun k hk => hx.block k (h.lt k hk).2
theorem OwnI.on {w : World} {base : Nat} {v : Value} {l : List Int} (h : OwnI w base v l) : On base w (fun W => OwnI W base v l) := fun w2 h2 => h.keep fun k hk => h2 k (h.lt k hk).1 (h.lt k hk).2
theorem OwnI.mono {w : World} {base base' : Nat} {v : Value} {l : List Int} (h : OwnI w base v l) (hb : base' ≤ base) : OwnI w base' v l := by
 refine ⟨h.1, ?_⟩
 rcases h.2 with hn | ⟨g, cap, cur, rfl, hbb, rest⟩
 ·exact .inl hn
 ·exact .inr ⟨g, cap, cur, rfl, by omega, rest⟩
theorem OwnI.nil (w : World) (base : Nat) : OwnI w base (.slice none 0 0) [] := World.ownsRow_nil w base _ 1
theorem OwnV.form {w : World} {base : Nat} {v : Value} {vs : List Value} (h : OwnV w base v vs) : ∃ a cap, v = .slice a vs.length cap ∧ vs.length ≤ cap ∧ cap ≤ 9223372036854775807 := by
 rcases h.2 with ⟨rfl, h0⟩ | ⟨g, cap, cur, rfl, _, _, h1, h2, _⟩
 ·exact ⟨none, 0, by rw [h0], by omega, by omega⟩
 ·exact ⟨_, cap, rfl, h1, by simpa [maxLen] using h2⟩
theorem OwnV.var {w : World} {base : Nat} {v : Value} {vs : List Value} (h : OwnV w base v vs) : ∃ a n cap, v = .slice a n cap ∧ Hid (vs.length = n) := by
 obtain ⟨a, cap, e, _⟩ := h.form
 exact ⟨a, _, cap, e, rfl⟩
theorem OwnV.cell {w : World} {base : Nat} {a : Option Addr} {n cap : Nat} {vs : List Value} (h : OwnV w base (.slice a n cap) vs) {k : Nat} (hk : k < n) : ∃ g, a = some ⟨g, 0, none⟩ ∧ base ≤ g ∧ ∀ k, k < n → w.cell? ⟨g, k, none⟩ = vs[k]? := by
 rcases h.2 with ⟨he, h0⟩ | ⟨g, cap', cur, he, hb, hg, h1, h2, hs, ht⟩
 ·simp only [Value.slice.injEq] at he
  omega
 ·simp only [Value.slice.injEq] at he
  obtain ⟨rfl, rfl, rfl⟩ := he
  refine ⟨g, rfl, hb, fun k hk => ?_⟩
  rw [cell_of_row w g k cur _ (0, 0) hg]
  have : (cur.toList.take (vs.length * 1))[k]? = vs[k]? := by rw [ht]
  rw [List.getElem?_take, if_pos (by omega)] at this
  simpa using this
theorem OwnV.len {w : World} {base : Nat} {a : Option Addr} {n cap : Nat} {vs : List Value} (h : OwnV w base (.slice a n cap) vs) : vs.length = n := by
 obtain ⟨a', cap', he, _⟩ := h.form
 simp only [Value.slice.injEq] at he
 exact he.2.1.symm
theorem OwnV.lt {w : World} {base : Nat} {v : Value} {vs : List Value} (h : OwnV w base v vs) : ∀ k, v.ownBlock = some k → base ≤ k ∧ k < w.heap.size := World.ownsRow.lt h
theorem OwnV.keep {w w' : World} {base : Nat} {v : Value} {vs : List Value} (h : OwnV w base v vs) (hk : ∀ k, v.ownBlock = some k → w'.heap[k]? = w.heap[k]?) : OwnV w' base v vs := by
 refine ⟨h.1, ?_⟩
 rcases h.2 with hn | ⟨g, cap, cur, rfl, hb, hgg, rest⟩
 ·exact .inl hn
 ·exact .inr ⟨g, cap, cur, rfl, hb, (hk g rfl).trans hgg, rest⟩
theorem OwnV.ext {w w' : World} {base : Nat} {v : Value} {vs : List Value} (h : OwnV w base v vs) (hx : Ext w w') : OwnV w' base v vs := h.keep fun k hk => hx.block k (h.lt k hk).2
theorem OwnV.on {w : World} {base : Nat} {v : Value} {vs : List Value} (h : OwnV w base v vs) : On base w (fun W => OwnV W base v vs) := fun w2 h2 => h.keep fun k hk => h2 k (h.lt k hk).1 (h.lt k hk).2
theorem OwnV.nil (w : World) (base : Nat) : OwnV w base (.slice none 0 0) [] := World.ownsRow_nil w base _ 1
theorem OwnI.apart {w : World} {base base' : Nat} {v v' : Value} {l : List Int} {vs : List Value} (h : OwnI w base v l) (h' : OwnV w base' v' vs) : ∀ k, v.ownBlock = some k → v'.ownBlock ≠ some k := by
 intro k hk hk'
 rcases h.2 with ⟨rfl, _⟩ | ⟨g, cap, cur, rfl, _, hg, _⟩
 ·simp [Value.ownBlock] at hk
 ·rcases h'.2 with ⟨rfl, _⟩ | ⟨g', cap', cur', rfl, _, hg', _⟩
  ·simp [Value.ownBlock] at hk'
  ·simp only [Value.ownBlock, Option.some.injEq] at hk hk'
   subst hk hk'
   rw [hg] at hg'
   simp at hg'
section
variable {P : Program} {w : World} {ops : Array Oper} {rest : List Oper} {o : Oper} {a : Act} {Q : Exit → Act → World → Prop}
theorem wp_append_ints {K : Act → World → Prop} (s x : Operand) (ho : o.op = .call { callee := .builtin .append, args := #[s, x], argTypes := #[25, 25] })
 (base : Nat) (v : Value) (l : List Int) (hs : a.eval s = v) (hown : OwnI w base v l) (ao : Option Addr) (m c : Nat) (l' : List Int) (hx : a.eval x = .slice ao m c) (hi' : Ints w ao m c l') (hb : l.length + m ≤ 1099511627776) (hbase : base ≤ w.heap.size)
 (h : ∀ v' w', OwnI w' base v' (l ++ l') → w.grownBy w' v.ownBlock → Near w v v' → K (a.put o.dst v') w') : o.wp Tryd.prog a w K Q := by
 obtain ⟨i, hi, hz0, hz1, hz2⟩ := info_parts Tryd.infoInt
 cases ao with
 | none =>
   have hm : m = 0 := by
    rcases Nat.eq_zero_or_pos m with h0 | h0
    ·exact h0
    ·obtain ⟨b, off, e, _⟩ := hi'.cell 0 h0; cases e
   subst hm
   have hl : l' = [] := List.eq_nil_of_length_eq_zero hi'.hlen
   subst hl
   refine wp_append_nothing w s x 25 ho base 3 i 1 Tryd.underlying25 hi v l.length _ hs hown c hx ?_
   exact h v w (by simpa using hown) (World.grownBy.refl _ _) (Near.refl _ _)
 | some ad =>
   refine wp_append_near w s x 25 ho base 3 i (.int .i64 0) 1 8 Tryd.underlying25 hi hz0 hz1 hz2 rfl (by decide) v l.length (l.map (Value.int .i64)) hs hown ad m c (l'.map (Value.int .i64)) hx (by simp [hi'.hlen]) ?_ ?_ (by simp [maxLen]; omega) (by omega) hbase ?_
   ·intro j u hu
    have hj : j < m := by
     have := (List.getElem?_eq_some_iff.1 hu).1
     simpa [hi'.hlen] using this
    have hj' : j < l'.length := by have := hi'.hlen; omega
    obtain ⟨b, off, e, hc⟩ := hi'.cell j hj
    simp only [Option.some.injEq] at e
    subst e
    have ha : (⟨b, off, none⟩ : Addr).add j = ⟨b, off + j, none⟩ := by unfold Addr.add; split <;> simp_all
    rw [ha, hc j hj]
    simp only [List.getElem?_map, List.getElem?_eq_getElem hj', Option.map_some, Option.some.injEq, Option.getD_some] at hu ⊢
    exact hu
   ·intro u hu
    obtain ⟨z, _, rfl⟩ := List.mem_map.1 hu
    rfl
   ·intro v' w' h1 h2 h3
    refine h v' w' ?_ h2 h3
    unfold OwnI
    rw [List.length_append, hi'.hlen, List.map_append]
    exact h1
theorem append_ints (hgd : o.guard = none) (s x : Operand) (ho : o.op = .call { callee := .builtin .append, args := #[s, x], argTypes := #[25, 25] })
 (base : Nat) (v : Value) (l : List Int) (hs : a.eval s = v) (hown : OwnI w base v l) (ao : Option Addr) (m c : Nat) (l' : List Int) (hx : a.eval x = .slice ao m c) (hi' : Ints w ao m c l') (hb : l.length + m ≤ 1099511627776) (hbase : base ≤ w.heap.size)
 (h : ∀ v' w', OwnI w' base v' (l ++ l') → w.grownBy w' v.ownBlock → Near w v v' → wpList Tryd.prog ops Q rest (a.put o.dst v') w') : wpList Tryd.prog ops Q (o :: rest) a w :=
 wpList_plain hgd fun _ hK => wp_append_ints s x ho base v l hs hown ao m c l' hx hi' hb hbase fun v' w' h1 h2 h3 => hK _ _ (h v' w' h1 h2 h3)
end
theorem Ints.one (w : World) (x : Int) (t : TypeId) : Ints (w.alloc (.cells #[.int .i64 x] t)) (some ⟨w.heap.size, 0, none⟩) 1 1 [x] :=
 ⟨rfl, Nat.le_refl _, by omega, fun k hk => ⟨_, 0, rfl, fun k hk => by
  obtain rfl : k = 0 := by omega
  simp⟩⟩
theorem OwnI.set {w : World} {base g n cap : Nat} {l : List Int} (h : OwnI w base (.slice (some ⟨g, 0, none⟩) n cap) l) (k : Nat) (x : Int) :
 OwnI (w.setCell ⟨g, k, none⟩ (.int .i64 x)) base (.slice (some ⟨g, 0, none⟩) n cap) (l.set k x) := by
 obtain ⟨a', c', he, _⟩ := OwnI.form h
 simp only [Value.slice.injEq] at he
 obtain ⟨_, rfl, _⟩ := he
 have := (World.ownsRow.stored h k (.int .i64 x)).1
 unfold OwnI
 rw [List.length_set, List.map_set]
 exact this
theorem OwnI.block {w : World} {base : Nat} {a : Option Addr} {n cap : Nat} {l : List Int} (h : OwnI w base (.slice a n cap) l) {k : Nat} (hk : k < n) : ∃ g, a = some ⟨g, 0, none⟩ ∧ base ≤ g ∧ (∀ j, w.frozen? ⟨g, j, none⟩ = false) ∧ g < w.heap.size := by
 rcases h.2 with ⟨he, h0⟩ | ⟨g, cap', cur, he, hb, hg, _⟩
 ·simp only [Value.slice.injEq] at he
  omega
 ·simp only [Value.slice.injEq] at he
  obtain ⟨rfl, _⟩ := he
  exact ⟨g, rfl, hb, fun j => frozen_of_row w g j cur _ hg, lt_of_block hg⟩
structure RowsI (w : World) (base : Nat) (vs : List Value) (L : List (List Int)) : Prop where
 len : vs.length = L.length
 row : ∀ i, i < L.length → OwnI w base (vs[i]?.getD undef) (L[i]?.getD [])
 apart : ∀ i j k, i < j → j < L.length → (vs[i]?.getD undef).ownBlock = some k → (vs[j]?.getD undef).ownBlock ≠ some k
theorem RowsI.keep {w w' : World} {base : Nat} {vs : List Value} {L : List (List Int)} (h : RowsI w base vs L) (hk : ∀ i k, i < L.length → (vs[i]?.getD undef).ownBlock = some k → w'.heap[k]? = w.heap[k]?) : RowsI w' base vs L :=
 ⟨h.len, fun i hi => (h.row i hi).keep fun k hk' => hk i k hi hk', h.apart⟩
theorem RowsI.ext {w w' : World} {base : Nat} {vs : List Value} {L : List (List Int)} (h : RowsI w base vs L) (hx : Ext w w') : RowsI w' base vs L :=
 h.keep fun i k hi hk => hx.block k ((h.row i hi).lt k hk).2
theorem RowsI.nil (w : World) (base : Nat) : RowsI w base [] [] := ⟨rfl, fun i hi => absurd hi (by simp), fun i j k _ hj => absurd hj (by simp)⟩
theorem RowsI.on {w : World} {base : Nat} {vs : List Value} {L : List (List Int)} (h : RowsI w base vs L) : On base w (fun W => RowsI W base vs L) :=
 fun w2 h2 => h.keep fun i k hi hk => h2 k ((h.row i hi).lt k hk).1 ((h.row i hi).lt k hk).2
def OwnSS (w : World) (base : Nat) (v : Value) (L : List (List Int)) : Prop := ∃ vs, OwnV w base v vs ∧ RowsI w base vs L
theorem OwnSS.form {w : World} {base : Nat} {v : Value} {L : List (List Int)} (h : OwnSS w base v L) : ∃ a cap, v = .slice a L.length cap ∧ L.length ≤ cap ∧ cap ≤ 9223372036854775807 := by
 obtain ⟨vs, h1, h2⟩ := h
 have := h1.form
 rwa [h2.len] at this
theorem OwnSS.var {w : World} {base : Nat} {v : Value} {L : List (List Int)} (h : OwnSS w base v L) : ∃ a n cap, v = .slice a n cap ∧ Hid (L.length = n) := by
 obtain ⟨a, cap, e, _⟩ := h.form
 exact ⟨a, _, cap, e, rfl⟩
theorem OwnSS.ext {w w' : World} {base : Nat} {v : Value} {L : List (List Int)} (h : OwnSS w base v L) (hx : Ext w w') : OwnSS w' base v L :=
 let ⟨vs, h1, h2⟩ := h; ⟨vs, h1.ext hx, h2.ext hx⟩
theorem OwnSS.on {w : World} {base : Nat} {v : Value} {L : List (List Int)} (h : OwnSS w base v L) : On base w (fun W => OwnSS W base v L) :=
 let ⟨vs, h1, h2⟩ := h; fun w2 hw => ⟨vs, h1.on w2 hw, h2.on w2 hw⟩
theorem OwnSS.nil (w : World) (base : Nat) : OwnSS w base (.slice none 0 0) [] := ⟨[], OwnV.nil w base, RowsI.nil w base⟩
theorem Row.own {w : World} {b base : Nat} {l : List Int} {n : Nat} (h : Row w b 3 l) (hb : base ≤ b) (hn : l.length = n) (hm : n ≤ 1099511627776) : OwnI w base (.slice (some ⟨b, 0, none⟩) n n) l := by
 subst hn
 refine ⟨by simp, .inr ⟨b, l.length, intCells l, rfl, hb, h, ?_, ?_, ?_, ?_⟩⟩
 ·omega
 ·simp [maxLen]; omega
 ·simp [intCells]
 ·simp [intCells, List.take_of_length_le]
end Go.Proofs.YtalmoolkhcgmmaaDoor
namespace Go.Proofs.YtalmoolkhcgmmaaDoor
set_option linter.unusedVariables false
open Go.RowKit
theorem OwnI.made (w : World) (base : Nat) (hb : base ≤ w.heap.size) : OwnI (w.alloc (.cells #[] 3)) base (.slice (some ⟨w.heap.size, 0, none⟩) 0 0) [] :=
 World.ownsRow_lit w #[] 0 hb (by omega) rfl
theorem OwnV.made (w : World) (base : Nat) (hb : base ≤ w.heap.size) : OwnV (w.alloc (.cells #[] 25)) base (.slice (some ⟨w.heap.size, 0, none⟩) 0 0) [] :=
 World.ownsRow_lit w #[] 0 hb (by omega) rfl
set_option maxHeartbeats 400000 in
theorem clone_ints {w : World} {a : Option Addr} {n cap : Nat} {l : List Int} (h : Ints w a n cap l) (hb : n ≤ 1099511627776) :
 Calls Tryd.prog 63 #[.slice a n cap] w fun e w' => ∃ v, e = .returned v ∧ OwnI w' w.heap.size v l ∧ Ext w w' := by
 have heq : ∀ w' : World, (binOp .eql 25 (.slice a n cap) (.slice none 0 0)).run Tryd.prog w' = .ok (.bool a.isNone) w' := fun w' => Lib.run_eql_slice_nil w' _ _ a n cap 0 0 Tryd.underlying25
 have HL := Lib.hid h.hlen
 cases a with
 | none =>
   have hl : l = [] := by
    have : ¬ 0 < n := fun hn => by obtain ⟨b, off, e, _⟩ := h.cell 0 hn; cases e
    exact List.eq_nil_of_length_eq_zero (by have := HL.out; omega)
   simp only [Option.isNone_none] at heq
   go_enter Tryd.func63, Tryd.ntmps63
   go_wp2
   go_ret
   exact ⟨_, rfl, by rw [hl]; exact OwnI.nil w _, Ext.refl _⟩
 | some ad =>
   simp only [Option.isNone_some] at heq
   have HI := Lib.hid (h.alloc (.cells #[] 3))
   have HO := Lib.hid (OwnI.made w w.heap.size (Nat.le_refl _))
   clear h
   go_enter Tryd.func63, Tryd.ntmps63
   go_wp2_with (first | (at_builtin; refine append_ints rfl _ _ rfl w.heap.size _ _ rfl HO.out _ n _ l rfl HI.out (by simpa using hb) (by simp) ?_; intro v' w1 ho hg hnear))
   go_ret
   exact ⟨_, rfl, ho, ext_grown (Ext.alloc _ _) hg (fun k hk => Nat.le_of_eq (Option.some.inj (show some w.heap.size = some k from hk)))⟩
def hasI (l : List Int) (x : Int) : Bool := l.contains x
set_option maxHeartbeats 400000 in
theorem s_l1HasInt {w : World} {a : Option Addr} {n cap : Nat} {l : List Int} (x : Int) (h : Ints w a n cap l) :
 Calls Tryd.prog 57 #[.slice a n cap, .int .i64 x] w fun e w' => e = .returned (.bool (hasI l x)) ∧ w = w' := by
 have hn := h.hcap
 have hm := h.hmax
 go_enter Tryd.func57, Tryd.ntmps57
 go_wp2
 go_loop [5] (fun i => ∃ k : Nat, k ≤ n ∧ i = .int .i64 k ∧ Hid (hasI (l.take k) x = false)) (fun i => n - (intOf i).toNat)
 case atStart => exact ⟨0, Nat.zero_le _, rfl, Lib.hid rfl⟩
 case round =>
  obtain ⟨k, hk, rfl, HA⟩ := hrel
  by_cases hlt : k < n
  ·obtain ⟨b, off, rfl, hc⟩ := h.at hlt
   have HL := Lib.hid h.hlen
   by_cases hb : l[k]?.getD 0 = x
   ·have hb1 : (l[k]?.getD 0 == x) = true := by simpa using hb
    have HB := Lib.hid hb
    clear hb
    go_wp2
    go_ret
    refine ⟨ret_bool ?_, rfl⟩
    symm
    have hkl : k < l.length := by have := HL.out; omega
    have := HB.out
    simp only [hkl, List.getElem?_eq_getElem, Option.getD_some] at this
    unfold hasI
    rw [List.contains_iff_mem]
    exact this ▸ List.getElem_mem hkl
   ·have hb1 : (l[k]?.getD 0 == x) = false := by simpa using hb
    have HB := Lib.hid hb
    clear hb
    go_wp2
    go_round
    case rel => exact ⟨k + 1, by omega, by go_num, Lib.hid (by rw [take_snoc (by have := HL.out; omega)]; have h1 := HA.out; unfold hasI at h1 ⊢; rw [List.contains_append, h1]; simpa using fun e => HB.out e.symm)⟩
    case measure => simp [intOf]; omega
  ·have HL := Lib.hid h.hlen
   go_wp2
   go_ret
   refine ⟨ret_bool ?_, rfl⟩
   have := HA.out
   rw [List.take_of_length_le (by have := HL.out; omega)] at this
   exact this.symm
theorem RowsI.grown {w w' : World} {base base' : Nat} {v : Value} {vs : List Value} {L : List (List Int)} (h : RowsI w base vs L) {us : List Value} (hv : OwnV w base' v us) (hg : w.grownBy w' v.ownBlock) : RowsI w' base vs L :=
 h.keep fun i k hi hk => hg.block k ((h.row i hi).lt k hk).2 fun e => (h.row i hi).apart hv k hk e.symm
theorem OwnI.grown {w w' : World} {base base' : Nat} {v u : Value} {us : List Value} {l : List Int} (h : OwnI w base u l) (hv : OwnV w base' v us) (hg : w.grownBy w' v.ownBlock) : OwnI w' base u l :=
 h.keep fun k hk => hg.block k (h.lt k hk).2 fun e => h.apart hv k hk e.symm
end Go.Proofs.YtalmoolkhcgmmaaDoor
