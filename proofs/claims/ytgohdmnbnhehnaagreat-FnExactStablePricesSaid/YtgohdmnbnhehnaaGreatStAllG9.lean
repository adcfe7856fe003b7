import Derived.Test.YtgohdmnbnhehnaaGreatStAllG5
import Derived.Test.YtgohdmnbnhehnaaGreatStAllG1
import Derived.Test.YtgohdmnbnhehnaaGreatStAllG2
import Derived.Test.YtgohdmnbnhehnaaGreatStAllG7
namespace Go.Proofs.YtgohdmnbnhehnaaGreat
set_option linter.unusedVariables false
set_option linter.unusedSimpArgs false
set_option maxRecDepth 100000
open Go.RowKit
def AsksR (P : Program) (w : World) (fid : FuncId) (ca : Array Value) (p : Int × Int → Bool) : Prop :=
  ∀ x y (w1 : World), Ext w w1 → Calls P fid (#[ratV x y] ++ ca) w1 fun e w2 => e = .returned (.bool (p (x, y))) ∧ Ext w1 w2
set_option maxHeartbeats 1000000 in
theorem indexFunc_rats {w : World} {a : Option Addr} {n cap : Nat} {l : List (Int × Int)} {fid : FuncId} {ca : Array Value} {p : Int × Int → Bool} (h : Rats w a n cap l) (hg : IsGo Tryz.prog fid) (hf : AsksR Tryz.prog w fid ca p) :
    Calls Tryz.prog 246 #[.slice a n cap, .func (.func fid) #[] ca] w fun e w' => e = .returned (.int .i64 (indexF p l)) ∧ Ext w w' := by
  have hn := h.hcap
  have hm := h.hmax
  have HL := Lib.hid h.hlen
  have HI := Lib.hid h
  have HF0 := Lib.hid hf
  clear h hf
  have hcf : ∀ (args : Array Value) (w : World), (callFunc fid args).run Tryz.prog w = .ok (.enter fid args) w := hg
  go_enter Tryz.func246, Tryz.ntmps246
  go_wp2_with fail
  go_loopg [8] n (fun gk ii wr => ∃ k : Nat, Hid (gk + k = n) ∧ ii = .int .i64 (k : Int) ∧ Hid ((l.take k).all (fun x => !p x) = true) ∧ Hid (Ext w wr))
  case atStart => exact ⟨0, Lib.hid (by omega), rfl, Lib.hid rfl, Lib.hid (Ext.refl _)⟩
  case round =>
    obtain ⟨g1, h_g1⟩ : ∃ x, x = gk := ⟨_, rfl⟩
    subst h_g1
    obtain ⟨wr1, h_wr1⟩ : ∃ x, x = wr := ⟨_, rfl⟩
    subst h_wr1
    obtain ⟨k, HK, rfl, HA, HX⟩ := hrel
    by_cases hlt : k < n
    · obtain ⟨b, off, x, y, rfl, hxy, hc0, hc1⟩ := (HI.out.ext HX.out).at hlt
      have HF := Lib.hid (HF0.out x y wr1 HX.out)
      cases hb : p (x, y)
      all_goals
        rw [hb] at HF
      · have HT := Lib.hid (show (l.take (k + 1)).all (fun x => !p x) = true by
          rw [List.take_succ_eq_append_getElem (by rw [HL.out]; exact hlt), List.all_append, HA.out]
          have : l[k]'(by rw [HL.out]; exact hlt) = (x, y) := by rw [List.getElem?_eq_getElem (by rw [HL.out]; exact hlt)] at hxy; simpa using hxy
          rw [this]; simp [hb])
        clear hxy hb
        go_wp2_with fail
        refine HF.out.mono ?_
        rintro e w2 ⟨rfl, hx2⟩
        go_wp2_with fail
        go_roundg (g1 - 1)
        case measure => have := HK.out; omega
        case rel => exact ⟨k + 1, Lib.hid (by have := HK.out; omega), by go_num, HT, Lib.hid (HX.out.trans hx2)⟩
      · have HB := Lib.hid (show indexF p l = k from indexF_at (d := (0, 0)) (by rw [HL.out]; exact hlt) HA.out (by rw [hxy]; exact hb))
        clear hxy hb
        go_wp2_with fail
        refine HF.out.mono ?_
        rintro e w2 ⟨rfl, hx2⟩
        go_wp2_with fail
        go_ret
        exact ⟨ret_int HB.out.symm, HX.out.trans hx2⟩
    · have HT := Lib.hid (show indexF p l = -1 by
        have h2 := HA.out
        rw [List.take_of_length_le (by rw [HL.out]; have := HK.out; omega)] at h2
        exact indexF_none h2)
      go_wp2_with fail
      go_ret
      exact ⟨ret_int HT.out.symm, HX.out⟩
set_option maxHeartbeats 400000 in
theorem containsFunc_rats {w : World} {a : Option Addr} {n cap : Nat} {l : List (Int × Int)} {fid : FuncId} {ca : Array Value} {p : Int × Int → Bool} (h : Rats w a n cap l) (hg : IsGo Tryz.prog fid) (hf : AsksR Tryz.prog w fid ca p) :
    Calls Tryz.prog 222 #[.slice a n cap, .func (.func fid) #[] ca] w fun e w' => e = .returned (.bool (l.any p)) ∧ Ext w w' := by
  have HC := Lib.hid (indexFunc_rats h hg hf)
  clear h hf
  go_enter Tryz.func222, Tryz.ntmps222
  go_wp2_with fail
  refine HC.out.mono ?_
  rintro e w2 ⟨rfl, hx2⟩
  go_wp2
  all_goals go_ret; refine ⟨ret_bool ?_, hx2⟩; rw [← indexF_any]
theorem i_AllValid1 (x y : Int) (w : World) : Calls Tryz.prog 223 #[ratV x y] w fun e w' => e = .returned (.bool (!valR (x, y))) ∧ Ext w w' := by
  have HX := Lib.hid (Ext.alloc w (.cells #[.int .i64 x, .int .i64 y] 85))
  go_enter Tryz.func223, Tryz.ntmps223
  go_wp2_with fail
  refine (i_IsValidRat x y _).mono ?_
  rintro e w1 ⟨rfl, hx⟩
  have X1 := Lib.hid (HX.out.trans hx)
  clear hx
  go_wp2_with fail
  go_ret
  exact ⟨rfl, X1.out⟩
theorem go_AllValid1 : IsGo Tryz.prog 223 := isGo Tryz.func223 (by kernel_rfl) (by kernel_rfl)
theorem i_AllValid {w : World} {a : Option Addr} {n cap : Nat} {l : List (Int × Int)} (h : Rats w a n cap l) :
    Calls Tryz.prog 186 #[.slice a n cap] w fun e w' => e = .returned (.bool (allV l)) ∧ Ext w w' := by
  have HC := Lib.hid (containsFunc_rats h go_AllValid1 (ca := #[]) (p := fun r => !valR r) (fun x y w1 _ => i_AllValid1 x y w1))
  have HE := Lib.hid (show (!l.any (fun r => !valR r)) = allV l by unfold allV; rw [List.not_any_eq_all_not]; simp)
  clear h
  go_enter Tryz.func186, Tryz.ntmps186
  go_wp2_with fail
  refine HC.out.mono ?_
  rintro e w1 ⟨rfl, hx⟩
  have X1 := Lib.hid hx
  clear hx
  go_wp2_with fail
  go_ret
  exact ⟨ret_bool HE.out, X1.out⟩
theorem i_notNegative1 (x y : Int) (w : World) : Calls Tryz.prog 230 #[ratV x y] w fun e w' => e = .returned (.bool (!(valR (x, y) && decide (0 ≤ x)))) ∧ Ext w w' := by
  have HX := Lib.hid (Ext.alloc w (.cells #[.int .i64 x, .int .i64 y] 85))
  have HV := Lib.hid (fun w => i_IsValidRat x y w)
  cases hv : valR (x, y)
  · rw [hv] at HV
    clear hv
    go_enter Tryz.func230, Tryz.ntmps230
    go_wp2_with fail
    refine (HV.out _).mono ?_
    rintro e w1 ⟨rfl, hx⟩
    have X1 := Lib.hid (HX.out.trans hx)
    clear hx
    go_wp2_with fail
    go_ret
    exact ⟨rfl, X1.out⟩
  · rw [hv] at HV
    clear hv
    cases hx0 : decide (0 ≤ x)
    · have hlt : decide (x < 0) = true := by simp at hx0 ⊢; omega
      clear hx0
      go_enter Tryz.func230, Tryz.ntmps230
      go_wp2_with fail
      refine (HV.out _).mono ?_
      rintro e w1 ⟨rfl, hx⟩
      have hc : w1.cell? ⟨w.heap.size, 0, none⟩ = some (.int .i64 x) := hx.cellSome (by simp)
      have X1 := Lib.hid (HX.out.trans hx)
      clear hx
      go_wp2_with fail
      go_ret
      exact ⟨rfl, X1.out⟩
    · have hlt : decide (x < 0) = false := by simp at hx0 ⊢; omega
      clear hx0
      go_enter Tryz.func230, Tryz.ntmps230
      go_wp2_with fail
      refine (HV.out _).mono ?_
      rintro e w1 ⟨rfl, hx⟩
      have hc : w1.cell? ⟨w.heap.size, 0, none⟩ = some (.int .i64 x) := hx.cellSome (by simp)
      have X1 := Lib.hid (HX.out.trans hx)
      clear hx
      go_wp2_with fail
      go_ret
      exact ⟨rfl, X1.out⟩
theorem go_notNegative1 : IsGo Tryz.prog 230 := isGo Tryz.func230 (by kernel_rfl) (by kernel_rfl)
theorem i_notNegative {w : World} {a : Option Addr} {n cap : Nat} {l : List (Int × Int)} (h : Rats w a n cap l) (m : Nat) :
    Calls Tryz.prog 196 #[.slice a n cap, .int .i64 (m : Int)] w fun e w' => e = .returned (.bool (decide (l.length = m) && posV l)) ∧ Ext w w' := by
  have hcap := h.hcap
  have hmax := h.hmax
  have HL := Lib.hid h.hlen
  have HC := Lib.hid (containsFunc_rats h go_notNegative1 (ca := #[]) (p := fun r => !(valR r && decide (0 ≤ r.1))) (fun x y w1 _ => i_notNegative1 x y w1))
  have HE := Lib.hid (show (!l.any (fun r => !(valR r && decide (0 ≤ r.1)))) = posV l by unfold posV; rw [List.not_any_eq_all_not]; simp)
  clear h
  cases hn : ((n : Int) == (m : Int))
  · have HN := Lib.hid (show decide (l.length = m) = false by rw [HL.out]; simp at hn ⊢; omega)
    go_enter Tryz.func196, Tryz.ntmps196
    go_wp2_with fail
    go_ret
    exact ⟨ret_bool (by rw [HN.out]; rfl), Ext.refl _⟩
  · have HN := Lib.hid (show decide (l.length = m) = true by rw [HL.out]; simp at hn ⊢; omega)
    go_enter Tryz.func196, Tryz.ntmps196
    go_wp2_with fail
    refine HC.out.mono ?_
    rintro e w1 ⟨rfl, hx⟩
    have X1 := Lib.hid hx
    clear hx
    go_wp2_with fail
    go_ret
    exact ⟨ret_bool (by rw [HN.out, ← HE.out]; simp), X1.out⟩
end Go.Proofs.YtgohdmnbnhehnaaGreat
namespace Go.Proofs.YtgohdmnbnhehnaaGreat
set_option linter.unusedVariables false
open Go.RowKit
structure RatSS (w : World) (a : Option Addr) (n cap : Nat) (L : List (List (Int × Int))) : Prop where
  hlen : L.length = n
  hcap : n ≤ cap
  hmax : cap ≤ 9223372036854775807
  cell : ∀ k, k < n → ∃ b off, a = some ⟨b, off, none⟩ ∧ ∀ k, k < n → ∃ a' n' c', w.cell? ⟨b, off + k, none⟩ = some (.slice a' n' c') ∧ Rats w a' n' c' (L[k]?.getD [])
theorem RatSS.ext {w w' : World} {a : Option Addr} {n cap : Nat} {L : List (List (Int × Int))} (h : RatSS w a n cap L) (hx : Ext w w') : RatSS w' a n cap L :=
  ⟨h.hlen, h.hcap, h.hmax, fun k hk => let ⟨b, off, e, hc⟩ := h.cell k hk; ⟨b, off, e, fun k hk => let ⟨a', n', c', h1, h2⟩ := hc k hk; ⟨a', n', c', hx.cellSome h1, h2.ext hx⟩⟩⟩
theorem RatSS.at {w : World} {a : Option Addr} {n cap : Nat} {L : List (List (Int × Int))} (h : RatSS w a n cap L) {k : Nat} (hk : k < n) :
    ∃ b off a' n' c', a = some ⟨b, off, none⟩ ∧ w.cell? ⟨b, off + k, none⟩ = some (.slice a' n' c') ∧ Rats w a' n' c' (L[k]?.getD []) :=
  let ⟨b, off, e, hc⟩ := h.cell k hk; let ⟨a', n', c', h1, h2⟩ := hc k hk; ⟨b, off, a', n', c', e, h1, h2⟩
theorem RatSS.alloc {w : World} {a : Option Addr} {n cap : Nat} {L : List (List (Int × Int))} (h : RatSS w a n cap L) (o : Obj) : RatSS (w.alloc o) a n cap L := h.ext (Ext.alloc w o)
def OwnW (w : World) (base : Nat) (v : Value) (vs : List Value) : Prop := w.ownsRow base 30 1 v vs.length vs
theorem OwnW.form {w : World} {base : Nat} {v : Value} {vs : List Value} (h : OwnW w base v vs) : ∃ a cap, v = .slice a vs.length cap ∧ vs.length ≤ cap ∧ cap ≤ 9223372036854775807 := by
  rcases h.2 with ⟨rfl, h0⟩ | ⟨g, cap, cur, rfl, _, _, h1, h2, _⟩
  · exact ⟨none, 0, by rw [h0], by omega, by omega⟩
  · exact ⟨_, cap, rfl, h1, by simpa [maxLen] using h2⟩
theorem OwnW.var {w : World} {base : Nat} {v : Value} {vs : List Value} (h : OwnW w base v vs) : ∃ a n cap, v = .slice a n cap ∧ Hid (vs.length = n) := by
  obtain ⟨a, cap, e, _⟩ := h.form
  exact ⟨a, _, cap, e, rfl⟩
theorem OwnW.cell {w : World} {base : Nat} {a : Option Addr} {n cap : Nat} {vs : List Value} (h : OwnW w base (.slice a n cap) vs) {k : Nat} (hk : k < n) : ∃ g, a = some ⟨g, 0, none⟩ ∧ base ≤ g ∧ ∀ k, k < n → w.cell? ⟨g, k, none⟩ = vs[k]? := by
  rcases h.2 with ⟨he, h0⟩ | ⟨g, cap', cur, he, hb, hg, h1, h2, hs, ht⟩
  · simp only [Value.slice.injEq] at he
    omega
  · simp only [Value.slice.injEq] at he
    obtain ⟨rfl, rfl, rfl⟩ := he
    refine ⟨g, rfl, hb, fun k hk => ?_⟩
    rw [cell_of_row w g k cur _ (0, 0) hg]
    have : (cur.toList.take (vs.length * 1))[k]? = vs[k]? := by rw [ht]
    rw [List.getElem?_take, if_pos (by omega)] at this
    simpa using this
theorem OwnW.len {w : World} {base : Nat} {a : Option Addr} {n cap : Nat} {vs : List Value} (h : OwnW w base (.slice a n cap) vs) : vs.length = n := by
  obtain ⟨a', cap', he, _⟩ := h.form
  simp only [Value.slice.injEq] at he
  exact he.2.1.symm
theorem OwnW.lt {w : World} {base : Nat} {v : Value} {vs : List Value} (h : OwnW w base v vs) : ∀ k, v.ownBlock = some k → base ≤ k ∧ k < w.heap.size := World.ownsRow.lt h
theorem OwnW.keep {w w' : World} {base : Nat} {v : Value} {vs : List Value} (h : OwnW w base v vs) (hk : ∀ k, v.ownBlock = some k → w'.heap[k]? = w.heap[k]?) : OwnW w' base v vs := by
  refine ⟨h.1, ?_⟩
  rcases h.2 with hn | ⟨g, cap, cur, rfl, hb, hgg, rest⟩
  · exact .inl hn
  · exact .inr ⟨g, cap, cur, rfl, hb, (hk g rfl).trans hgg, rest⟩
theorem OwnW.ext {w w' : World} {base : Nat} {v : Value} {vs : List Value} (h : OwnW w base v vs) (hx : Ext w w') : OwnW w' base v vs := h.keep fun k hk => hx.block k (h.lt k hk).2
theorem OwnW.on {w : World} {base : Nat} {v : Value} {vs : List Value} (h : OwnW w base v vs) : On base w (fun W => OwnW W base v vs) := fun w2 h2 => h.keep fun k hk => h2 k (h.lt k hk).1 (h.lt k hk).2
theorem OwnW.nil (w : World) (base : Nat) : OwnW w base (.slice none 0 0) [] := World.ownsRow_nil w base _ 1
theorem OwnR.apart {w : World} {base base' : Nat} {v v' : Value} {l : List (Int × Int)} {vs : List Value} (h : OwnR w base v l) (h' : OwnW w base' v' vs) : ∀ k, v.ownBlock = some k → v'.ownBlock ≠ some k := by
  intro k hk hk'
  rcases h.2 with ⟨rfl, _⟩ | ⟨g, cap, cur, rfl, _, hg, _⟩
  · simp [Value.ownBlock] at hk
  · rcases h'.2 with ⟨rfl, _⟩ | ⟨g', cap', cur', rfl, _, hg', _⟩
    · simp [Value.ownBlock] at hk'
    · simp only [Value.ownBlock, Option.some.injEq] at hk hk'
      subst hk hk'
      rw [hg] at hg'
      simp at hg'
theorem Tryz.infoRats : (Tryz.prog.info? 30).map (fun i => (i.zero, i.size, i.bytes)) = some (some (.slice none 0 0), 1, 24) := by kernel_rfl
section
variable {P : Program} {w : World} {ops : Array Oper} {rest : List Oper} {o : Oper} {a : Act} {Q : Exit → Act → World → Prop}
theorem wp_append_ratrow {K : Act → World → Prop} (s x : Operand) (ho : o.op = .call { callee := .builtin .append, args := #[s, x], argTypes := #[140, 140] })
    (base : Nat) (v : Value) (vs : List Value) (hs : a.eval s = v) (hown : OwnW w base v vs) (ad : Addr) (u : Value) (c : Nat) (hx : a.eval x = .slice (some ad) 1 c)
    (hcell : w.cell? ad = some u) (h1c : u.oneCell' = true) (hb : vs.length ≤ 1099511627775) (hbase : base ≤ w.heap.size)
    (h : ∀ v' w', OwnW w' base v' (vs ++ [u]) → w.grownBy w' v.ownBlock → Near w v v' → K (a.put o.dst v') w') : o.wp Tryz.prog a w K Q := by
  obtain ⟨i, hi, hz0, hz1, hz2⟩ := info_parts Tryz.infoRats
  refine wp_append_near w s x 140 ho base 30 i (.slice none 0 0) 1 24 Tryz.underlying140 hi hz0 hz1 hz2 rfl (by decide) v vs.length vs hs hown ad 1 c [u] hx rfl ?_ ?_ (by simp [maxLen]; omega) (by omega) hbase ?_
  · intro j u' hu
    match j with
    | 0 => simpa [Addr.add] using hu ▸ hcell
    | j + 1 => simp at hu
  · intro u' hu
    simp only [List.mem_singleton] at hu
    rw [hu]
    exact h1c
  · intro v' w' h1 h2 h3
    refine h v' w' ?_ h2 h3
    unfold OwnW
    rw [List.length_append]
    exact h1
end
structure RowsR (w : World) (base : Nat) (vs : List Value) (L : List (List (Int × Int))) : Prop where
  len : vs.length = L.length
  row : ∀ i, i < L.length → OwnR w base (vs[i]?.getD undef) (L[i]?.getD [])
  apart : ∀ i j k, i < j → j < L.length → (vs[i]?.getD undef).ownBlock = some k → (vs[j]?.getD undef).ownBlock ≠ some k
theorem RowsR.keep {w w' : World} {base : Nat} {vs : List Value} {L : List (List (Int × Int))} (h : RowsR w base vs L) (hk : ∀ i k, i < L.length → (vs[i]?.getD undef).ownBlock = some k → w'.heap[k]? = w.heap[k]?) : RowsR w' base vs L :=
  ⟨h.len, fun i hi => (h.row i hi).keep fun k hk' => hk i k hi hk', h.apart⟩
theorem RowsR.ext {w w' : World} {base : Nat} {vs : List Value} {L : List (List (Int × Int))} (h : RowsR w base vs L) (hx : Ext w w') : RowsR w' base vs L :=
  h.keep fun i k hi hk => hx.block k ((h.row i hi).lt k hk).2
theorem RowsR.nil (w : World) (base : Nat) : RowsR w base [] [] := ⟨rfl, fun i hi => absurd hi (by simp), fun i j k _ hj => absurd hj (by simp)⟩
theorem RowsR.on {w : World} {base : Nat} {vs : List Value} {L : List (List (Int × Int))} (h : RowsR w base vs L) : On base w (fun W => RowsR W base vs L) :=
  fun w2 h2 => h.keep fun i k hi hk => h2 k ((h.row i hi).lt k hk).1 ((h.row i hi).lt k hk).2
theorem RowsR.snoc {w w' : World} {base : Nat} {vs : List Value} {L : List (List (Int × Int))} (h : RowsR w base vs L) (hx : Ext w w') {v : Value} {l : List (Int × Int)} (ho : OwnR w' w.heap.size v l) (hb : base ≤ w.heap.size) : RowsR w' base (vs ++ [v]) (L ++ [l]) := by
  have h' := h.ext hx
  refine ⟨by simp [h.len], fun i hi => ?_, fun i j k hij hj hk => ?_⟩
  · by_cases hl : i < L.length
    · rw [List.getElem?_append_left (by rw [h.len]; exact hl), List.getElem?_append_left hl]; exact h'.row i hl
    · have : i = L.length := by simp at hi; omega
      subst this
      rw [← h.len]
      simp only [List.getElem?_concat_length, Option.getD_some]
      rw [h.len]
      simp only [List.getElem?_concat_length, Option.getD_some]
      exact ho.mono hb
  · by_cases hl : j < L.length
    · rw [List.getElem?_append_left (by rw [h.len]; omega)] at hk
      rw [List.getElem?_append_left (by rw [h.len]; exact hl)]
      exact h.apart i j k hij hl hk
    · have : j = L.length := by simp at hj; omega
      subst this
      rw [List.getElem?_append_left (by rw [h.len]; omega)] at hk
      rw [← h.len]
      simp only [List.getElem?_concat_length, Option.getD_some]
      intro hk'
      have h1 := ((h.row i (by omega)).lt k hk).2
      have h2 := (ho.lt k hk').1
      omega
def OwnRR (w : World) (base : Nat) (v : Value) (L : List (List (Int × Int))) : Prop := ∃ vs, OwnW w base v vs ∧ RowsR w base vs L
theorem OwnRR.form {w : World} {base : Nat} {v : Value} {L : List (List (Int × Int))} (h : OwnRR w base v L) : ∃ a cap, v = .slice a L.length cap ∧ L.length ≤ cap ∧ cap ≤ 9223372036854775807 := by
  obtain ⟨vs, h1, h2⟩ := h
  have := h1.form
  rwa [h2.len] at this
theorem OwnRR.var {w : World} {base : Nat} {v : Value} {L : List (List (Int × Int))} (h : OwnRR w base v L) : ∃ a n cap, v = .slice a n cap ∧ Hid (L.length = n) := by
  obtain ⟨a, cap, e, _⟩ := h.form
  exact ⟨a, _, cap, e, rfl⟩
theorem OwnRR.ext {w w' : World} {base : Nat} {v : Value} {L : List (List (Int × Int))} (h : OwnRR w base v L) (hx : Ext w w') : OwnRR w' base v L :=
  let ⟨vs, h1, h2⟩ := h; ⟨vs, h1.ext hx, h2.ext hx⟩
theorem OwnRR.on {w : World} {base : Nat} {v : Value} {L : List (List (Int × Int))} (h : OwnRR w base v L) : On base w (fun W => OwnRR W base v L) :=
  let ⟨vs, h1, h2⟩ := h; fun w2 hw => ⟨vs, h1.on w2 hw, h2.on w2 hw⟩
theorem OwnRR.nil (w : World) (base : Nat) : OwnRR w base (.slice none 0 0) [] := ⟨[], OwnW.nil w base, RowsR.nil w base⟩
theorem OwnRR.ratss {w : World} {base : Nat} {a : Option Addr} {n cap : Nat} {L : List (List (Int × Int))} (h : OwnRR w base (.slice a n cap) L) : RatSS w a n cap L := by
  obtain ⟨a', cap', he, h1, h2⟩ := h.form
  simp only [Value.slice.injEq] at he
  obtain ⟨rfl, rfl, rfl⟩ := he
  obtain ⟨vs, h3, h4⟩ := h
  refine ⟨rfl, h1, h2, fun k hk => ?_⟩
  obtain ⟨g, rfl, _, hc⟩ := h3.cell hk
  refine ⟨g, 0, rfl, fun k hk => ?_⟩
  have hv : k < vs.length := by rw [h4.len]; exact hk
  obtain ⟨a', cap', hf, _⟩ := (h4.row k hk).form
  have ho := h4.row k hk
  rw [hf] at ho
  refine ⟨a', _, cap', ?_, ho.rats⟩
  rw [Nat.zero_add, hc k hk, ← hf]
  simp [hv]
structure RMat (w : World) (base : Nat) (a : Option Addr) (N cap : Nat) (vs : List Value) (M : List (List (Int × Int))) : Prop where
  own : OwnW w base (.slice a N cap) vs
  rows : RowsR w base vs M
theorem RMat.vlen {w : World} {base : Nat} {a : Option Addr} {N cap : Nat} {vs : List Value} {M : List (List (Int × Int))} (h : RMat w base a N cap vs M) : vs.length = N := h.own.len
theorem RMat.len {w : World} {base : Nat} {a : Option Addr} {N cap : Nat} {vs : List Value} {M : List (List (Int × Int))} (h : RMat w base a N cap vs M) : M.length = N := by rw [← h.rows.len]; exact h.own.len
theorem RMat.cap {w : World} {base : Nat} {a : Option Addr} {N cap : Nat} {vs : List Value} {M : List (List (Int × Int))} (h : RMat w base a N cap vs M) : N ≤ cap ∧ cap ≤ 9223372036854775807 := by
  obtain ⟨a', c', he, h1, h2⟩ := h.own.form
  simp only [Value.slice.injEq] at he
  obtain ⟨_, h3, rfl⟩ := he
  exact ⟨by omega, h2⟩
theorem RMat.keep {w w' : World} {base : Nat} {a : Option Addr} {N cap : Nat} {vs : List Value} {M : List (List (Int × Int))} (h : RMat w base a N cap vs M) (h0 : ∀ k, (Value.slice a N cap).ownBlock = some k → w'.heap[k]? = w.heap[k]?)
    (h1 : ∀ i k, i < N → (vs[i]?.getD undef).ownBlock = some k → w'.heap[k]? = w.heap[k]?) : RMat w' base a N cap vs M :=
  ⟨h.own.keep h0, h.rows.keep fun i k hi hk => h1 i k (by rw [← h.len]; exact hi) hk⟩
theorem RMat.ext {w w' : World} {base : Nat} {a : Option Addr} {N cap : Nat} {vs : List Value} {M : List (List (Int × Int))} (h : RMat w base a N cap vs M) (hx : Ext w w') : RMat w' base a N cap vs M := ⟨h.own.ext hx, h.rows.ext hx⟩
theorem RMat.ratss {w : World} {base : Nat} {a : Option Addr} {N cap : Nat} {vs : List Value} {M : List (List (Int × Int))} (h : RMat w base a N cap vs M) : RatSS w a N cap M :=
  OwnRR.ratss ⟨vs, h.own, h.rows⟩
theorem RMat.outer {w : World} {base : Nat} {a : Option Addr} {N cap : Nat} {vs : List Value} {M : List (List (Int × Int))} (h : RMat w base a N cap vs M) (hN : 0 < N) : ∃ G, a = some ⟨G, 0, none⟩ ∧ base ≤ G ∧ G < w.heap.size ∧ ∀ j, w.frozen? ⟨G, j, none⟩ = false := by
  rcases h.own.2 with ⟨he, h0⟩ | ⟨g, cap', cur, he, hb, hg, _⟩
  · simp only [Value.slice.injEq] at he
    omega
  · simp only [Value.slice.injEq] at he
    obtain ⟨rfl, _⟩ := he
    exact ⟨g, rfl, hb, lt_of_block hg, fun j => frozen_of_row w g j cur _ hg⟩
theorem RMat.row {w : World} {base G N cap : Nat} {vs : List Value} {M : List (List (Int × Int))} (h : RMat w base (some ⟨G, 0, none⟩) N cap vs M) {i n : Nat} (hi : i < N) (hn : (M[i]?.getD []).length = n) (h1 : 1 ≤ n) :
    ∃ g c, vs[i]?.getD undef = .slice (some ⟨g, 0, none⟩) n c ∧ w.cell? ⟨G, i, none⟩ = some (.slice (some ⟨g, 0, none⟩) n c) ∧ OwnR w base (.slice (some ⟨g, 0, none⟩) n c) (M[i]?.getD []) ∧ g ≠ G ∧ base ≤ g ∧ g < w.heap.size ∧ n ≤ c ∧ c ≤ 9223372036854775807 := by
  have hr := h.rows.row i (by rw [h.len]; exact hi)
  obtain ⟨a', c, he, hc1, hc2⟩ := hr.form
  rw [he] at hr
  rw [hn] at he hr hc1
  obtain ⟨g, rfl, hb, _, hgl⟩ := hr.block (k := 0) (by omega)
  obtain ⟨G', hG, _, hc⟩ := h.own.cell hi
  simp only [Option.some.injEq, Addr.mk.injEq, and_true] at hG
  subst hG
  refine ⟨g, c, he, ?_, hr, fun e => hr.apart h.own g rfl (by subst e; rfl), hb, hgl, hc1, hc2⟩
  rw [hc i hi, ← he]
  have : i < vs.length := by rw [h.vlen]; exact hi
  simp [this]
theorem RMat.put {w0 w : World} {base G N cap : Nat} {vs : List Value} {M : List (List (Int × Int))} (h : RMat w0 base (some ⟨G, 0, none⟩) N cap vs M) (hx : Ext w0 w) (hb : base ≤ w0.heap.size) {v : Value} {l : List (Int × Int)} (ho : OwnR w w0.heap.size v l) {i : Nat} (hi : i < N) :
    RMat (w.setCell ⟨G, i, none⟩ v) base (some ⟨G, 0, none⟩) N cap (vs.set i v) (M.set i l) := by
  have hil : i < M.length := by rw [h.len]; exact hi
  have hvl : i < vs.length := by rw [h.vlen]; exact hi
  have hW := h.ext hx
  obtain ⟨G', hG, hbG, hGl, _⟩ := h.outer (by omega)
  simp only [Option.some.injEq, Addr.mk.injEq, and_true] at hG
  subst hG
  have hother : ∀ k, k ≠ G → (w.setCell ⟨G, i, none⟩ v).heap[k]? = w.heap[k]? := fun k hk => heap_setCell_other _ _ _ _ hk
  refine ⟨?_, ⟨by rw [List.length_set, List.length_set]; exact h.rows.len, fun k hk => ?_, fun a b k hab hb2 hk hk2 => ?_⟩⟩
  · have ho := hW.own
    unfold OwnW at ho
    rw [hW.vlen] at ho
    have := (World.ownsRow.stored ho i v).1
    unfold OwnW
    rw [List.length_set, hW.vlen]
    exact this
  · rw [List.length_set] at hk
    by_cases hki : k = i
    · subst hki
      rw [List.getElem?_set_self hvl, List.getElem?_set_self hil]
      exact (ho.keep fun b hb' => hother b (by have := (ho.lt b hb').1; omega)).mono hb
    · rw [List.getElem?_set_ne (Ne.symm hki), List.getElem?_set_ne (Ne.symm hki)]
      refine (hW.rows.row k hk).keep fun b hb' => hother b fun e => ?_
      subst e
      exact (hW.rows.row k hk).apart hW.own _ hb' rfl
  · rw [List.length_set] at hb2
    by_cases hai : a = i
    · subst hai
      rw [List.getElem?_set_self hvl] at hk
      rw [List.getElem?_set_ne (by omega)] at hk2
      have h1 := (ho.lt k hk).1
      have h2 := ((h.rows.row b hb2).lt k hk2).2
      omega
    · rw [List.getElem?_set_ne (Ne.symm hai)] at hk
      by_cases hbi : b = i
      · subst hbi
        rw [List.getElem?_set_self hvl] at hk2
        have h1 := (ho.lt k hk2).1
        have h2 := ((h.rows.row a (by omega)).lt k hk).2
        omega
      · rw [List.getElem?_set_ne (Ne.symm hbi)] at hk2
        exact h.rows.apart a b k hab hb2 hk hk2
theorem RowsR.grownV {w w' : World} {base base' : Nat} {v : Value} {vs : List Value} {L : List (List (Int × Int))} (h : RowsR w base vs L) {us : List Value} (hv : OwnW w base' v us) (hg : w.grownBy w' v.ownBlock) : RowsR w' base vs L :=
  h.keep fun i k hi hk => hg.block k ((h.row i hi).lt k hk).2 fun e => (h.row i hi).apart hv k hk e.symm
end Go.Proofs.YtgohdmnbnhehnaaGreat
namespace Go.Proofs.YtgohdmnbnhehnaaGreat
set_option linter.unusedVariables false
open Go.RowKit
structure Enc (α : Type) where
  enc : α → List Value
  c : Nat
  hc : ∀ x, (enc x).length = c
  pos : 0 < c
  one : ∀ x, ∀ u ∈ enc x, u.oneCell' = true
def Enc.all {α : Type} (E : Enc α) (l : List α) : List Value := l.flatMap E.enc
theorem Enc.all_append {α : Type} (E : Enc α) (l l' : List α) : E.all (l ++ l') = E.all l ++ E.all l' := by simp [Enc.all]
theorem Enc.all_cons {α : Type} (E : Enc α) (x : α) (l : List α) : E.all (x :: l) = E.enc x ++ E.all l := by simp [Enc.all]
theorem Enc.all_len {α : Type} (E : Enc α) : ∀ l : List α, (E.all l).length = l.length * E.c
  | [] => by simp [Enc.all]
  | x :: l => by rw [E.all_cons, List.length_append, E.hc, E.all_len l, List.length_cons, Nat.succ_mul, Nat.add_comm]
theorem Enc.all_at {α : Type} (E : Enc α) : ∀ {l : List α} {k j : Nat} {x : α} {v : Value}, l[k]? = some x → (E.enc x)[j]? = some v → (E.all l)[k * E.c + j]? = some v
  | [], k, j, x, v, h, _ => by simp at h
  | y :: l, 0, j, x, v, h, hj => by
    simp only [List.getElem?_cons_zero, Option.some.injEq] at h
    subst h
    have hl := (List.getElem?_eq_some_iff.1 hj).1
    rw [E.all_cons, Nat.zero_mul, Nat.zero_add, List.getElem?_append_left hl, hj]
  | y :: l, k + 1, j, x, v, h, hj => by
    simp only [List.getElem?_cons_succ] at h
    rw [E.all_cons, List.getElem?_append_right (by rw [E.hc, Nat.succ_mul]; omega), E.hc]
    rw [show (k + 1) * E.c + j - E.c = k * E.c + j by rw [Nat.succ_mul]; omega]
    exact E.all_at h hj
theorem Enc.split {α : Type} (E : Enc α) {l : List α} {i : Nat} {u : Value} (h : (E.all l)[i]? = some u) : ∃ k j x, i = k * E.c + j ∧ l[k]? = some x ∧ (E.enc x)[j]? = some u := by
  have hi : i < l.length * E.c := by have := (List.getElem?_eq_some_iff.1 h).1; rwa [E.all_len] at this
  have hp := E.pos
  have hk : i / E.c < l.length := (Nat.div_lt_iff_lt_mul hp).2 hi
  have hm : i % E.c < E.c := Nat.mod_lt _ hp
  have he : i = i / E.c * E.c + i % E.c := by rw [Nat.mul_comm]; exact (Nat.div_add_mod i E.c).symm
  refine ⟨i / E.c, i % E.c, l[i / E.c], he, List.getElem?_eq_getElem hk, ?_⟩
  have hj : i % E.c < (E.enc l[i / E.c]).length := by rw [E.hc]; exact hm
  have := E.all_at (List.getElem?_eq_getElem hk) (List.getElem?_eq_getElem hj)
  rw [← he, h] at this
  rw [List.getElem?_eq_getElem hj, this]
structure Slc {α : Type} (E : Enc α) (w : World) (a : Option Addr) (n cap : Nat) (l : List α) : Prop where
  hlen : l.length = n
  hcap : n ≤ cap
  hmax : cap ≤ 9223372036854775807
  cell : ∀ k, k < n → ∃ b off, a = some ⟨b, off, none⟩ ∧ ∀ k x j v, l[k]? = some x → (E.enc x)[j]? = some v → w.cell? ⟨b, off + k * E.c + j, none⟩ = some v
theorem Slc.ext {α : Type} {E : Enc α} {w w' : World} {a : Option Addr} {n cap : Nat} {l : List α} (h : Slc E w a n cap l) (hx : Ext w w') : Slc E w' a n cap l :=
  ⟨h.hlen, h.hcap, h.hmax, fun k hk => let ⟨b, off, e, hc⟩ := h.cell k hk; ⟨b, off, e, fun k x j v h1 h2 => hx.cellSome (hc k x j v h1 h2)⟩⟩
theorem Slc.at {α : Type} {E : Enc α} {w : World} {a : Option Addr} {n cap : Nat} {l : List α} (h : Slc E w a n cap l) {k : Nat} (hk : k < n) :
    ∃ b off x, a = some ⟨b, off, none⟩ ∧ l[k]? = some x ∧ ∀ j v, (E.enc x)[j]? = some v → w.cell? ⟨b, off + k * E.c + j, none⟩ = some v :=
  let ⟨b, off, e, hc⟩ := h.cell k hk
  have hl : k < l.length := by rw [h.hlen]; exact hk
  ⟨b, off, l[k], e, List.getElem?_eq_getElem hl, fun j v hj => hc k _ j v (List.getElem?_eq_getElem hl) hj⟩
def OwnG {α : Type} (E : Enc α) (t : TypeId) (w : World) (base : Nat) (v : Value) (l : List α) : Prop := w.ownsRow base t E.c v l.length (E.all l)
section
variable {α : Type} {E : Enc α} {t : TypeId} {w : World} {base : Nat} {l : List α}
theorem OwnG.form {v : Value} (h : OwnG E t w base v l) : ∃ a cap, v = .slice a l.length cap ∧ l.length ≤ cap ∧ cap ≤ 9223372036854775807 := by
  rcases h.2 with ⟨rfl, h0⟩ | ⟨g, cap, cur, rfl, _, _, h1, h2, _⟩
  · exact ⟨none, 0, by rw [h0], by omega, by omega⟩
  · exact ⟨_, cap, rfl, h1, by simpa [maxLen] using h2⟩
theorem OwnG.var {v : Value} (h : OwnG E t w base v l) : ∃ a n cap, v = .slice a n cap ∧ Hid (l.length = n) := by
  obtain ⟨a, cap, e, _⟩ := h.form
  exact ⟨a, _, cap, e, rfl⟩
theorem OwnG.lt {v : Value} (h : OwnG E t w base v l) : ∀ k, v.ownBlock = some k → base ≤ k ∧ k < w.heap.size := World.ownsRow.lt h
theorem OwnG.keep {w' : World} {v : Value} (h : OwnG E t w base v l) (hk : ∀ k, v.ownBlock = some k → w'.heap[k]? = w.heap[k]?) : OwnG E t w' base v l := by
  refine ⟨h.1, ?_⟩
  rcases h.2 with hn | ⟨g, cap, cur, rfl, hb, hgg, rest⟩
  · exact .inl hn
  · exact .inr ⟨g, cap, cur, rfl, hb, (hk g rfl).trans hgg, rest⟩
theorem OwnG.ext {w' : World} {v : Value} (h : OwnG E t w base v l) (hx : Ext w w') : OwnG E t w' base v l := h.keep fun k hk => hx.block k (h.lt k hk).2
theorem OwnG.on {v : Value} (h : OwnG E t w base v l) : On base w (fun W => OwnG E t W base v l) := fun w2 h2 => h.keep fun k hk => h2 k (h.lt k hk).1 (h.lt k hk).2
theorem OwnG.mono {base' : Nat} {v : Value} (h : OwnG E t w base v l) (hb : base' ≤ base) : OwnG E t w base' v l := by
  refine ⟨h.1, ?_⟩
  rcases h.2 with hn | ⟨g, cap, cur, rfl, hbb, rest⟩
  · exact .inl hn
  · exact .inr ⟨g, cap, cur, rfl, by omega, rest⟩
theorem OwnG.nil (E : Enc α) (t : TypeId) (w : World) (base : Nat) : OwnG E t w base (.slice none 0 0) [] := World.ownsRow_nil w base t _
theorem OwnG.block {a : Option Addr} {n cap : Nat} (h : OwnG E t w base (.slice a n cap) l) {k : Nat} (hk : k < n) : ∃ g, a = some ⟨g, 0, none⟩ ∧ base ≤ g ∧ (∀ j, w.frozen? ⟨g, j, none⟩ = false) ∧ g < w.heap.size := by
  rcases h.2 with ⟨he, h0⟩ | ⟨g, cap', cur, he, hb, hg, _⟩
  · simp only [Value.slice.injEq] at he
    omega
  · simp only [Value.slice.injEq] at he
    obtain ⟨rfl, _⟩ := he
    exact ⟨g, rfl, hb, fun j => frozen_of_row w g j cur _ hg, lt_of_block hg⟩
theorem OwnG.madeS (E : Enc α) (t : TypeId) (W : World) (base : Nat) (n : Nat) (hn : n = W.heap.size) (hb : base ≤ W.heap.size) : OwnG E t (W.alloc (.cells #[] t)) base (.slice (some ⟨n, 0, none⟩) 0 0) [] := by
  subst hn
  exact World.ownsRow_lit W #[] 0 hb (by omega) (by simp)
theorem ownsRow_apart {w : World} {base base' : Nat} {e e' : TypeId} {s s' : Nat} {v v' : Value} {n n' : Nat} {xs xs' : List Value} (hne : e ≠ e') (h : w.ownsRow base e s v n xs) (h' : w.ownsRow base' e' s' v' n' xs') : ∀ k, v.ownBlock = some k → v'.ownBlock ≠ some k := by
  intro k hk hk'
  rcases h.2 with ⟨rfl, _⟩ | ⟨g, cap, cur, rfl, _, hg, _⟩
  · simp [Value.ownBlock] at hk
  · rcases h'.2 with ⟨rfl, _⟩ | ⟨g', cap', cur', rfl, _, hg', _⟩
    · simp [Value.ownBlock] at hk'
    · simp only [Value.ownBlock, Option.some.injEq] at hk hk'
      subst hk hk'
      rw [hg] at hg'
      simp only [Option.some.injEq, Obj.cells.injEq] at hg'
      exact hne hg'.2.1
theorem ownsRow_ne {w : World} {base g : Nat} {e e' : TypeId} {s : Nat} {v : Value} {n : Nat} {xs : List Value} {c : Array Value} {z : Nat × Nat} (h : w.ownsRow base e s v n xs) (hb : w.heap[g]? = some (.cells c e' z)) (hne : e ≠ e') : some g ≠ v.ownBlock := by
  intro hk
  rcases h.2 with ⟨rfl, _⟩ | ⟨g', cap, cur, rfl, _, hg, _⟩
  · simp [Value.ownBlock] at hk
  · simp only [Value.ownBlock, Option.some.injEq] at hk
    subst hk
    rw [hg] at hb
    simp only [Option.some.injEq, Obj.cells.injEq] at hb
    exact hne hb.2.1
end
section
variable {α : Type} {E : Enc α} {t : TypeId} {P : Program} {w : World} {ops : Array Oper} {rest : List Oper} {o : Oper} {a : Act} {Q : Exit → Act → World → Prop}
end
end Go.Proofs.YtgohdmnbnhehnaaGreat
namespace Go.Proofs.YtgohdmnbnhehnaaGreat
set_option linter.unusedVariables false
open Go.RowKit
theorem Ext.store {w w' : World} (h : Ext w w') {b : Nat} (k : Nat) (hb : w.heap.size ≤ b) (v : Value) : Ext w (w'.setCell ⟨b, k, none⟩ v) := Below.setCell h (p := ⟨b, k, none⟩) hb v
theorem Ext.grown {w0 w w' : World} {row : Option Nat} (h : Ext w0 w) (hg : w.grownBy w' row) (hr : ∀ k, row = some k → w0.heap.size ≤ k) : Ext w0 w' := ext_grown h hg hr
def OffV (vs : List Value) (v : Value) : Prop := ∀ i k, i < vs.length → (vs[i]?.getD undef).ownBlock = some k → v.ownBlock ≠ some k
theorem OffV.nil (v : Value) : OffV [] v := fun i k h => absurd h (by simp)
theorem OffV.near {w : World} {base : Nat} {vs : List Value} {A : List (List Int)} {v v' : Value} (h : OffV vs v) (hr : RowsI w base vs A) (hn : Near w v v') : OffV vs v' := by
  intro i k hi hk hk'
  rcases hn k hk' with h1 | h1
  · exact h i k hi hk h1
  · have := ((hr.row i (by rw [← hr.len]; exact hi)).lt k hk).2
    omega
theorem OffV.snoc {w w' : World} {base : Nat} {vs : List Value} {B r : List Int} {v vr : Value} (h : OffV vs v) (hb : OwnI w base v B) (hr : OwnI w' w.heap.size vr r) : OffV (vs ++ [vr]) v := by
  intro i k hi hk hk'
  by_cases hl : i < vs.length
  · rw [List.getElem?_append_left hl] at hk; exact h i k hl hk hk'
  · have hie : i = vs.length := by simp at hi; omega
    subst hie
    rw [List.getElem?_concat_length, Option.getD_some] at hk
    have h1 := (hb.lt k hk').2
    have h2 := (hr.lt k hk).1
    omega
structure LpO (w : World) (base g : Nat) (va vb vc : Value) (vs : List Value) (A : List (List Int)) (B : List Int) (C : List (Int × Int)) : Prop where
  box : w.heap[g]? = some (.cells #[va, vb, vc] 67 (0, 0))
  hg : base ≤ g
  a : OwnV w base va vs
  rows : RowsI w base vs A
  b : OwnI w base vb B
  off : OffV vs vb
  c : OwnR w base vc C
section
variable {w : World} {base g : Nat} {va vb vc : Value} {vs : List Value} {A : List (List Int)} {B : List Int} {C : List (Int × Int)}
theorem LpO.lt (h : LpO w base g va vb vc vs A B C) : g < w.heap.size := lt_of_block h.box
theorem LpO.ext {w' : World} (h : LpO w base g va vb vc vs A B C) (hx : Ext w w') : LpO w' base g va vb vc vs A B C :=
  ⟨(hx.block _ h.lt).trans h.box, h.hg, h.a.ext hx, h.rows.ext hx, h.b.ext hx, h.off, h.c.ext hx⟩
theorem LpO.c0 (h : LpO w base g va vb vc vs A B C) : w.cell? ⟨g, 0, none⟩ = some va := by rw [cell_of_row w g 0 _ _ _ h.box]; rfl
theorem LpO.c1 (h : LpO w base g va vb vc vs A B C) : w.cell? ⟨g, 1, none⟩ = some vb := by rw [cell_of_row w g 1 _ _ _ h.box]; rfl
theorem LpO.c2 (h : LpO w base g va vb vc vs A B C) : w.cell? ⟨g, 2, none⟩ = some vc := by rw [cell_of_row w g 2 _ _ _ h.box]; rfl
theorem LpO.free (h : LpO w base g va vb vc vs A B C) (k : Nat) : w.frozen? ⟨g, k, none⟩ = false := frozen_of_row w g k _ _ h.box
theorem LpO.new {w : World} {base : Nat} (hb : base ≤ w.heap.size) : LpO (w.alloc (.cells #[.slice none 0 0, .slice none 0 0, .slice none 0 0] 67)) base w.heap.size (.slice none 0 0) (.slice none 0 0) (.slice none 0 0) [] [] [] [] :=
  ⟨heap_alloc_new _ _, hb, OwnV.nil _ _, RowsI.nil _ _, OwnI.nil _ _, OffV.nil _, OwnR.nil _ _⟩
theorem LpO.boxc0 {x y z : Value} (h : w.heap[g]? = some (.cells #[x, y, z] 67 (0, 0))) : w.cell? ⟨g, 0, none⟩ = some x := by rw [cell_of_row w g 0 _ _ _ h]; rfl
theorem LpO.boxc1 {x y z : Value} (h : w.heap[g]? = some (.cells #[x, y, z] 67 (0, 0))) : w.cell? ⟨g, 1, none⟩ = some y := by rw [cell_of_row w g 1 _ _ _ h]; rfl
theorem LpO.boxc2 {x y z : Value} (h : w.heap[g]? = some (.cells #[x, y, z] 67 (0, 0))) : w.cell? ⟨g, 2, none⟩ = some z := by rw [cell_of_row w g 2 _ _ _ h]; rfl
theorem LpO.boxf {x y z : Value} (h : w.heap[g]? = some (.cells #[x, y, z] 67 (0, 0))) (k : Nat) : w.frozen? ⟨g, k, none⟩ = false := frozen_of_row w g k _ _ h
theorem LpO.neA (h : LpO w base g va vb vc vs A B C) : some g ≠ va.ownBlock := ownsRow_ne h.a h.box (by decide)
theorem LpO.neB (h : LpO w base g va vb vc vs A B C) : some g ≠ vb.ownBlock := ownsRow_ne h.b h.box (by decide)
theorem LpO.neC (h : LpO w base g va vb vc vs A B C) : some g ≠ vc.ownBlock := ownsRow_ne h.c h.box (by decide)
theorem LpO.store {w w' : World} {k : Nat} {v : Value} (hb : w.heap[g]? = some (.cells #[va, vb, vc] 67 (0, 0))) : (w.setCell ⟨g, k, none⟩ v).heap[g]? = some (.cells (#[va, vb, vc].setIfInBounds k v) 67 (0, 0)) := heap_setCell_same w g k _ _ v hb
theorem LpO.pushA {w1 w2 : World} (h : LpO w base g va vb vc vs A B C) (hx : Ext w w1) {vr va' : Value} {r : List Int} (hr : OwnI w1 w.heap.size vr r) (hbs : base ≤ w.heap.size) (hgr : w1.grownBy w2 va.ownBlock) (ho : OwnV w2 base va' (vs ++ [vr])) (hn : Near w1 va va') :
    LpO (w2.setCell ⟨g, 0, none⟩ va') base g va' vb vc (vs ++ [vr]) (A ++ [r]) B C := by
  have h1 := h.ext hx
  have hbox : w2.heap[g]? = some (.cells #[va, vb, vc] 67 (0, 0)) := (hgr.block g h1.lt h1.neA).trans h1.box
  have hset : ∀ k, k ≠ g → (w2.setCell ⟨g, 0, none⟩ va').heap[k]? = w2.heap[k]? := fun k hk => heap_setCell_other _ _ _ _ hk
  have hB2 : OwnI w2 base vb B := h1.b.keep fun k hk => hgr.block k (h1.b.lt k hk).2 fun e => h1.b.apart h1.a k hk e.symm
  have hC2 : OwnR w2 base vc C := h1.c.keep fun k hk => hgr.block k (h1.c.lt k hk).2 fun e => ownsRow_apart (by decide) h1.c h1.a k hk e.symm
  have hR1 : RowsI w1 base (vs ++ [vr]) (A ++ [r]) := h.rows.snoc hx hr hbs
  have hR2 : RowsI w2 base (vs ++ [vr]) (A ++ [r]) := hR1.keep fun i k hi hk => hgr.block k ((hR1.row i hi).lt k hk).2 fun e => (hR1.row i hi).apart h1.a k hk e.symm
  refine ⟨?_, h.hg, ?_, ?_, ?_, h.off.snoc h.b hr, ?_⟩
  · have := LpO.store (w := w2) (w' := w2) (k := 0) (v := va') hbox
    exact this
  · exact ho.keep fun k hk => hset k fun e => (ownsRow_ne ho hbox (by decide)) (by rw [hk, e])
  · exact hR2.keep fun i k hi hk => hset k fun e => (ownsRow_ne (hR2.row i hi) hbox (by decide)) (by rw [hk, e])
  · exact hB2.keep fun k hk => hset k fun e => (ownsRow_ne hB2 hbox (by decide)) (by rw [hk, e])
  · exact hC2.keep fun k hk => hset k fun e => (ownsRow_ne hC2 hbox (by decide)) (by rw [hk, e])
theorem LpO.pushB {w1 w2 : World} (h : LpO w base g va vb vc vs A B C) (hx : Ext w w1) {vb' : Value} {B' : List Int} (hgr : w1.grownBy w2 vb.ownBlock) (ho : OwnI w2 base vb' B') (hn : Near w1 vb vb') :
    LpO (w2.setCell ⟨g, 1, none⟩ vb') base g va vb' vc vs A B' C := by
  have h1 := h.ext hx
  have hbox : w2.heap[g]? = some (.cells #[va, vb, vc] 67 (0, 0)) := (hgr.block g h1.lt h1.neB).trans h1.box
  have hset : ∀ k, k ≠ g → (w2.setCell ⟨g, 1, none⟩ vb').heap[k]? = w2.heap[k]? := fun k hk => heap_setCell_other _ _ _ _ hk
  have hA2 : OwnV w2 base va vs := h1.a.keep fun k hk => hgr.block k (h1.a.lt k hk).2 fun e => h1.b.apart h1.a k e.symm hk
  have hC2 : OwnR w2 base vc C := h1.c.keep fun k hk => hgr.block k (h1.c.lt k hk).2 fun e => ownsRow_apart (by decide) h1.c h1.b k hk e.symm
  have hR2 : RowsI w2 base vs A := h1.rows.keep fun i k hi hk => hgr.block k ((h1.rows.row i hi).lt k hk).2 fun e => h1.off i k (by rw [h1.rows.len]; exact hi) hk e.symm
  refine ⟨?_, h.hg, ?_, ?_, ?_, h1.off.near h1.rows hn, ?_⟩
  · have := LpO.store (w := w2) (w' := w2) (k := 1) (v := vb') hbox
    exact this
  · exact hA2.keep fun k hk => hset k fun e => (ownsRow_ne hA2 hbox (by decide)) (by rw [hk, e])
  · exact hR2.keep fun i k hi hk => hset k fun e => (ownsRow_ne (hR2.row i hi) hbox (by decide)) (by rw [hk, e])
  · exact ho.keep fun k hk => hset k fun e => (ownsRow_ne ho hbox (by decide)) (by rw [hk, e])
  · exact hC2.keep fun k hk => hset k fun e => (ownsRow_ne hC2 hbox (by decide)) (by rw [hk, e])
theorem LpO.pushC {w1 w2 : World} (h : LpO w base g va vb vc vs A B C) (hx : Ext w w1) {vc' : Value} {C' : List (Int × Int)} (hgr : w1.grownBy w2 vc.ownBlock) (ho : OwnR w2 base vc' C') :
    LpO (w2.setCell ⟨g, 2, none⟩ vc') base g va vb vc' vs A B C' := by
  have h1 := h.ext hx
  have hbox : w2.heap[g]? = some (.cells #[va, vb, vc] 67 (0, 0)) := (hgr.block g h1.lt h1.neC).trans h1.box
  have hset : ∀ k, k ≠ g → (w2.setCell ⟨g, 2, none⟩ vc').heap[k]? = w2.heap[k]? := fun k hk => heap_setCell_other _ _ _ _ hk
  have hA2 : OwnV w2 base va vs := h1.a.keep fun k hk => hgr.block k (h1.a.lt k hk).2 fun e => ownsRow_apart (by decide) h1.a h1.c k hk e.symm
  have hB2 : OwnI w2 base vb B := h1.b.keep fun k hk => hgr.block k (h1.b.lt k hk).2 fun e => ownsRow_apart (by decide) h1.b h1.c k hk e.symm
  have hR2 : RowsI w2 base vs A := h1.rows.keep fun i k hi hk => hgr.block k ((h1.rows.row i hi).lt k hk).2 fun e => ownsRow_apart (by decide) (h1.rows.row i hi) h1.c k hk e.symm
  refine ⟨?_, h.hg, ?_, ?_, ?_, h.off, ?_⟩
  · have := LpO.store (w := w2) (w' := w2) (k := 2) (v := vc') hbox
    exact this
  · exact hA2.keep fun k hk => hset k fun e => (ownsRow_ne hA2 hbox (by decide)) (by rw [hk, e])
  · exact hR2.keep fun i k hi hk => hset k fun e => (ownsRow_ne (hR2.row i hi) hbox (by decide)) (by rw [hk, e])
  · exact hB2.keep fun k hk => hset k fun e => (ownsRow_ne hB2 hbox (by decide)) (by rw [hk, e])
  · exact ho.keep fun k hk => hset k fun e => (ownsRow_ne ho hbox (by decide)) (by rw [hk, e])
theorem ownsRow_grown {w w2 : World} {b1 b2 : Nat} {e e' : TypeId} {s s' n n' : Nat} {v v' : Value} {xs xs' : List Value} (h : w.ownsRow b1 e s v n xs) (h' : w.ownsRow b2 e' s' v' n' xs') (hne : e ≠ e') (hgr : w.grownBy w2 v'.ownBlock) : w2.ownsRow b1 e s v n xs :=
  h.kept hgr (by
    cases hv : v.ownBlock with
    | none => exact .inl rfl
    | some k => exact .inr fun e2 => ownsRow_apart hne h h' k hv e2.symm)
theorem ownsRow_set {w : World} {b1 g k : Nat} {e e' : TypeId} {s n : Nat} {v u : Value} {xs : List Value} {c : Array Value} {z : Nat × Nat} (h : w.ownsRow b1 e s v n xs) (hb : w.heap[g]? = some (.cells c e' z)) (hne : e ≠ e') : (w.setCell ⟨g, k, none⟩ u).ownsRow b1 e s v n xs := by
  refine ⟨h.1, ?_⟩
  rcases h.2 with hn | ⟨g', cap, cur, rfl, hbb, hgg, rest⟩
  · exact .inl hn
  · refine .inr ⟨g', cap, cur, rfl, hbb, ?_, rest⟩
    rw [heap_setCell_other _ _ _ _ fun e2 => by subst e2; exact ownsRow_ne h hb hne rfl]
    exact hgg
theorem LpO.boxA {w1 w2 : World} (h : LpO w base g va vb vc vs A B C) (hx : Ext w w1) (hg : w1.grownBy w2 va.ownBlock) : w2.heap[g]? = some (.cells #[va, vb, vc] 67 (0, 0)) := (hg.block g (h.ext hx).lt (h.ext hx).neA).trans (h.ext hx).box
theorem LpO.boxB {w1 w2 : World} (h : LpO w base g va vb vc vs A B C) (hx : Ext w w1) (hg : w1.grownBy w2 vb.ownBlock) : w2.heap[g]? = some (.cells #[va, vb, vc] 67 (0, 0)) := (hg.block g (h.ext hx).lt (h.ext hx).neB).trans (h.ext hx).box
theorem LpO.boxC {w1 w2 : World} (h : LpO w base g va vb vc vs A B C) (hx : Ext w w1) (hg : w1.grownBy w2 vc.ownBlock) : w2.heap[g]? = some (.cells #[va, vb, vc] 67 (0, 0)) := (hg.block g (h.ext hx).lt (h.ext hx).neC).trans (h.ext hx).box
theorem OwnG.grownV {α : Type} {E : Enc α} {t : TypeId} {w w1 w2 : World} {b1 b2 : Nat} {v v' : Value} {l : List α} {us : List Value} (h : OwnG E t w b1 v l) (hx : Ext w w1) (h' : OwnV w b2 v' us) (hne : t ≠ 22) (hgr : w1.grownBy w2 v'.ownBlock) : OwnG E t w2 b1 v l :=
  ownsRow_grown (h.ext hx) (h'.ext hx) hne hgr
end
theorem OwnV.mono' {w : World} {base base' : Nat} {v : Value} {vs : List Value} (h : OwnV w base v vs) (hb : base' ≤ base) : OwnV w base' v vs := by
  refine ⟨h.1, ?_⟩
  rcases h.2 with hn | ⟨g, cap, cur, rfl, hbb, rest⟩
  · exact .inl hn
  · exact .inr ⟨g, cap, cur, rfl, by omega, rest⟩
theorem OwnSS.mono' {w : World} {base base' : Nat} {v : Value} {L : List (List Int)} (h : OwnSS w base v L) (hb : base' ≤ base) : OwnSS w base' v L :=
  let ⟨vs, h1, h2⟩ := h; ⟨vs, h1.mono' hb, ⟨h2.len, fun i hi => (h2.row i hi).mono hb, h2.apart⟩⟩
theorem Rats.two (W : World) (x y x' y' : Int) (t : TypeId) {n : Nat} (hn : n = W.heap.size) : Rats (W.alloc (.cells #[.int .i64 x, .int .i64 y, .int .i64 x', .int .i64 y'] t)) (some ⟨n, 0, none⟩) 2 2 [(x, y), (x', y')] := by
  subst hn
  exact ⟨rfl, Nat.le_refl _, by omega, fun k hk => ⟨_, 0, rfl, fun k hk => by
    have : k = 0 ∨ k = 1 := by omega
    rcases this with rfl | rfl <;> simp⟩⟩
theorem RowsI.mono' {w : World} {base base' : Nat} {vs : List Value} {L : List (List Int)} (h : RowsI w base vs L) (hb : base' ≤ base) : RowsI w base' vs L := ⟨h.len, fun i hi => (h.row i hi).mono hb, h.apart⟩
theorem Ext.blk {w w' : World} (hx : Ext w w') {b : Nat} {o : Obj} (h : w.heap[b]? = some o) : w'.heap[b]? = some o := (hx.block b (lt_of_block h)).trans h
theorem blk_ne {w : World} {b b' : Nat} {c c' : Array Value} {t t' : TypeId} {z z' : Nat × Nat} (h : w.heap[b]? = some (.cells c t z)) (h' : w.heap[b']? = some (.cells c' t' z')) (hne : t ≠ t') : b ≠ b' := by
  intro e
  subst e
  rw [h] at h'
  simp only [Option.some.injEq, Obj.cells.injEq] at h'
  exact hne h'.2.1
end Go.Proofs.YtgohdmnbnhehnaaGreat
