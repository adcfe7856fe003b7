import Derived.Test.YthjjfkeacobikaaGreatLeAllG22
set_option linter.unusedVariables false
set_option linter.unusedSimpArgs false
namespace Go.Proofs.YthjjfkeacobikaaGreat
open Go.RowKit
theorem eC (n:Nat) (s:Tb × Nat) (k:Nat):bo n s (k+1)=(bo n s k).bind fun s'=>fZ n s' k:=rfl
section
variable {n:Nat} {s:Tb × Nat} {k:Nat} {tt:Tb} {lf:Nat}
theorem ld (h:bo n s k=some (tt,lf)) (hb:tt.basis[k]?.getD 0<n):bo n s (k+1)=some (tt,lf):=by
 rw [eC,h,Option.bind_some];unfold fZ;rw [if_pos hb]
theorem kZ (h:bo n s k=some (tt,lf)) (hb:¬ tt.basis[k]?.getD 0<n) (ha:((tt.row k).take n).all (fun c=>!offZ c)=true):bo n s (k+1)=some (tt,lf):=by
 rw [eC,h,Option.bind_some];unfold fZ;rw [if_neg hb];simp only;rw [dL ha,if_pos (by omega)]
theorem si (h:bo n s k=some (tt,lf)) (hb:¬ tt.basis[k]?.getD 0<n) {j:Nat} (hj:j<n) (hl:j<(tt.row k).length) (h0:((tt.row k).take j).all (fun c=>!offZ c)=true) (h1:offZ ((tt.row k)[j]?.getD (0,0))=true) (hlf:lf<=1000) :
 bo n s (k+1)=(pivS tt (1000-lf) k j).map fun x=>(x.1,1000-x.2):=by
 have hi:bV offZ ((tt.row k).take n)=j:=by
  refine eJ (d:=(0,0)) (by simp;omega) (by rw [List.take_take,Nat.min_eq_left (by omega)];exact h0) ?_;rw [List.getElem?_take_of_lt hj];exact h1
 rw [eC,h,Option.bind_some];unfold fZ;rw [if_neg hb];simp only;rw [hi,if_neg (by omega)];unfold pivS;cases lf with
 | zero=>rw [if_pos (by omega)];rfl
 | succ f =>
   rw [if_neg (by omega)];simp only;cases bu tt k j with
   | none=>rfl
   | some t'=>simp only [Option.map_some];congr 2;omega
theorem kY (h:bo n s k=some (tt,lf)) (hb:¬ tt.basis[k]?.getD 0<n) {j:Nat} (hj:j<n) (hl:j<(tt.row k).length) (h0:((tt.row k).take j).all (fun c=>!offZ c)=true) (h1:offZ ((tt.row k)[j]?.getD (0,0))=true) (hlf:lf<=1000) :
 ((bo n s (k+1)).map fun x=>(x.1,1000-x.2))=pivS tt (1000-lf) k j:=by
 rw [si h hb hj hl h0 h1 hlf];unfold pivS
 split
 ·rfl
 ·next hn =>
  cases bu tt k j with
  | none=>rfl
  | some t'=>simp only [Option.map_some];congr 2;omega
theorem jp (h:bo n s k=none):∀ {m:Nat},k<=m->bo n s m=none:=by
 intro m hm;obtain ⟨d,rfl⟩:∃ d,m=k+d:=⟨m-k,by omega⟩;clear hm
 induction d with
 | zero=>exact h
 | succ d ih=>rw [show k+(d+1)=(k+d)+1 by omega,eC,ih];rfl
end
theorem Left.more {S:Nat} {a b c:World} {o:Option (Tb × Nat)} (hx:Ext a b) (h:Left S b c o):Left S a c o:=⟨(Mod.of hx).trans h.1,h.2⟩
theorem ng {l:List (Int × Int)} {j:Nat} {p:Int × Int} (hj:j<l.length) (hp:l[j]?.getD (0,0)=p) (h0:(l.take j).all (fun c=>!offZ c)=true) (h1:offZ p=false):(l.take (j+1)).all (fun c=>!offZ c)=true:=by
 rw [ev hj,List.all_append,h0,hp];simp [h1]
theorem offZ_eq (p q:Int):offZ (p,q)=!((p == 0)&&(q == 1)):=by unfold offZ;rw [Bool.eq_iff_iff];simp
theorem gU (cs:List (Int × Int)) (m:Nat):bp cs m=-1 ∨ ∃ j:Nat,bp cs m=j/\j<m:=by
 unfold bp
 split
 ·exact Or.inl rfl
 ·unfold bV
  split
  ·next i hi =>
   right
   refine ⟨i,rfl,?_⟩;have:=(List.findIdx?_eq_some_iff_getElem.1 hi).1;rw [List.length_take] at this;omega
  ·exact Or.inl rfl
theorem nk {n m:Nat} {T0:Nat->Nat->Rat} {cost:List (Int × Int)}:∀ {f:Nat} {t:Tb} {p:Ph},TInv n m T0 t->aV cost f t=some p->p.col=-1 ∨ ∃ j:Nat,p.col=j/\j<n:=by
 intro f
 induction f with
 | zero =>
   intro t p ht h;unfold aV at h;cases hc:ce t cost with
   | none=>rw [hc] at h;cases h
   | some cs =>
     rw [hc] at h;simp only at h
     split at h
     ·cases h;exact Or.inl rfl
     ·split at h
      ·cases h;rw [ht.cols];exact gU cs n
      ·cases h
 | succ f ih =>
   intro t p ht h;unfold aV at h;cases hc:ce t cost with
   | none=>rw [hc] at h;cases h
   | some cs =>
     rw [hc] at h;simp only at h
     split at h
     ·cases h;exact Or.inl rfl
     ·split at h
      ·cases h;rw [ht.cols];exact gU cs n
      ·cases hp:bu t (cq t (bp cs t.cols)) (bp cs t.cols) with
       | none=>rw [hp] at h;cases h
       | some t'=>rw [hp] at h;exact ih (eU ht hp) h
theorem kB {t:Tb} {n col k:Nat} (h:t.basis[k]?.getD 0<n):rayN t n col (k+1)=(rayN t n col k).set (t.basis[k]?.getD 0).toNat (negR (t.at k col)):=by simp only [rayN];rw [if_pos h]
theorem mC {t:Tb} {n col k:Nat} (h:¬ t.basis[k]?.getD 0<n):rayN t n col (k+1)=rayN t n col k:=by simp only [rayN];rw [if_neg h]
theorem hU (t:Tb) (n col:Nat):∀ k,(rayN t n col k).length=n
 | 0=>by simp [rayN]
 | k+1=>by
   by_cases h:t.basis[k]?.getD 0<n
   ·rw [kB h,List.length_set];exact hU t n col k
   ·rw [mC h];exact hU t n col k
theorem tw (t:Tb) (n col:Nat):rayN t n col 0=(List.replicate n ((0:Int),(1:Int))).set col (1,1):=by
 simp only [rayN]
 apply List.ext_getElem
 ·simp
 ·intro i h1 h2;rw [List.getElem_set];simp only [List.getElem_map,List.getElem_range,List.getElem_replicate];by_cases h:i=col
  ·rw [if_pos h,if_pos h.symm]
  ·rw [if_neg h,if_neg (fun e=>h e.symm)]
theorem Rats.take {w:World} {a:Option Addr} {n cap:Nat} {l:List (Int × Int)} (h:Rats w a n cap l) {k:Nat} (hk:k<=n):Rats w a k cap (l.take k) :=
 ⟨by rw [List.length_take,h.hlen];omega,Nat.le_trans hk h.hcap,h.hmax,fun j hj=>by
  obtain ⟨b,off,e,hc⟩:=h.cell j (by omega);refine ⟨b,off,e,fun i hi=>?_⟩;rw [List.getElem?_take_of_lt hi]
  exact hc i (by omega)⟩
structure LrB (w W:World) (g:Nat) (s:Int) (vx vy vr:Value) (p q piv:Int):Prop where
 ext:Ext w W
 hg:w.heap.size<=g
 box:W.heap[g]?=some (.cells #[.int .i64 s,vx,vy,vr,.int .i64 p,.int .i64 q,.int .i64 piv] 113 (0,0))
abbrev lrZ:Obj:=.cells #[.int .i64 0,.slice none 0 0,.slice none 0 0,.slice none 0 0,.int .i64 0,.int .i64 0,.int .i64 0] 113
theorem LrB.new {w W:World} (h:Ext w W):LrB w (W.alloc lrZ) W.heap.size 0 (.slice none 0 0) (.slice none 0 0) (.slice none 0 0) 0 0 0:=⟨h.trans (Ext.alloc _ _),h.size,aj _ _ _ rfl⟩
theorem LrB.grow {w W W':World} {g:Nat} {s:Int} {vx vy vr:Value} {p q piv:Int} (h:LrB w W g s vx vy vr p q piv) (hx:Ext W W'):LrB w W' g s vx vy vr p q piv:=⟨h.ext.trans hx,h.hg,(hx.block _ (lt_of_block h.box)).trans h.box⟩
theorem LrB.put {w W:World} {g:Nat} {s:Int} {vx vy vr:Value} {p q piv:Int} (h:LrB w W g s vx vy vr p q piv) (s':Int) (vx' vy' vr':Value) (p' q' piv':Int) :
 LrB w (((((((W.setCell ⟨g,0,none⟩ (.int .i64 s')).setCell ⟨g,1,none⟩ vx').setCell ⟨g,2,none⟩ vy').setCell ⟨g,3,none⟩ vr').setCell ⟨g,4,none⟩ (.int .i64 p')).setCell ⟨g,5,none⟩ (.int .i64 q')).setCell ⟨g,6,none⟩ (.int .i64 piv')) g s' vx' vy' vr' p' q' piv':=by
 refine ⟨((((((h.ext.setCell (p:=⟨g,0,none⟩) h.hg _).setCell (p:=⟨g,1,none⟩) h.hg _).setCell (p:=⟨g,2,none⟩) h.hg _).setCell (p:=⟨g,3,none⟩) h.hg _).setCell (p:=⟨g,4,none⟩) h.hg _).setCell (p:=⟨g,5,none⟩) h.hg _).setCell (p:=⟨g,6,none⟩) h.hg _,h.hg,?_⟩;have b0:=heap_setCell_same W g 0 _ _ (.int .i64 s') h.box;have b1:=heap_setCell_same _ g 1 _ _ vx' b0;have b2:=heap_setCell_same _ g 2 _ _ vy' b1;have b3:=heap_setCell_same _ g 3 _ _ vr' b2;have b4:=heap_setCell_same _ g 4 _ _ (.int .i64 p') b3;have b5:=heap_setCell_same _ g 5 _ _ (.int .i64 q') b4;have b6:=heap_setCell_same _ g 6 _ _ (.int .i64 piv') b5;rw [b6];rfl
section
variable {w W:World} {g:Nat} {s:Int} {vx vy vr:Value} {p q piv:Int}
theorem LrB.c0 (h:LrB w W g s vx vy vr p q piv):W.cell? ⟨g,0,none⟩=some (.int .i64 s):=by rw [cell_of_row W g _ _ _ _ h.box];rfl
theorem LrB.c1 (h:LrB w W g s vx vy vr p q piv):W.cell? ⟨g,1,none⟩=some vx:=by rw [cell_of_row W g _ _ _ _ h.box];rfl
theorem LrB.c2 (h:LrB w W g s vx vy vr p q piv):W.cell? ⟨g,2,none⟩=some vy:=by rw [cell_of_row W g _ _ _ _ h.box];rfl
theorem LrB.c3 (h:LrB w W g s vx vy vr p q piv):W.cell? ⟨g,3,none⟩=some vr:=by rw [cell_of_row W g _ _ _ _ h.box];rfl
theorem LrB.c4 (h:LrB w W g s vx vy vr p q piv):W.cell? ⟨g,4,none⟩=some (.int .i64 p):=by rw [cell_of_row W g _ _ _ _ h.box];rfl
theorem LrB.c5 (h:LrB w W g s vx vy vr p q piv):W.cell? ⟨g,5,none⟩=some (.int .i64 q):=by rw [cell_of_row W g _ _ _ _ h.box];rfl
theorem LrB.c6 (h:LrB w W g s vx vy vr p q piv):W.cell? ⟨g,6,none⟩=some (.int .i64 piv):=by rw [cell_of_row W g _ _ _ _ h.box];rfl
theorem LrB.free (h:LrB w W g s vx vy vr p q piv) (k:Nat):W.frozen? ⟨g,k,none⟩=false:=frozen_of_row W g k _ _ h.box
end
theorem LrB.firstD {w w':World} (h:Ext (w.alloc lrZ).drew w'):LrB w w' w.heap.size 0 (.slice none 0 0) (.slice none 0 0) (.slice none 0 0) 0 0 0 :=
 LrB.grow ⟨(Ext.alloc _ _).trans (Ext.drew _),Nat.le_refl _,heap_alloc_new w _⟩ h
theorem OwnI.mod {w w':World} {S b:Nat} {v:Value} {l:List Int} (h:OwnI w b v l) (hm:Mod S w w') {c:Array Value} {z:Nat × Nat} (hb:w.heap[S]?=some (.cells c 215 z)):OwnI w' b v l :=
 h.keep fun k hk=>hm.block k (h.lt k hk).2 fun e=>(ap h hb (by decide)) (by rw [hk,e])
theorem OwnR.onRats {w:World} {base b:Nat} {a:Option Addr} {n cap:Nat} {l:List (Int × Int)} (h:OwnR w b (.slice a n cap) l) (hb:base<=b):On base w (fun W=>Rats W a n cap l) :=
 fun w2 h2=>(h.keep fun k hk=>h2 k (Nat.le_trans hb (h.lt k hk).1) (h.lt k hk).2).rats
theorem OwnR.onTake {w:World} {base b:Nat} {a:Option Addr} {n cap:Nat} {l:List (Int × Int)} (h:OwnR w b (.slice a n cap) l) (hb:base<=b) {k:Nat} (hk:k<=n):On base w (fun W=>Rats W a k cap (l.take k)) :=
 fun w2 h2=>(h.onRats hb w2 h2).take hk
theorem Rats.nilR (w:World):Rats w none 0 0 []:=⟨rfl,Nat.le_refl _,by omega,fun k hk=>absurd hk (by omega)⟩
structure LrOw (w:World) (base:Nat) (xa:Option Addr) (xn xc:Nat) (ya:Option Addr) (yn yc:Nat) (ra:Option Addr) (rn rc:Nat) (r:LpR):Prop where
 x:On base w fun W=>Rats W xa xn xc r.X
 y:On base w fun W=>Rats W ya yn yc r.Y
 ray:On base w fun W=>Rats W ra rn rc r.ray
theorem LrOw.here {w:World} {base:Nat} {xa:Option Addr} {xn xc:Nat} {ya:Option Addr} {yn yc:Nat} {ra:Option Addr} {rn rc:Nat} {r:LpR} (h:LrOw w base xa xn xc ya yn yc ra rn rc r):LrC w xa xn xc ya yn yc ra rn rc r:=⟨h.x.here,h.y.here,h.ray.here⟩
theorem LrOw.ext {w w':World} {base:Nat} {xa:Option Addr} {xn xc:Nat} {ya:Option Addr} {yn yc:Nat} {ra:Option Addr} {rn rc:Nat} {r:LpR} (h:LrOw w base xa xn xc ya yn yc ra rn rc r) (hx:Ext w w'):LrOw w' base xa xn xc ya yn yc ra rn rc r:=⟨h.x.ext hx,h.y.ext hx,h.ray.ext hx⟩
theorem LrOw.keep {w w':World} {base:Nat} {xa:Option Addr} {xn xc:Nat} {ya:Option Addr} {yn yc:Nat} {ra:Option Addr} {rn rc:Nat} {r:LpR} (h:LrOw w base xa xn xc ya yn yc ra rn rc r) (hs:w.heap.size<=w'.heap.size) (hk:∀ k,base<=k->k<w.heap.size->w'.heap[k]?=w.heap[k]?):LrOw w' base xa xn xc ya yn yc ra rn rc r :=
 ⟨h.x.keep hs hk,h.y.keep hs hk,h.ray.keep hs hk⟩
theorem LrOw.mono {w:World} {base base':Nat} {xa:Option Addr} {xn xc:Nat} {ya:Option Addr} {yn yc:Nat} {ra:Option Addr} {rn rc:Nat} {r:LpR} (h:LrOw w base xa xn xc ya yn yc ra rn rc r) (hb:base'<=base):LrOw w base' xa xn xc ya yn yc ra rn rc r:=⟨h.x.mono hb,h.y.mono hb,h.ray.mono hb⟩
theorem LrOw.zero (w:World) (base:Nat) (s:Int):LrOw w base none 0 0 none 0 0 none 0 0 (aO s):=⟨fun w _=>Rats.nilR w,fun w _=>Rats.nilR w,fun w _=>Rats.nilR w⟩
end Go.Proofs.YthjjfkeacobikaaGreat
