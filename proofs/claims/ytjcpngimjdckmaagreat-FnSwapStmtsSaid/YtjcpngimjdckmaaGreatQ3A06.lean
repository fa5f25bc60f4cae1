/-
 A part of the proofs over this program: rules and contracts of its functions (the rules).
-/
import Derived.Test.YtjcpngimjdckmaaGreatQ3A05
import Derived.MapKept
import Derived.Orders
set_option linter.unusedVariables false
set_option linter.unusedSimpArgs false
namespace Go.AL
theorem mB {α : Type} [Inhabited α] {l r : List α} {c : Nat} (h : c < l.length) : (l ++ r)[c]! = l[c]! := by
 rw [cL _ _ (by rw [List.length_append]; omega), cL _ _ h, List.getElem_append_left h]
theorem Cb {α : Type} [Inhabited α] {l : List α} {x : α} : (l ++ [x])[l.length]! = x := by
 rw [cL _ _ (by rw [List.length_append, List.length_singleton]; omega)]; simp
theorem Js {stk : List Tg} (hl : 0 < stk.length) (h : stk[0]! = ⟨0, true⟩) : cP stk 0 = 0 := by
 cases stk with
 | nil => simp at hl
 | cons t l =>
  have ht : t = ⟨0, true⟩ := h
  subst ht
  unfold cP
  rw [List.findIdx?_cons]
  simp
def Hd (m : List Cl) : Prop := ∀ c, c < m.length → m[c]!.stk[0]! = ⟨0, true⟩
theorem Gn {m : List Cl} (h : OkM m) (hh : Hd m) {x : Pt} (hx : 0 ≤ x.cell ∧ x.cell < m.length) (ht : x.tag = 0) (ha : m[x.cell.toNat]!.alive = true) (wr : Bool) : cR m x wr = 0 := by
 have hc := h.at (k := x.cell.toNat) (by omega)
 have hs := hh x.cell.toNat (by omega)
 have h0 := Js (by have := hc.l; omega) hs
 unfold cR
 rw [if_neg (fun q => q hx), if_neg (by rw [ha]; decide), ht, h0, if_neg (by decide), if_neg]
 rintro ⟨_, h2⟩
 have e : m[x.cell.toNat]!.stk[(0 : Int).toNat]! = m[x.cell.toNat]!.stk[0]! := rfl
 rw [e, hs] at h2; cases h2
theorem xC {m : List Cl} (hh : Hd m) {k : Nat} {c : Cl} (hc : c.stk[0]! = ⟨0, true⟩) : Hd (m.set k c) := fun j hj => by
 rw [List.length_set] at hj
 rw [c8]
 split
 ·exact hc
 ·exact hh j hj
theorem rG {m : List Cl} (h : OkM m) (hh : Hd m) {k : Nat} (hk : k < m.length) (x : Pt) (wr : Bool) : (iO m[k]! x wr).stk[0]! = ⟨0, true⟩ := by
 have hl := (h.at hk).l
 show (eQ m[k]!.stk _ wr)[0]! = _
 rw [(wL (by omega)).1]; exact hh k hk
theorem Hd.tch {m : List Cl} (h : OkM m) (hh : Hd m) (x : Pt) (wr : Bool) : Hd (fL m x wr) := by
 unfold fL; split
 ·rename_i hk; exact xC hh (rG h hh (dN hk).2.2 x wr)
 ·exact hh
theorem Hd.fr {m : List Cl} (h : OkM m) (hh : Hd m) (x : Pt) : Hd (jB m x) := by
 unfold jB; split
 ·rename_i hk; exact xC hh (rG h hh (dN hk).2.2 x true)
 ·exact hh
theorem Hd.wr {m : List Cl} (h : OkM m) (hh : Hd m) (x : Pt) (v : Int) : Hd (oZ m x v) := by
 unfold oZ
 by_cases hk : qP m x v = 0
 ·rw [if_pos hk]
  unfold qP at hk
  by_cases hv : 0 ≤ v ∧ v ≤ 9
  ·rw [if_pos hv] at hk; exact xC hh (rG h hh (dN hk).2.2 x true)
  ·rw [if_neg hv] at hk; cases hk
 ·rw [if_neg hk]; exact hh
theorem m7 {m : List Cl} {x : Pt} {u : Bool} (h : qI m x u = 0) : cR m x u = 0 := by
 unfold qI at h
 by_cases h0 : cR m x u = 0
 ·exact h0
 ·rw [if_neg h0] at h; exact h
theorem Hd.ln {m : List Cl} (h : OkM m) (hh : Hd m) (x : Pt) (u : Bool) : Hd (m8 m x u) := by
 unfold m8; split
 ·rename_i hk
  have h0 := dN (m7 hk)
  have h1 := rG h hh h0.2.2 x u
  have h2 := ((h.at h0.2.2).tch x u).l
  refine xC hh ?_
  show ((iO m[x.cell.toNat]! x u).stk ++ [_])[0]! = _
  rw [mB (by omega)]; exact h1
 ·exact hh
theorem Hd.nw {m : List Cl} (hh : Hd m) (v : Int) : Hd (m ++ [oY v]) := fun c hc => by
 rw [List.length_append, List.length_singleton] at hc
 by_cases q : c < m.length
 ·rw [mB q]; exact hh c q
 ·have e : c = m.length := by omega
  subst e
  rw [Cb]; rfl
def tT (m : List Cl) (c : Nat) : Bool := m[c]!.alive
theorem rN {m : List Cl} {k c : Nat} {x : Cl} (hc : c < m.length) : tT (m.set k x) c = if k = c then x.alive else tT m c := by
 unfold tT
 rw [c8]
 by_cases h : k = c
 ·rw [if_pos ⟨h, hc⟩, if_pos h]
 ·rw [if_neg (fun q => h q.1), if_neg h]
theorem CY (m : List Cl) (x : Pt) (wr : Bool) (c : Nat) (hc : c < m.length) : tT (fL m x wr) c = tT m c := by
 unfold fL; split
 ·rw [rN hc]; split
  ·rename_i e; subst e; rfl
  ·rfl
 ·rfl
theorem Ft (m : List Cl) (x : Pt) (u : Bool) (c : Nat) (hc : c < m.length) : tT (m8 m x u) c = tT m c := by
 unfold m8; split
 ·rw [rN hc]; split
  ·rename_i e; subst e; rfl
  ·rfl
 ·rfl
theorem JR (m : List Cl) (x : Pt) (v : Int) (c : Nat) (hc : c < m.length) : tT (oZ m x v) c = tT m c := by
 unfold oZ; split
 ·rw [rN hc]; split
  ·rename_i e; subst e; rfl
  ·rfl
 ·rfl
theorem BU {m : List Cl} {x : Pt} (hk : cR m x true = 0) (c : Nat) (hc : c < m.length) : tT (jB m x) c = if x.cell = (c : Int) then false else tT m c := by
 have h0 := dN hk
 unfold jB
 rw [if_pos hk, rN hc]
 by_cases q : x.cell = (c : Int)
 ·rw [if_pos q, if_pos (by omega)]
 ·rw [if_neg q, if_neg (by omega)]
structure Own (ts : List Int) (s : Mc) (X : Option Nat) : Prop where
 k : OkS ts.length s
 h : Hd s.cells
 o : ∀ v, v < ts.length → ts[v]! = 2 → s.slots[v]!.set = true → 0 ≤ s.slots[v]!.ptr.cell ∧ s.slots[v]!.ptr.cell < s.cells.length ∧ s.slots[v]!.ptr.tag = 0 ∧ tT s.cells s.slots[v]!.ptr.cell.toNat = true
 d : ∀ v u, v < ts.length → u < ts.length → ts[v]! = 2 → ts[u]! = 2 → s.slots[v]!.set = true → s.slots[u]!.set = true → s.slots[v]!.ptr.cell = s.slots[u]!.ptr.cell → v = u
 a : ∀ c, c < s.cells.length → tT s.cells c = true → X = some c ∨ ∃ v, v < ts.length ∧ ts[v]! = 2 ∧ s.slots[v]!.set = true ∧ s.slots[v]!.ptr.cell = (c : Int)
 x : ∀ c, X = some c → c < s.cells.length ∧ tT s.cells c = true ∧ ∀ v, v < ts.length → ts[v]! = 2 → s.slots[v]!.set = true → s.slots[v]!.ptr.cell ≠ (c : Int)
theorem Own.k0 {ts : List Int} {s : Mc} {X : Option Nat} (w : Own ts s X) {v : Nat} (hv : v < ts.length) (h2 : ts[v]! = 2) (hs : s.slots[v]!.set = true) (wr : Bool) : cR s.cells s.slots[v]!.ptr wr = 0 := by
 obtain ⟨h1, h3, h4, h5⟩ := w.o v hv h2 hs
 exact Gn w.k.m w.h ⟨h1, h3⟩ h4 h5 wr
theorem Own.cells {ts : List Int} {s : Mc} {X : Option Nat} (w : Own ts s X) {m : List Cl} (hm : OkM m) (hh : Hd m) (hl : m.length = s.cells.length) (ha : ∀ c, c < s.cells.length → tT m c = tT s.cells c) (r : List Int) : Own ts ⟨s.slots, m, r⟩ X := by
 refine ⟨⟨hm, w.k.l⟩, hh, fun v hv h2 hs => ?_, w.d, fun c hc h => ?_, fun c hc => ?_⟩
 ·obtain ⟨h1, h3, h4, h5⟩ := w.o v hv h2 hs
  exact ⟨h1, by show _ < (m.length : Int); rw [hl]; exact h3, h4, by show tT m _ = true; rw [ha _ (show s.slots[v]!.ptr.cell.toNat < s.cells.length by omega)]; exact h5⟩
 ·have hc' : c < m.length := hc
  exact w.a c (by omega) (by rw [← ha c (by omega)]; exact h)
 ·obtain ⟨h1, h3, h4⟩ := w.x c hc
  exact ⟨by show c < m.length; omega, by show tT m c = true; rw [ha c h1]; exact h3, h4⟩
theorem Own.put0 {ts : List Int} {s : Mc} {X : Option Nat} (w : Own ts s X) {v : Nat} (h2 : ts[v]! ≠ 2) (y : Sl) : Own ts (dM ts s v y).1 X ∧ (dM ts s v y).2 = -1 := by
 have hl : (s.slots.set v y).length = ts.length := by rw [List.length_set]; exact w.k.l
 have e : ∀ u : Nat, ts[u]! = 2 → (s.slots.set v y)[u]! = s.slots[u]! := fun u hu => by
  rw [c8, if_neg]; rintro ⟨q, _⟩; rw [q] at h2; exact h2 hu
 unfold dM
 rw [if_neg (fun h => h2 h.1)]
 refine ⟨⟨⟨w.k.m, hl⟩, w.h, fun u hu h hs => ?_, fun u u' hu hu' h h' hs hs' hc => ?_, fun c hc h => ?_, fun c hc => ?_⟩, rfl⟩
 ·dsimp only at hs ⊢; rw [e u h] at hs ⊢; exact w.o u hu h hs
 ·dsimp only at hs hs' hc; rw [e u h] at hs hc; rw [e u' h'] at hs' hc; exact w.d u u' hu hu' h h' hs hs' hc
 ·rcases w.a c hc h with q | ⟨u, q1, q2, q3, q4⟩
  ·exact .inl q
  ·exact .inr ⟨u, q1, q2, by dsimp only; rw [e u q2]; exact q3, by dsimp only; rw [e u q2]; exact q4⟩
 ·obtain ⟨h1, h3, h4⟩ := w.x c hc
  exact ⟨h1, h3, fun u q1 q2 q3 => by dsimp only at q3 ⊢; rw [e u q2] at q3 ⊢; exact h4 u q1 q2 q3⟩
theorem Own.free {ts : List Int} {s : Mc} {X : Option Nat} (w : Own ts s X) {v : Nat} (hv : v < ts.length) (h2 : ts[v]! = 2) (hs : s.slots[v]!.set = true) (y : Sl) (hy : y.set = false) (r : List Int) :
  Own ts ⟨s.slots.set v y, jB s.cells s.slots[v]!.ptr, r⟩ X := by
 have hk := w.k0 hv h2 hs true
 have hlen := j1 s.cells s.slots[v]!.ptr
 have hl : (s.slots.set v y).length = ts.length := by rw [List.length_set]; exact w.k.l
 have e : ∀ u : Nat, u ≠ v → (s.slots.set v y)[u]! = s.slots[u]! := fun u hu => by
  rw [c8, if_neg]; rintro ⟨q, _⟩; exact hu q.symm
 have ev : (s.slots.set v y)[v]! = y := by rw [c8, if_pos ⟨rfl, by rw [w.k.l]; exact hv⟩]
 have nev : ∀ u : Nat, (s.slots.set v y)[u]!.set = true → u ≠ v := fun u h q => by rw [q, ev, hy] at h; cases h
 obtain ⟨b1, b2, b3, b4⟩ := w.o v hv h2 hs
 refine ⟨⟨w.k.m.fr _, hl⟩, w.h.fr w.k.m _, fun u hu h hs' => ?_, fun u u' hu hu' h h' q q' hc => ?_, fun c hc h => ?_, fun c hc => ?_⟩
 ·have hne := nev u hs'
  dsimp only at hs' ⊢
  rw [e u hne] at hs' ⊢
  obtain ⟨c1, c2, c3, c4⟩ := w.o u hu h hs'
  refine ⟨c1, by rw [hlen]; exact c2, c3, ?_⟩
  rw [BU hk _ (by omega), if_neg]
  ·exact c4
  ·intro q; exact hne (w.d u v hu hv h h2 hs' hs (by omega))
 ·have n1 := nev u q
  have n2 := nev u' q'
  dsimp only at q q' hc
  rw [e u n1] at q hc; rw [e u' n2] at q' hc
  exact w.d u u' hu hu' h h' q q' hc
 ·dsimp only at hc h
  rw [hlen] at hc
  rw [BU hk c hc] at h
  by_cases q : s.slots[v]!.ptr.cell = (c : Int)
  ·rw [if_pos q] at h; cases h
  ·rw [if_neg q] at h
   rcases w.a c hc h with q2 | ⟨u, q1, q2, q3, q4⟩
   ·exact .inl q2
   ·have hne : u ≠ v := fun e' => q (by rw [← e']; exact q4)
    exact .inr ⟨u, q1, q2, by dsimp only; rw [e u hne]; exact q3, by dsimp only; rw [e u hne]; exact q4⟩
 ·obtain ⟨h1, h3, h4⟩ := w.x c hc
  refine ⟨by dsimp only; rw [hlen]; exact h1, ?_, fun u q1 q2 q3 => ?_⟩
  ·dsimp only; rw [BU hk c h1, if_neg (h4 v hv h2 hs)]; exact h3
  ·have hne := nev u q3
   dsimp only at q3 ⊢
   rw [e u hne] at q3 ⊢
   exact h4 u q1 q2 q3
theorem Own.take {ts : List Int} {s : Mc} {c : Nat} (w : Own ts s (some c)) {v : Nat} (hv : v < ts.length) (h2 : ts[v]! = 2) (hs : s.slots[v]!.set = false) (y : Sl) (hy : y.set = true) (hp : y.ptr = ⟨c, 0⟩) : Own ts ⟨s.slots.set v y, s.cells, s.read⟩ none := by
 have hl : (s.slots.set v y).length = ts.length := by rw [List.length_set]; exact w.k.l
 have e : ∀ u : Nat, u ≠ v → (s.slots.set v y)[u]! = s.slots[u]! := fun u hu => by
  rw [c8, if_neg]; rintro ⟨q, _⟩; exact hu q.symm
 have ev : (s.slots.set v y)[v]! = y := by rw [c8, if_pos ⟨rfl, by rw [w.k.l]; exact hv⟩]
 obtain ⟨x1, x2, x3⟩ := w.x c rfl
 refine ⟨⟨w.k.m, hl⟩, w.h, fun u hu h hs' => ?_, fun u u' hu hu' h h' q q' hc => ?_, fun c' hc h => ?_, fun c' hc => by cases hc⟩
 ·by_cases q : u = v
  ·subst q; dsimp only; rw [ev, hp]
   exact ⟨by dsimp only; omega, by dsimp only; omega, rfl, by simpa using x2⟩
  ·dsimp only at hs' ⊢; rw [e u q] at hs' ⊢; exact w.o u hu h hs'
 ·dsimp only at q q' hc
  by_cases n1 : u = v
  ·by_cases n2 : u' = v
   ·rw [n1, n2]
   ·exfalso; rw [n1, ev, hp, e u' n2] at hc; rw [e u' n2] at q'; exact x3 u' hu' h' q' hc.symm
  ·by_cases n2 : u' = v
   ·exfalso; rw [n2, ev, hp, e u n1] at hc; rw [e u n1] at q; exact x3 u hu h q hc
   ·rw [e u n1] at q hc; rw [e u' n2] at q' hc; exact w.d u u' hu hu' h h' q q' hc
 ·dsimp only at hc h
  rcases w.a c' hc h with q2 | ⟨u, q1, q2, q3, q4⟩
  ·cases q2
   exact .inr ⟨v, hv, h2, by dsimp only; rw [ev]; exact hy, by dsimp only; rw [ev, hp]⟩
  ·have hne : u ≠ v := fun e' => by rw [e', hs] at q3; cases q3
   exact .inr ⟨u, q1, q2, by dsimp only; rw [e u hne]; exact q3, by dsimp only; rw [e u hne]; exact q4⟩
theorem EM {xs : List Sl} (v : Nat) (y z : Sl) : (xs.set v y).set v z = xs.set v z := by simp
theorem Own.putB {ts : List Int} {s : Mc} {c : Nat} (w : Own ts s (some c)) {v : Nat} (hv : v < ts.length) (h2 : ts[v]! = 2) (y : Sl) (hy : y.set = true) (hp : y.ptr = ⟨c, 0⟩) : Own ts (dM ts s v y).1 none ∧ (dM ts s v y).2 = -1 := by
 unfold dM
 by_cases hs : s.slots[v]!.set = true
 ·rw [if_pos ⟨h2, hs⟩]
  have hk := w.k0 hv h2 hs true
  have w1 := w.free hv h2 hs iT rfl s.read
  have w2 := w1.take hv h2 (by dsimp only; rw [c8, if_pos ⟨rfl, by rw [w.k.l]; exact hv⟩]; rfl) y hy hp
  dsimp only at w2 ⊢
  rw [EM] at w2
  refine ⟨w2, ?_⟩
  unfold lL; rw [if_pos hk]
 ·rw [if_neg (fun h => hs h.2)]
  exact ⟨w.take hv h2 (by simpa using hs) y hy hp, rfl⟩
end Go.AL
namespace Go.AL
section
variable {ts : List Int} {s : Mc}
theorem Own.new (w : Own ts s none) {n : Int} (hn : 0 ≤ n ∧ n ≤ 9) (hl : s.cells.length ≠ 200) (r : List Int) : Own ts ⟨s.slots, s.cells ++ [oY n], r⟩ (some s.cells.length) := by
 have hlen : (s.cells ++ [oY n]).length = s.cells.length + 1 := by rw [List.length_append, List.length_singleton]
 have lo : ∀ c, c < s.cells.length → tT (s.cells ++ [oY n]) c = tT s.cells c := fun c hc => by
  unfold tT
  rw [mB hc]
 have hi : tT (s.cells ++ [oY n]) s.cells.length = true := by
  unfold tT; rw [Cb]; rfl
 refine ⟨⟨w.k.m.nw hn (by have := w.k.m.l; omega), w.k.l⟩, w.h.nw n, fun v hv h2 hs => ?_, w.d, fun c hc h => ?_, fun c hc => ?_⟩
 ·obtain ⟨h1, h3, h4, h5⟩ := w.o v hv h2 hs
  exact ⟨h1, by dsimp only; omega, h4, by dsimp only; rw [lo _ (by omega)]; exact h5⟩
 ·dsimp only at hc h
  by_cases q : c < s.cells.length
  ·rw [lo c q] at h
   rcases w.a c q h with q2 | q2
   ·cases q2
   ·exact .inr q2
  ·exact .inl (by congr 1; omega)
 ·cases hc
  refine ⟨by dsimp only; omega, hi, fun v hv h2 hs => ?_⟩
  obtain ⟨h1, h3, h4, h5⟩ := w.o v hv h2 hs
  dsimp only; omega
theorem Own.give (w : Own ts s none) {v : Nat} (hv : v < ts.length) (h2 : ts[v]! = 2) (hs : s.slots[v]!.set = true) : Own ts ⟨s.slots.set v iT, s.cells, s.read⟩ (some s.slots[v]!.ptr.cell.toNat) := by
 have hl : (s.slots.set v iT).length = ts.length := by rw [List.length_set]; exact w.k.l
 have e : ∀ u : Nat, u ≠ v → (s.slots.set v iT)[u]! = s.slots[u]! := fun u hu => by
  rw [c8, if_neg]; rintro ⟨q, _⟩; exact hu q.symm
 have ev : (s.slots.set v iT)[v]! = iT := by rw [c8, if_pos ⟨rfl, by rw [w.k.l]; exact hv⟩]
 have nev : ∀ u : Nat, (s.slots.set v iT)[u]!.set = true → u ≠ v := fun u h q => by rw [q, ev] at h; cases h
 obtain ⟨b1, b2, b3, b4⟩ := w.o v hv h2 hs
 refine ⟨⟨w.k.m, hl⟩, w.h, fun u hu h hs' => ?_, fun u u' hu hu' h h' q q' hc => ?_, fun c hc h => ?_, fun c hc => ?_⟩
 ·have hne := nev u hs'
  dsimp only at hs' ⊢; rw [e u hne] at hs' ⊢; exact w.o u hu h hs'
 ·have n1 := nev u q
  have n2 := nev u' q'
  dsimp only at q q' hc
  rw [e u n1] at q hc; rw [e u' n2] at q' hc
  exact w.d u u' hu hu' h h' q q' hc
 ·rcases w.a c hc h with q2 | ⟨u, q1, q2, q3, q4⟩
  ·cases q2
  ·by_cases q : u = v
   ·subst q; exact .inl (by congr 1; omega)
   ·exact .inr ⟨u, q1, q2, by dsimp only; rw [e u q]; exact q3, by dsimp only; rw [e u q]; exact q4⟩
 ·cases hc
  refine ⟨by dsimp only; omega, b4, fun u q1 q2 q3 => ?_⟩
  have hne := nev u q3
  dsimp only at q3 ⊢
  rw [e u hne] at q3 ⊢
  intro q; exact hne (w.d u v q1 hv q2 h2 q3 hs (by omega))
theorem Own.clr (w : Own ts s none) {v : Nat} (h2 : ts[v]! ≠ 2) : Own ts ⟨s.slots.set v iT, s.cells, s.read⟩ none := by
 have h := (w.put0 h2 iT).1
 unfold dM at h
 rwa [if_neg (fun h => h2 h.1)] at h
theorem Own.do (w : Own ts s none) {x : Pnt} (A : PtA ts x) (h11 : x.op ≠ 11) (hx : x.op ≤ 8 → 0 ≤ x.x ∧ x.x < ts.length) (hop : 1 ≤ x.op) (hy : 3 ≤ x.op → x.op ≤ 7 → 0 ≤ x.y ∧ x.y < ts.length) (hu : cX ts s x = false) : Own ts (cO ts s x).1 none := by
 unfold cO
 by_cases h1 : x.op = 1
 ·rw [if_pos h1]; exact (w.put0 (by rw [A.t1 h1]; decide) _).1
 rw [if_neg h1]
 by_cases h2 : x.op = 2
 ·rw [if_pos h2]
  split
  ·exact w
  ·rename_i h200
   have hxb := hx (by omega)
   exact ((w.new (A.n (.inr h2)) h200 s.read).putB (v := x.x.toNat) (by omega) (A.t2 (.inl h2)) _ rfl rfl).1
 rw [if_neg h2]
 by_cases h3 : x.op = 3
 ·rw [if_pos h3]
  have hxb := hx (by omega)
  have hyb := hy (by omega) (by omega)
  obtain ⟨ht, hne⟩ := A.t3 h3
  have hyn : ((x.y.toNat : Nat) : Int) = x.y := by omega
  have hys : s.slots[x.y.toNat]!.set = true := eL hu (v := x.y.toNat) (by omega) (by
   unfold bO; rw [if_pos h3, if_pos hyn]; split <;> decide)
  by_cases q2 : ts[x.y.toNat]! = 2
  ·rw [if_pos (tD.2 (.inl q2))]
   have g := w.give (v := x.y.toNat) (by omega) q2 hys
   obtain ⟨b1, b2, b3, b4⟩ := w.o x.y.toNat (by omega) q2 hys
   refine (g.putB (v := x.x.toNat) (by omega) (by rw [ht]; exact q2) _ hys ?_).1
   generalize s.slots[x.y.toNat]! = z at b1 b3
   obtain ⟨zs, zn, zc, zt⟩ := z
   dsimp only at b1 b3 ⊢
   rw [b3, Int.toNat_of_nonneg b1]
  ·split
   ·exact ((w.clr (v := x.y.toNat) q2).put0 (by rw [ht]; exact q2) _).1
   ·exact (w.put0 (by rw [ht]; exact q2) _).1
 rw [if_neg h3]
 by_cases h4 : x.op = 4 ∨ x.op = 5
 ·rw [if_pos h4]
  have hxt : ts[x.x.toNat]! ≠ 2 := by
   rcases h4 with h4 | h4
   ·rw [(A.t4 h4).1]; decide
   ·rw [(A.t5 h4).1]; decide
  split
  ·exact ((w.cells (w.k.m.ln _ _) (w.h.ln w.k.m _ _) (qS _ _ _) (fun c hc => Ft _ _ _ c hc) _).put0 hxt _).1
  ·exact w
 rw [if_neg h4]
 by_cases h6 : x.op = 6
 ·rw [if_pos h6]
  have hxt : ts[x.x.toNat]! ≠ 2 := by rw [(A.t6 h6).1]; decide
  split
  ·exact ((w.cells (w.k.m.tch _ _) (w.h.tch w.k.m _ _) (l0 _ _ _) (fun c hc => CY _ _ _ c hc) _).put0 hxt _).1
  ·exact w
 rw [if_neg h6]
 by_cases h7 : x.op = 7
 ·rw [if_pos h7]; exact w.cells (w.k.m.wr _ _) (w.h.wr w.k.m _ _) (yC _ _ _) (fun c hc => JR _ _ _ c hc) _
 rw [if_neg h7]
 by_cases h8 : x.op = 8
 ·rw [if_pos h8]
  have hxb := hx (by omega)
  have hxn : ((x.x.toNat : Nat) : Int) = x.x := by omega
  have hxs : s.slots[x.x.toNat]!.set = true := eL hu (v := x.x.toNat) (by omega) (by
   unfold bO; rw [if_neg (by omega), if_neg (by omega), if_neg (by omega), if_pos h8, if_pos hxn]; decide)
  exact w.free (v := x.x.toNat) (by omega) (A.t2 (.inr h8)) hxs iT rfl _
 rw [if_neg h8, if_neg h11]
 exact w
end
theorem Own.fin {ts : List Int} : ∀ n v (s : Mc), Own ts s none → v + n = ts.length → (∀ u, u < v → ts[u]! = 2 → s.slots[u]!.set = false) →
  (dT ts n v s).2 = 0 ∧ Own ts (dT ts n v s).1 none ∧ ∀ u, u < ts.length → ts[u]! = 2 → (dT ts n v s).1.slots[u]!.set = false
 | 0, v, s, w, hv, h => ⟨rfl, w, fun u hu h2 => h u (by omega) h2⟩
 | n + 1, v, s, w, hv, h => by
  unfold dT
  by_cases q : ts[v]! = 2 ∧ s.slots[v]!.set = true
  ·rw [if_pos q, if_pos (w.k0 (by omega) q.1 q.2 true)]
   refine Own.fin n (v + 1) _ (w.free (by omega) q.1 q.2 iT rfl _) (by omega) fun u hu h2 => ?_
   dsimp only
   rw [c8]
   by_cases e : v = u
   ·rw [if_pos ⟨e, by rw [w.k.l]; omega⟩]; rfl
   ·rw [if_neg (fun h => e h.1)]; exact h u (by omega) h2
  ·rw [if_neg q]
   refine Own.fin n (v + 1) s w (by omega) fun u hu h2 => ?_
   by_cases e : u = v
   ·subst e
    cases hs : s.slots[u]!.set with
    | false => rfl
    | true => exact absurd ⟨h2, hs⟩ q
   ·exact h u (by omega) h2
theorem Own.start (ts : List Int) : Own ts (mc0 ts.length) none := by
 have e : ∀ v, v < ts.length → (mc0 ts.length).slots[v]! = iT := fun v hv => by
  show (List.replicate ts.length iT)[v]! = iT
  rw [cL _ _ (by simpa using hv)]; simp
 refine ⟨OkS.mc0 _, fun c hc => ?_, fun v hv _ hs => ?_, fun v u hv _ _ _ hs => ?_, fun c hc => ?_, fun c hc => by cases hc⟩
 ·have : c < ([] : List Cl).length := hc
  simp at this
 ·rw [e v hv] at hs; cases hs
 ·rw [e v hv] at hs; cases hs
 ·have : c < ([] : List Cl).length := hc
  simp at this
theorem tG (ts : List Int) : ∀ n v (s : Mc), (dT ts n v s).1.read = s.read
 | 0, _, _ => rfl
 | n + 1, v, s => by
  unfold dT; split
  ·split
   ·exact tG ts n _ _
   ·rfl
  ·exact tG ts n _ _
theorem fT (ts : List Int) (s : Mc) (v : Nat) (x : Sl) : (dM ts s v x).1.read = s.read := by unfold dM; split <;> rfl
end Go.AL
namespace Go.AL
structure Co where
 val : Int
 alive : Bool
 next : Int
 av : AV
instance : Inhabited Co := ⟨⟨0, false, 0, .imm 0 []⟩⟩
def gZ (c : Co) : List AV := [iv c.val, bv c.alive, iv c.next, c.av]
instance : FlT gZ 4 := ⟨fun _ => rfl⟩
instance : FE gZ (fun c => [iv c.val, bv c.alive, iv c.next, c.av]) := ⟨fun _ => rfl⟩
def qL (c : Cl) : Co := ⟨c.val, c.alive, c.next, sl eF c.stk⟩
def e5 (m : List Cl) (j : Nat) (X : AV) : List Co := (m.map qL).set j { qL m[j]! with av := X }
theorem kO (m : List Cl) : aI gZ (m.map qL) = aI eC m := by
 unfold aI; rw [List.flatMap_map]; rfl
theorem eT {m : List Cl} {j : Nat} {X : AV} : (e5 m j X).length = m.length := by unfold e5; rw [List.length_set, List.length_map]
theorem iV {m : List Cl} {j : Nat} {X : AV} (h : j < m.length) : (e5 m j X)[j]! = ⟨m[j]!.val, m[j]!.alive, m[j]!.next, X⟩ := by
 unfold e5
 rw [cL _ _ (by rw [List.length_set, List.length_map]; exact h), List.getElem_set_self]; rfl
theorem jR {m : List Cl} {j : Nat} {X : AV} (h : j < m.length) : aI gZ (e5 m j X) = aI eC (m.take j) ++ ([iv m[j]!.val, bv m[j]!.alive, iv m[j]!.next] ++ X :: aI eC (m.drop (j + 1))) := by
 unfold e5
 rw [List.set_eq_take_append_cons_drop, if_pos (by rw [List.length_map]; exact h), ← eE, ← List.map_take, kO, ← List.map_drop]
 congr 1
 show gZ _ ++ aI gZ _ = _
 rw [kO]; rfl
theorem vG {m : List Cl} {j : Nat} {X : AV} (h : j < m.length) : aI gZ (e5 m j X) = (aI eC (m.take j) ++ [iv m[j]!.val, bv m[j]!.alive, iv m[j]!.next]) ++ X :: aI eC (m.drop (j + 1)) := by
 rw [jR h, List.append_assoc]
theorem A4 {m : List Cl} {j : Nat} {r : List Tg} : aI gZ (e5 m j (sl eF r)) = aI eC (m.set j { m[j]! with stk := r }) := by
 rw [← kO, List.map_set]; rfl
theorem IL {m : List Cl} {j : Nat} {X : AV} (h : j < m.length) : iR (aI eC m) (0 + j * 4 + 3) [X] = aI gZ (e5 m j X) := by
 rw [← kO]
 have := fW (f := gZ) (xs := m.map qL) (k := j) (j := 3) (new := [X]) (y := { qL m[j]! with av := X }) (by rw [List.length_map]; exact h) (by simp) (by
  have e : (m.map qL)[j]! = qL m[j]! := by rw [cL _ _ (by rw [List.length_map]; exact h), List.getElem_map, cL _ _ h]
  rw [e]; rfl)
 exact this
theorem xW {m : List Cl} {j : Nat} {X Y : AV} (h : j < m.length) : iR (aI gZ (e5 m j X)) (0 + j * 4 + 3) [Y] = aI gZ (e5 m j Y) := by
 have e : e5 m j Y = (e5 m j X).set j { qL m[j]! with av := Y } := by unfold e5; rw [List.set_set]
 rw [e]
 exact fW (by rw [eT]; exact h) (by simp) (by rw [iV h]; rfl)
theorem CX {m : List Cl} {j : Nat} {X : AV} {v : Int} (h : j < m.length) : iR (aI gZ (e5 m j X)) (0 + j * 4 + 2) [iv v] = aI gZ (e5 (m.set j { m[j]! with next := v }) j X) := by
 have e : e5 (m.set j { m[j]! with next := v }) j X = (e5 m j X).set j ⟨m[j]!.val, m[j]!.alive, v, X⟩ := by
  have e2 : (m.set j { m[j]! with next := v })[j]! = { m[j]! with next := v } := by rw [cL _ _ (by rw [List.length_set]; exact h), List.getElem_set_self]
  unfold e5
  rw [e2, List.map_set, List.set_set, List.set_set]; rfl
 rw [e]
 exact fW (by rw [eT]; exact h) (by simp) (by rw [iV h]; rfl)
theorem Le.cls {ts : List (Nat × AV)} {hs : List (Nat × Option (List AV))} {n : Nat} {z0 : Lo} {o q j k : Nat} {m : List Cl} {r : List Tg} (hj : cE hs o = some (aI gZ (e5 m j (.own q 0 k 2)))) (hq : cE hs q = some (aI eF r)) (hk : k = r.length) (hjm : j < m.length) (hoq : o ≠ q) :
  Le ⟨ts, hs, n, z0⟩ ⟨ts, (o, some (aI eC (m.set j { m[j]! with stk := r }))) :: (q, none) :: hs, n, z0⟩ := by
 subst hk
 rw [vG hjm] at hj
 have h := Le.frzC (ts := ts) (n := n) (z0 := z0) _ hj hq hoq
 rw [← A4, vG hjm]; exact h
theorem nA {ρ : Nat → Option Nat} {m : List Cl} {j k i i' : Nat} (hr : ρ i = some i') : RnL ρ (aI gZ (e5 m j (.own i 0 k 2))) (aI gZ (e5 m j (.own i' 0 k 2))) := by
 by_cases h : j < m.length
 ·rw [jR h, jR h]
  exact RnL.app (RnL.purI inferInstance) (RnL.app (RnL.purI inferInstance) (RnL.cons (RnV.own hr) (RnL.purI inferInstance)))
 ·have e : ∀ X, e5 m j X = m.map qL := fun X => List.set_eq_of_length_le (by rw [List.length_map]; omega)
  rw [e, e, kO]
  exact RnL.purI inferInstance
end Go.AL
namespace Go.AL
theorem Cs : ∀ {l : List Tg} {a b : Tg}, (l.map (·.id)).Nodup → a ∈ l → b ∈ l → a.id = b.id → a = b
 | [], _, _, _, h, _, _ => by cases h
 | t :: l, a, b, hn, ha, hb, e => by
  rw [List.map_cons, List.nodup_cons] at hn
  rcases List.mem_cons.1 ha with q | ha'
  ·rcases List.mem_cons.1 hb with q' | hb'
   ·rw [q, q']
   ·exact absurd (List.mem_map.2 ⟨b, hb', by rw [← e, q]⟩) hn.1
  ·rcases List.mem_cons.1 hb with q' | hb'
   ·exact absurd (List.mem_map.2 ⟨a, ha', by rw [e, q']⟩) hn.1
   ·exact Cs hn.2 ha' hb' e
theorem tN {stk : List Tg} {t : Tg} (hn : (stk.map (·.id)).Nodup) (h : t ∈ stk) : 0 ≤ cP stk t.id ∧ (cP stk t.id).toNat < stk.length ∧ stk[(cP stk t.id).toNat]! = t := by
 have h0 : 0 ≤ cP stk t.id := by
  apply Classical.byContradiction; intro q
  exact mM.1 (by omega : cP stk t.id < 0) t h rfl
 have hb := e7 stk t.id
 have hk : (cP stk t.id).toNat < stk.length := by omega
 exact ⟨h0, hk, Cs hn (bY _ _ hk) h (kX h0)⟩
theorem C9 {a b : Tg} {l : List Tg} (h : [a, b].Sublist l) : a ∈ l ∧ b ∈ l := ⟨h.subset (by simp), h.subset (by simp)⟩
theorem J9 {a b : Tg} {l : List Tg} (hn : (l.map (·.id)).Nodup) (h : [a, b].Sublist l) : a.id ≠ b.id := by
 have := (h.map (·.id)).nodup hn
 simpa using this
theorem II {a b : Tg} {l : List Tg} (hn : (l.map (·.id)).Nodup) (hl : 0 < l.length) (h : [a, b].Sublist l) : b ≠ l[0]! := by
 cases l with
 | nil => cases h
 | cons t l =>
  intro q
  have e : (t :: l)[0]! = t := rfl
  rw [e] at q
  rw [q] at h
  rw [List.map_cons, List.nodup_cons] at hn
  have ht : t ∉ l := fun q => hn.1 (List.mem_map.2 ⟨t, q, rfl⟩)
  cases h with
  | cons _ h => exact ht (h.subset (by simp))
  | cons_cons _ h => exact ht (h.subset (by simp))
theorem Hm {b : Tg} {l : List Tg} (h : b ∈ l) (hne : b ≠ l[0]!) : [l[0]!, b].Sublist l := by
 cases l with
 | nil => cases h
 | cons t l =>
  have e : (t :: l)[0]! = t := rfl
  rw [e] at hne ⊢
  rcases List.mem_cons.1 h with h | h
  ·exact absurd h hne
  ·exact (List.singleton_sublist.2 h).cons_cons t
theorem DW {stk : List Tg} {k : Nat} {wr : Bool} (hk : k < stk.length) {t : Tg} (h : t ∈ stk) (hn : t ∉ eQ stk k wr) : [stk[k]!, t].Sublist stk ∧ (wr = false → t.uq = true) := by
 have ht : t ∉ stk.take (k + 1) := fun q => hn (by unfold eQ; split; exact q; exact List.mem_append_left _ q)
 have hd : t ∈ stk.drop (k + 1) := by
  rw [← List.take_append_drop (k + 1) stk] at h
  exact (List.mem_append.1 h).resolve_left ht
 refine ⟨?_, fun hw => ?_⟩
 ·have h1 : [stk[k]!].Sublist (stk.take (k + 1)) := List.singleton_sublist.2 (by rw [c9 _ _ hk]; simp)
  have h2 := h1.append (List.singleton_sublist.2 hd)
  rwa [List.take_append_drop] at h2
 ·apply Classical.byContradiction; intro q
  apply hn
  unfold eQ
  rw [if_neg (by rw [hw]; decide)]
  exact List.mem_append_right _ (List.mem_filter.2 ⟨hd, by simpa using q⟩)
theorem vL {stk : List Tg} {k : Nat} {wr : Bool} (hk : k < stk.length) {t : Tg} (h : t ∈ eQ stk k wr) (hu : wr = false → t.uq = true) : t = stk[k]! ∨ [t, stk[k]!].Sublist stk := by
 have ht : t ∈ stk.take (k + 1) := by
  unfold eQ at h
  split at h
  ·exact h
  ·rename_i hw
   rcases List.mem_append.1 h with h | h
   ·exact h
   ·have h1 := (List.mem_filter.1 h).2
    rw [hu (by simpa using hw)] at h1; cases h1
 have e := c9 _ _ hk
 rw [e] at ht
 rcases List.mem_append.1 ht with ht | ht
 ·refine .inr (List.Sublist.trans ?_ (List.take_sublist (k + 1) stk))
  rw [e]
  exact (List.singleton_sublist.2 ht).append (List.Sublist.refl _)
 ·exact .inl (by simpa using ht)
theorem yL {a b t : Tg} {l : List Tg} (h : [a, b].Sublist (l ++ [t])) : [a, b].Sublist l ∨ (b = t ∧ a ∈ l) := by
 obtain ⟨x, y, e, hx, hy⟩ := List.sublist_append_iff.1 h
 match x, e with
 | [], e =>
  have : y = [a, b] := by simpa using e.symm
  rw [this] at hy; have := hy.length_le; simp at this
 | [c], e =>
  have e' : a = c ∧ [b] = y := by simpa using e
  rw [← e'.2] at hy
  refine .inr ⟨by simpa using hy.subset (List.mem_singleton_self b), ?_⟩
  rw [e'.1]; exact hx.subset (by simp)
 | [c, d], e =>
  have e' : a = c ∧ b = d := by simp at e; exact ⟨e.1, e.2.1⟩
  rw [e'.1, e'.2]; exact .inl hx
 | c :: d :: f :: z, e => simp at e
abbrev Ut (a b : Tg) : Prop := b.uq = true → a.uq = true
structure Sh (N : Int) (c : Cl) : Prop where
 n : c.next ≤ N
 l : (c.stk.length : Int) ≤ c.next
 p : c.stk.Pairwise Ut
def ShM (N : Int) (m : List Cl) : Prop := ∀ c ∈ m, Sh N c
theorem Sh.two {N : Int} {c : Cl} (h : Sh N c) {a b : Tg} (hs : [a, b].Sublist c.stk) (hb : b.uq = true) : a.uq = true := by
 have := h.p.sublist hs
 simp only [List.pairwise_cons, List.mem_singleton, forall_eq] at this
 exact this.1 hb
theorem Sh.mono {N N' : Int} {c : Cl} (h : Sh N c) (hN : N ≤ N') : Sh N' c := ⟨Int.le_trans h.n hN, h.l, h.p⟩
theorem ShM.mono {N N' : Int} {m : List Cl} (h : ShM N m) (hN : N ≤ N') : ShM N' m := fun c hc => (h c hc).mono hN
theorem Sh.tch {N : Int} {c : Cl} (h : Sh N c) (x : Pt) (wr : Bool) : Sh N (iO c x wr) := by
 have hs := tchS_sub (stk := c.stk) (k := (cP c.stk x.tag).toNat) (wr := wr)
 refine ⟨h.n, ?_, h.p.sublist hs⟩
 have h1 := hs.length_le
 have h2 := h.l
 show ((eQ c.stk _ wr).length : Int) ≤ c.next
 omega
theorem ShM.set {N : Int} {m : List Cl} (h : ShM N m) {k : Nat} {c : Cl} (hc : Sh N c) : ShM N (m.set k c) :=
 fun x hx => (List.mem_or_eq_of_mem_set hx).elim (h x) (fun e => e ▸ hc)
theorem ShM.at {N : Int} {m : List Cl} (h : ShM N m) {k : Nat} (hk : k < m.length) : Sh N m[k]! := h _ (bY _ _ hk)
theorem ShM.tch {N : Int} {m : List Cl} (h : ShM N m) (x : Pt) (wr : Bool) : ShM N (fL m x wr) := by
 unfold fL; split
 ·rename_i hk; exact h.set ((h.at (dN hk).2.2).tch x wr)
 ·exact h
theorem ShM.fr {N : Int} {m : List Cl} (h : ShM N m) (x : Pt) : ShM N (jB m x) := by
 unfold jB; split
 ·rename_i hk
  have h1 := (h.at (dN hk).2.2).tch x true
  exact h.set ⟨h1.n, h1.l, h1.p⟩
 ·exact h
theorem ShM.wr {N : Int} {m : List Cl} (h : ShM N m) (x : Pt) (v : Int) : ShM N (oZ m x v) := by
 unfold oZ
 by_cases hk : qP m x v = 0
 ·rw [if_pos hk]
  unfold qP at hk
  by_cases hv : 0 ≤ v ∧ v ≤ 9
  ·rw [if_pos hv] at hk
   have h1 := (h.at (dN hk).2.2).tch x true
   exact h.set ⟨h1.n, h1.l, h1.p⟩
  ·rw [if_neg hv] at hk; cases hk
 ·rw [if_neg hk]; exact h
theorem ShM.nw {N : Int} {m : List Cl} (h : ShM N m) (hN : 1 ≤ N) (v : Int) : ShM N (m ++ [oY v]) := fun c hc =>
 (List.mem_append.1 hc).elim (h c) (fun h => by
  rw [List.mem_singleton.1 h]
  exact ⟨hN, by show ((1 : Nat) : Int) ≤ 1; decide, by simp [oY]⟩)
theorem EW {m : List Cl} {x : Pt} {wr : Bool} (h : cR m x wr = 0) : m[x.cell.toNat]!.alive = true ∧ 0 ≤ cP m[x.cell.toNat]!.stk x.tag ∧ (wr = true → m[x.cell.toNat]!.stk[(cP m[x.cell.toNat]!.stk x.tag).toNat]!.uq = true) := by
 unfold cR at h
 split at h
 ·cases h
 split at h
 ·cases h
 rename_i ha
 split at h
 ·cases h
 rename_i ht
 split at h
 ·cases h
 rename_i hw
 refine ⟨by simpa using ha, by omega, fun e => ?_⟩
 simpa [e] using hw
theorem ShM.ln {N : Int} {m : List Cl} (h : ShM N m) (x : Pt) (u : Bool) : ShM (N + 1) (m8 m x u) := by
 unfold m8
 by_cases hk : qI m x u = 0
 ·rw [if_pos hk]
  have h0 := m7 hk
  have hx := dN h0
  have ht := EW h0
  have hc := (h.at hx.2.2)
  have h1 := hc.tch x u
  have hb := e7 m[x.cell.toNat]!.stk x.tag
  refine ShM.set (h.mono (by omega)) (Sh.mk ?_ ?_ ?_)
  ·have := h1.n; show (iO m[x.cell.toNat]! x u).next + 1 ≤ N + 1; omega
  ·have := h1.l; show (((iO m[x.cell.toNat]! x u).stk ++ [_]).length : Int) ≤ (iO m[x.cell.toNat]! x u).next + 1
   rw [List.length_append, List.length_singleton]; omega
  ·show ((iO m[x.cell.toNat]! x u).stk ++ [(⟨(iO m[x.cell.toNat]! x u).next, u⟩ : Tg)]).Pairwise Ut
   rw [List.pairwise_append]
   refine ⟨h1.p, by simp, fun a ha b hb' => ?_⟩
   rw [List.mem_singleton.1 hb']
   intro hu
   dsimp only at hu
   subst hu
   have hw := ht.2.2 rfl
   have hkk : (cP m[x.cell.toNat]!.stk x.tag).toNat < m[x.cell.toNat]!.stk.length := by omega
   have ha' : a ∈ eQ m[x.cell.toNat]!.stk (cP m[x.cell.toNat]!.stk x.tag).toNat true := ha
   rcases vL hkk ha' (fun q => by cases q) with e | e
   ·rw [e]; exact hw
   ·exact hc.two e hw
 ·rw [if_neg hk]; exact h.mono (by omega)
end Go.AL
namespace Go.AL
theorem o5 {m : List Cl} {x : Pt} {wr : Bool} (hk : cR m x wr = 0) (c : Nat) : (fL m x wr)[c]! = if x.cell.toNat = c then iO m[c]! x wr else m[c]! := by
 have h := dN hk
 unfold fL
 rw [if_pos hk, c8]
 by_cases q : x.cell.toNat = c
 ·rw [if_pos ⟨q, by omega⟩, if_pos q, q]
 ·rw [if_neg (fun h => q h.1), if_neg q]
theorem Jf {m : List Cl} {x : Pt} (hk : cR m x true = 0) (c : Nat) (hc : x.cell.toNat ≠ c) : (jB m x)[c]! = m[c]! := by
 unfold jB
 rw [if_pos hk, c8, if_neg (fun h => hc h.1)]
theorem Ci {m : List Cl} {x : Pt} {u : Bool} (hk : qI m x u = 0) (c : Nat) : (m8 m x u)[c]! = if x.cell.toNat = c then psh (iO m[c]! x u) u else m[c]! := by
 have h := dN (m7 hk)
 unfold m8
 rw [if_pos hk, c8]
 by_cases q : x.cell.toNat = c
 ·rw [if_pos ⟨q, by omega⟩, if_pos q, q]
 ·rw [if_neg (fun h => q h.1), if_neg q]
theorem FX {m : List Cl} {x : Pt} {v : Int} (hk : qP m x v = 0) : cR m x true = 0 := by
 unfold qP at hk
 split at hk
 ·exact hk
 ·cases hk
theorem GF {m : List Cl} {x : Pt} {v : Int} (hk : qP m x v = 0) (c : Nat) : (oZ m x v)[c]!.alive = (fL m x true)[c]!.alive ∧ (oZ m x v)[c]!.stk = (fL m x true)[c]!.stk := by
 have h0 := FX hk
 have h := dN h0
 rw [o5 h0]
 unfold oZ
 rw [if_pos hk, c8]
 by_cases q : x.cell.toNat = c
 ·rw [if_pos ⟨q, by omega⟩, if_pos q, q]; exact ⟨rfl, rfl⟩
 ·rw [if_neg (fun h => q h.1), if_neg q]; exact ⟨rfl, rfl⟩
def iA (ts : List Int) (sl : List Sl) (v : Nat) : Tg := ⟨sl[v]!.ptr.tag, !decide (ts[v]! = 3)⟩
def gE (sl : List Sl) (v : Nat) : Nat := sl[v]!.ptr.cell.toNat
structure RfI (ts : List Int) (P : Nat → Prop) (G : Nat → Nat → Prop) (sl : List Sl) (m : List Cl) : Prop where
 l : ∀ v, v < ts.length → 3 ≤ ts[v]! → sl[v]!.set = true → P v → m[gE sl v]!.alive = true ∧ iA ts sl v ∈ m[gE sl v]!.stk
 c : ∀ v w, v < ts.length → w < ts.length → 3 ≤ ts[v]! → (ts[w]! = 2 ∨ ts[w]! = 4) → sl[v]!.set = true → sl[w]!.set = true → P v → gE sl v = gE sl w → [iA ts sl w, iA ts sl v].Sublist m[gE sl v]!.stk → G v w
section
variable {ts : List Int} {P P' : Nat → Prop} {G : Nat → Nat → Prop} {sl : List Sl} {m m' : List Cl} {N : Int}
theorem RfI.mono (R : RfI ts P G sl m) (h : ∀ v, P' v → P v) : RfI ts P' G sl m :=
 ⟨fun v h1 h2 h3 h4 => R.l v h1 h2 h3 (h v h4), fun v w h1 h2 h3 h4 h5 h6 h7 => R.c v w h1 h2 h3 h4 h5 h6 (h v h7)⟩
theorem RfI.cong (R : RfI ts P G sl m) (h : ∀ c : Nat, m'[c]!.alive = m[c]!.alive ∧ m'[c]!.stk = m[c]!.stk) : RfI ts P G sl m' := by
 refine ⟨fun v h1 h2 h3 h4 => ?_, fun v w h1 h2 h3 h4 h5 h6 h7 h8 h9 => ?_⟩
 ·rw [(h _).1, (h _).2]; exact R.l v h1 h2 h3 h4
 ·rw [(h _).2] at h9; exact R.c v w h1 h2 h3 h4 h5 h6 h7 h8 h9
theorem RfI.tch (hT : ∀ v, v < ts.length → ts[v]! ≤ 4) (hm : OkM m) (hs : ShM N m) (R : RfI ts P G sl m) (hP : ∀ v, P' v → P v) {u : Nat} {wr : Bool} (hu : u < ts.length) (h2 : 2 ≤ ts[u]!) (hset : sl[u]!.set = true)
  (hk : cR m sl[u]!.ptr wr = 0) (hin : iA ts sl u ∈ m[gE sl u]!.stk) (hwr : wr = true → ts[u]! ≠ 3) (hc : ∀ v, P' v → G v u → ¬ (wr = true ∨ ts[v]! = 4)) : RfI ts P' G sl (fL m sl[u]!.ptr wr) := by
 have hx := dN hk
 have hcc := hm.at hx.2.2
 obtain ⟨t1, t2, t3⟩ := tN hcc.d hin
 refine ⟨fun v h1 h2' h3 h4 => ?_, fun v w h1 h2' h3 h4 h5 h6 h7 h8 h9 => ?_⟩
 ·obtain ⟨a1, a2⟩ := R.l v h1 h2' h3 (hP v h4)
  rw [o5 hk]
  by_cases q : sl[u]!.ptr.cell.toNat = gE sl v
  ·rw [if_pos q]
   refine ⟨a1, ?_⟩
   rw [← q] at a2 ⊢
   apply Classical.byContradiction; intro hn
   have hn' : iA ts sl v ∉ eQ m[sl[u]!.ptr.cell.toNat]!.stk (cP m[sl[u]!.ptr.cell.toNat]!.stk (iA ts sl u).id).toNat wr := hn
   obtain ⟨g1, g2⟩ := DW t2 a2 hn'
   have t3' : m[sl[u]!.ptr.cell.toNat]!.stk[(cP m[sl[u]!.ptr.cell.toNat]!.stk (iA ts sl u).id).toNat]! = iA ts sl u := t3
   rw [t3'] at g1
   by_cases q3 : ts[u]! = 3
   ·have hwf : wr = false := by cases wr with | false => rfl | true => exact absurd q3 (hwr rfl)
    have := (hs.at hx.2.2).two g1 (g2 hwf)
    simp [iA, q3] at this
   ·have hb := hT u hu
    have hg := R.c v u h1 hu h2' (by omega) h3 hset (hP v h4) q.symm (by rw [← q]; exact g1)
    refine hc v h4 hg ?_
    cases hw : wr with
    | true => exact .inl rfl
    | false =>
     have h5 := g2 hw
     have hb' := hT v h1
     have : ts[v]! ≠ 3 := by simpa [iA] using h5
     exact .inr (by omega)
  ·rw [if_neg q]; exact ⟨a1, a2⟩
 ·refine R.c v w h1 h2' h3 h4 h5 h6 (hP v h7) h8 (h9.trans ?_)
  rw [o5 hk]
  split
  ·exact tchS_sub
  ·exact List.Sublist.refl _
theorem RfI.fr (hd : Hd m) (R : RfI ts P G sl m) (hP : ∀ v, P' v → P v) (hf : ∀ v, v < ts.length → 3 ≤ ts[v]! → sl[v]!.set = true → 1 ≤ sl[v]!.ptr.tag) {u : Nat} (hu : u < ts.length) (h2 : ts[u]! = 2) (hset : sl[u]!.set = true)
  (hk : cR m sl[u]!.ptr true = 0) (h0 : sl[u]!.ptr.tag = 0) (hc : ∀ v, P' v → ¬ G v u) : RfI ts P' G sl (jB m sl[u]!.ptr) := by
 have hx := dN hk
 have e0 := hd _ hx.2.2
 have eu : iA ts sl u = ⟨0, true⟩ := by unfold iA; rw [h0, h2]; rfl
 have key : ∀ v, v < ts.length → 3 ≤ ts[v]! → sl[v]!.set = true → P' v → sl[u]!.ptr.cell.toNat ≠ gE sl v := fun v h1 h2' h3 h4 q => by
  obtain ⟨a1, a2⟩ := R.l v h1 h2' h3 (hP v h4)
  have hne : iA ts sl v ≠ m[gE sl v]!.stk[0]! := by
   rw [← q, e0]; intro e
   have e1 : (iA ts sl v).id = 0 := by rw [e]
   have e2 : sl[v]!.ptr.tag = 0 := e1
   have e3 := hf v h1 h2' h3
   omega
  have hs := Hm a2 hne
  refine hc v h4 (R.c v u h1 hu h2' (.inl h2) h3 hset (hP v h4) q.symm ?_)
  rw [eu, ← e0, show sl[u]!.ptr.cell.toNat = gE sl v from q]; exact hs
 refine ⟨fun v h1 h2' h3 h4 => ?_, fun v w h1 h2' h3 h4 h5 h6 h7 h8 h9 => ?_⟩
 ·rw [Jf hk _ (key v h1 h2' h3 h4)]; exact R.l v h1 h2' h3 (hP v h4)
 ·rw [Jf hk _ (key v h1 h3 h5 h7)] at h9; exact R.c v w h1 h2' h3 h4 h5 h6 (hP v h7) h8 h9
theorem RfI.ln {x : Pt} {b : Bool} (hk : qI m x b = 0) (R : RfI ts P G sl (fL m x b)) (hf : ∀ v, v < ts.length → 3 ≤ ts[v]! → sl[v]!.set = true → sl[v]!.ptr.tag < m[gE sl v]!.next) : RfI ts P G sl (m8 m x b) := by
 have h0 := m7 hk
 refine ⟨fun v h1 h2 h3 h4 => ?_, fun v w h1 h2 h3 h4 h5 h6 h7 h8 h9 => ?_⟩
 ·have hr := R.l v h1 h2 h3 h4
  rw [o5 h0] at hr
  rw [Ci hk]
  split
  ·rename_i q
   rw [if_pos q] at hr
   exact ⟨hr.1, List.mem_append_left _ hr.2⟩
  ·rename_i q
   rw [if_neg q] at hr; exact hr
 ·refine R.c v w h1 h2 h3 h4 h5 h6 h7 h8 ?_
  rw [Ci hk] at h9
  rw [o5 h0]
  split at h9
  ·rename_i q
   rw [if_pos q]
   have h9' : [iA ts sl w, iA ts sl v].Sublist ((iO m[gE sl v]! x b).stk ++ [⟨m[gE sl v]!.next, b⟩]) := h9
   rcases yL h9' with e | ⟨e, _⟩
   ·exact e
   ·exfalso
    have e1 : (iA ts sl v).id = m[gE sl v]!.next := by rw [e]
    have e2 : sl[v]!.ptr.tag = m[gE sl v]!.next := e1
    have := hf v h1 h3 h5
    omega
  ·rename_i q
   rw [if_neg q]; exact h9
theorem RfI.nw (R : RfI ts P G sl m) (hf : ∀ v, v < ts.length → 3 ≤ ts[v]! → sl[v]!.set = true → gE sl v < m.length) (z : Cl) : RfI ts P G sl (m ++ [z]) := by
 refine ⟨fun v h1 h2 h3 h4 => ?_, fun v w h1 h2 h3 h4 h5 h6 h7 h8 h9 => ?_⟩
 ·rw [mB (hf v h1 h2 h3)]; exact R.l v h1 h2 h3 h4
 ·rw [mB (hf v h1 h3 h5)] at h9; exact R.c v w h1 h2 h3 h4 h5 h6 h7 h8 h9
end
def Ac (ts : List Int) (pts : List Pnt) (a w : Nat) (wr : Bool) : Prop :=
 ((pts[a]!.op = 4 ∨ pts[a]!.op = 6) ∧ pts[a]!.y = (w : Int) ∧ wr = false) ∨ (pts[a]!.op = 5 ∧ pts[a]!.y = (w : Int) ∧ wr = true) ∨ ((pts[a]!.op = 7 ∨ pts[a]!.op = 8) ∧ pts[a]!.x = (w : Int) ∧ wr = true) ∨
 (pts[a]!.op = 3 ∧ Cq ts[w]! = true ∧ pts[a]!.y = (w : Int) ∧ wr = true) ∨ (bD pts[a]! = (w : Int) ∧ ts[w]! = 2 ∧ Mb ts pts (a, w) ∧ wr = true)
def Ln (ts : List Int) (pts : List Pnt) (a v w : Nat) : Prop := ∃ L, Ja ts pts (a, v, L) ∧ JQ ts pts (a, L) ∧ pts[L]!.y = (w : Int) ∧ (ts[v]! = 4 → pts[L]!.op = 5)
def Kp (ts : List Int) (pts : List Pnt) (a v : Nat) : Prop := Lv ts pts a v ∧ bD pts[a]! ≠ (v : Int) ∧ bO ts pts[a]! v ≠ 2
def Cf (ts : List Int) (pts : List Pnt) (a L : Nat) : Prop := ∃ v w wr, Kp ts pts a v ∧ Ac ts pts a w wr ∧ Ja ts pts (a, v, L) ∧ JQ ts pts (a, L) ∧ pts[L]!.y = (w : Int) ∧ (wr = true ∨ pts[L]!.op = 5)
structure Bs (ts : List Int) (N : Int) (s : Mc) : Prop where
 w : Own ts s none
 i : ∀ v, v < ts.length → ts[v]! = 1 → 0 ≤ s.slots[v]!.num ∧ s.slots[v]!.num ≤ 9
 sm : ShM N s.cells
 f : ∀ v, v < ts.length → 3 ≤ ts[v]! → s.slots[v]!.set = true → 0 ≤ s.slots[v]!.ptr.cell ∧ s.slots[v]!.ptr.cell < s.cells.length ∧ 1 ≤ s.slots[v]!.ptr.tag ∧ s.slots[v]!.ptr.tag < s.cells[gE s.slots v]!.next
 d : ∀ v u, v < ts.length → u < ts.length → ts[v]! = 4 → ts[u]! = 4 → s.slots[v]!.set = true → s.slots[u]!.set = true → gE s.slots v = gE s.slots u → s.slots[v]!.ptr.tag = s.slots[u]!.ptr.tag → v = u
section
variable {ts : List Int} {pts : List Pnt} {N : Int} {a : Nat} {s : Mc}
theorem Kp.nd (w : WG ts pts) {v : Nat} (h : Kp ts pts a v) : Nd ts pts (a, v) := by
 obtain ⟨k, e, hk⟩ := h.1
 exact .step hk ⟨rfl, e, h.2.1⟩
theorem o4 (hC : ∀ L, ¬ Cf ts pts a L) {u : Nat} {wr : Bool} (hA : Ac ts pts a u wr) : ∀ v, Kp ts pts a v → Ln ts pts a v u → ¬ (wr = true ∨ ts[v]! = 4) := by
 rintro v hv ⟨L, h1, h2, h3, h4⟩ h
 exact hC L ⟨v, u, wr, hv, hA, h1, h2, h3, h.elim .inl (fun q => .inr (h4 q))⟩
theorem RfI.use (w : WG ts pts) (B : Bs ts N s) (R : RfI ts (fun v => Nd ts pts (a, v)) (Ln ts pts a) s.slots s.cells) (ha : a < pts.length) (hu : cX ts s pts[a]! = false) {u : Nat} (hul : u < ts.length) (h2 : 2 ≤ ts[u]!) (huse : bO ts pts[a]! u ≠ 0) :
  s.slots[u]!.set = true ∧ 0 ≤ s.slots[u]!.ptr.cell ∧ s.slots[u]!.ptr.cell < s.cells.length ∧ s.cells[gE s.slots u]!.alive = true ∧ iA ts s.slots u ∈ s.cells[gE s.slots u]!.stk := by
 have hset := eL hu hul huse
 by_cases q : ts[u]! = 2
 ·obtain ⟨b1, b2, b3, b4⟩ := B.w.o u hul q hset
  refine ⟨hset, b1, b2, b4, ?_⟩
  have hc : gE s.slots u < s.cells.length := by unfold gE; omega
  have h0 := B.w.h _ hc
  have hl := (B.w.k.m.at hc).l
  have e : iA ts s.slots u = s.cells[gE s.slots u]!.stk[0]! := by rw [h0]; unfold iA; rw [b3, q]; rfl
  rw [e]; exact bY _ _ (by omega)
 ·obtain ⟨f1, f2, _⟩ := B.f u hul (by omega) hset
  obtain ⟨l1, l2⟩ := R.l u hul (by omega) hset (.base ⟨ha, hul, huse⟩)
  exact ⟨hset, f1, f2, l1, l2⟩
theorem JD {m : List Cl} (hm : OkM m) {x : Pt} {b : Bool} {wr : Bool} (h1 : 0 ≤ x.cell ∧ x.cell < m.length) (h2 : m[x.cell.toNat]!.alive = true) (h3 : (⟨x.tag, b⟩ : Tg) ∈ m[x.cell.toNat]!.stk) (hw : wr = true → b = true) : cR m x wr = 0 := by
 have hc := hm.at (k := x.cell.toNat) (by omega)
 obtain ⟨t1, t2, t3⟩ := tN hc.d h3
 dsimp only at t1 t3
 unfold cR
 rw [if_neg (fun q => q h1), if_neg (by rw [h2]; decide), if_neg (by omega), if_neg]
 rintro ⟨e1, e2⟩
 rw [t3] at e2
 dsimp only at e2
 rw [hw e1] at e2; cases e2
theorem RfI.code (w : WG ts pts) (B : Bs ts N s) (R : RfI ts (fun v => Nd ts pts (a, v)) (Ln ts pts a) s.slots s.cells) (ha : a < pts.length) (hu : cX ts s pts[a]! = false) {u : Nat} (hul : u < ts.length) (h2 : 2 ≤ ts[u]!) (huse : bO ts pts[a]! u ≠ 0) {wr : Bool} (hw : wr = true → ts[u]! ≠ 3) : cR s.cells s.slots[u]!.ptr wr = 0 := by
 obtain ⟨h3, h4, h5, h6, h7⟩ := R.use w B ha hu hul h2 huse
 exact JD B.w.k.m ⟨h4, h5⟩ h6 h7 (fun e => by have := hw e; simpa using this)
end
end Go.AL
namespace Go.AL
section
variable {ts : List Int} {pts : List Pnt} {N : Int} {a k : Nat} {s : Mc}
theorem JX {m : List Cl} (h : OkM m) (c : Nat) : (m[c]!.stk.map (·.id)).Nodup := by
 by_cases q : c < m.length
 ·exact (h.at q).d
 ·rw [getElem!_neg m c q]; exact List.nodup_nil
theorem Ln.step (he : edge pts a k) {v w : Nat} (h : Ln ts pts a v w) (hv : bD pts[a]! ≠ (v : Int)) (hv2 : bO ts pts[a]! v ≠ 2) (hw : bD pts[a]! ≠ (w : Int)) (hw2 : bO ts pts[a]! w ≠ 2) : Ln ts pts k v w := by
 obtain ⟨L, h1, h2, h3, h4⟩ := h
 refine ⟨L, .step h1 ⟨rfl, he, .inl ⟨hv, rfl, hv2⟩⟩, .step h2 ⟨rfl, he, ?_, ?_⟩, h3, h4⟩
 ·rw [h3]; exact hw2
 ·rw [h3]; exact hw
theorem RfI.fin (he : edge pts a k) {sl sl' : List Sl} {m' : List Cl} {y : Sl} (hm : OkM m') (hs : ∀ v, v < ts.length → sl'[v]! = if bD pts[a]! = (v : Int) then y else if bO ts pts[a]! v = 2 then iT else sl[v]!)
  (R : RfI ts (Kp ts pts a) (Ln ts pts a) sl m')
  (hX : ∀ v : Nat, bD pts[a]! = (v : Int) → v < ts.length → 3 ≤ ts[v]! → m'[gE sl' v]!.alive = true ∧ iA ts sl' v ∈ m'[gE sl' v]!.stk)
  (hXw : ∀ v w : Nat, bD pts[a]! = (v : Int) → v < ts.length → w < ts.length → 3 ≤ ts[v]! → (ts[w]! = 2 ∨ ts[w]! = 4) → bD pts[a]! ≠ (w : Int) → bO ts pts[a]! w ≠ 2 → sl[w]!.set = true → sl'[w]! = sl[w]! → gE sl' v = gE sl' w → [iA ts sl' w, iA ts sl' v].Sublist m'[gE sl' v]!.stk → Ln ts pts k v w)
  (hvX : ∀ v w : Nat, bD pts[a]! = (w : Int) → v < ts.length → w < ts.length → 3 ≤ ts[v]! → (ts[w]! = 2 ∨ ts[w]! = 4) → Kp ts pts a v → sl[v]!.set = true → sl'[v]! = sl[v]! → gE sl' v = gE sl' w → ¬ [iA ts sl' w, iA ts sl' v].Sublist m'[gE sl' v]!.stk) :
  RfI ts (fun v => Nd ts pts (k, v)) (Ln ts pts k) sl' m' := by
 have old : ∀ v, v < ts.length → sl'[v]!.set = true → bD pts[a]! ≠ (v : Int) → bO ts pts[a]! v ≠ 2 ∧ sl'[v]! = sl[v]! := fun v hv h1 h2 => by
  have e := hs v hv
  rw [if_neg h2] at e
  by_cases q : bO ts pts[a]! v = 2
  ·rw [if_pos q] at e; rw [e] at h1; cases h1
  ·rw [if_neg q] at e; exact ⟨q, e⟩
 refine ⟨fun v h1 h2 h3 h4 => ?_, fun v w h1 h2 h3 h4 h5 h6 h7 h8 h9 => ?_⟩
 ·by_cases q : bD pts[a]! = (v : Int)
  ·exact hX v q h1 h2
  ·obtain ⟨q2, e⟩ := old v h1 h3 q
   have := R.l v h1 h2 (by rw [← e]; exact h3) ⟨⟨k, he, h4⟩, q, q2⟩
   unfold gE iA at this ⊢
   rw [e]; exact this
 ·by_cases q : bD pts[a]! = (v : Int)
  ·by_cases q' : bD pts[a]! = (w : Int)
   ·exfalso
    have e : v = w := by omega
    subst e
    exact J9 (JX hm _) h9 rfl
   ·obtain ⟨q2, e⟩ := old w h2 h6 q'
    exact hXw v w q h1 h2 h3 h4 q' q2 (by rw [← e]; exact h6) e h8 h9
  ·obtain ⟨q2, e⟩ := old v h1 h5 q
   have hk : Kp ts pts a v := ⟨⟨k, he, h7⟩, q, q2⟩
   by_cases q' : bD pts[a]! = (w : Int)
   ·exact absurd h9 (hvX v w q' h1 h2 h3 h4 hk (by rw [← e]; exact h5) e h8)
   ·obtain ⟨q3, e'⟩ := old w h2 h6 q'
    refine Ln.step he (R.c v w h1 h2 h3 h4 (by rw [← e]; exact h5) (by rw [← e']; exact h6) hk ?_ ?_) q q2 q' q3
    ·unfold gE at h8 ⊢; rw [e, e'] at h8; exact h8
    ·unfold gE iA at h9 ⊢; rw [e, e'] at h9; exact h9
theorem RfI.fin1 (he : edge pts a k) {sl sl' : List Sl} {m' : List Cl} {y : Sl} (hm : OkM m') (hs : ∀ v, v < ts.length → sl'[v]! = if bD pts[a]! = (v : Int) then y else if bO ts pts[a]! v = 2 then iT else sl[v]!)
  (R : RfI ts (Kp ts pts a) (Ln ts pts a) sl m') (h1 : ∀ v : Nat, bD pts[a]! = (v : Int) → v < ts.length → ts[v]! = 1) : RfI ts (fun v => Nd ts pts (k, v)) (Ln ts pts k) sl' m' :=
 RfI.fin he hm hs R (fun v e hv h3 => by have := h1 v e hv; omega) (fun v w e hv _ h3 => by have := h1 v e hv; omega) (fun v w e _ hw _ h3 => by have := h1 w e hw; omega)
theorem nS (ts : List Int) (s : Mc) (v : Nat) (x : Sl) : (dM ts s v x).1.cells = if ts[v]! = 2 ∧ s.slots[v]!.set = true then jB s.cells s.slots[v]!.ptr else s.cells := by
 unfold dM; split <;> rfl
theorem RfI.put (V : Vs ts pts a s) (B : Bs ts N s) {m : List Cl} (hm : OkM m) (hd : Hd m) (R : RfI ts (Kp ts pts a) (Ln ts pts a) s.slots m) (hl : s.cells.length ≤ m.length) (hal : ∀ c, c < s.cells.length → m[c]!.alive = s.cells[c]!.alive) (hC : ∀ L, ¬ Cf ts pts a L) {X : Nat} (hX : X < ts.length) (hset : bD pts[a]! = (X : Int)) :
  RfI ts (Kp ts pts a) (Ln ts pts a) s.slots (if ts[X]! = 2 ∧ s.slots[X]!.set = true then jB m s.slots[X]!.ptr else m) := by
 split
 ·rename_i q
  obtain ⟨b1, b2, b3, b4⟩ := B.w.o X hX q.1 q.2
  refine R.fr hd (fun _ h => h) (fun v h1 h2 h3 => (B.f v h1 h2 h3).2.2.1) hX q.1 q.2 (Gn hm hd ⟨b1, by omega⟩ b3 ?_ true) b3 fun v hv hg => ?_
  ·rw [hal _ (by omega)]; exact b4
  ·exact o4 hC (.inr (.inr (.inr (.inr ⟨hset, q.1, V.m X hX q.2, rfl⟩)))) v hv hg (.inl rfl)
 ·exact R
end
end Go.AL
namespace Go.AL
section
variable {ts : List Int} {pts : List Pnt} {N : Int} {a k : Nat} {s : Mc}
theorem k6 {x : Pnt} (h : 1 ≤ x.op ∧ x.op ≤ 6) : bD x = x.x := by unfold bD; rw [if_pos h]
theorem B3 {x : Pnt} (h : 7 ≤ x.op) : bD x = -1 := by unfold bD; rw [if_neg (by omega)]
theorem Lb {c : Int} (h : lL c = -1) : c = 0 := by
 apply Classical.byContradiction; intro q
 unfold lL at h; rw [if_neg q] at h
 rcases lA c with e | e <;> (rw [e] at h; cases h)
theorem mY {c : Int} (h : iX c = -1) : False := by rcases lA c with e | e <;> (rw [e] at h; cases h)
theorem jE {x : Pnt} (h : x.op = 4 ∨ x.op = 5 ∨ x.op = 6) {v : Nat} (hv : (v : Int) = x.y) : bO ts x v ≠ 0 := by
 unfold bO; rw [if_neg (by omega), if_pos h, if_pos hv]; decide
theorem Ao {x : Pnt} (h : x.op = 3) {v : Nat} (hv : (v : Int) = x.y) : bO ts x v ≠ 0 := by
 unfold bO; rw [if_pos h, if_pos hv]; split <;> decide
theorem JS {x : Pnt} (h : x.op = 3) {v : Nat} (hv : (v : Int) = x.y) (ht : ts[v]! = 2 ∨ ts[v]! = 4) : bO ts x v = 2 := by
 unfold bO; rw [if_pos h, if_pos hv]
 have e : (v : Int).toNat = v := by omega
 rw [e, if_pos ht]
theorem AB {x : Pnt} (h : x.op = 7) {v : Nat} (hv : (v : Int) = x.x) : bO ts x v ≠ 0 := by
 unfold bO; rw [if_neg (by omega), if_neg (by omega), if_pos h, if_pos hv]; decide
theorem Jl {x : Pnt} (h : x.op = 8) {v : Nat} (hv : (v : Int) = x.x) : bO ts x v ≠ 0 := by
 unfold bO; rw [if_neg (by omega), if_neg (by omega), if_neg (by omega), if_pos h, if_pos hv]; decide
theorem RfI.loan (w : WG ts pts) (A : WA ts pts) (he : edge pts a k) (B : Bs ts N s) (R : RfI ts (fun v => Nd ts pts (a, v)) (Ln ts pts a) s.slots s.cells) (hC : ∀ L, ¬ Cf ts pts a L) (hu : cX ts s pts[a]! = false)
  {wr : Bool} (h4 : pts[a]!.op = 4 ∧ wr = false ∨ pts[a]!.op = 5 ∧ wr = true) {sl' : List Sl} {y : Sl} (hs : ∀ v, v < ts.length → sl'[v]! = if bD pts[a]! = (v : Int) then y else if bO ts pts[a]! v = 2 then iT else s.slots[v]!)
  (hk : qI s.cells s.slots[pts[a]!.y.toNat]!.ptr wr = 0) (hy : y.ptr = zW s.cells s.slots[pts[a]!.y.toNat]!.ptr wr) :
  RfI ts (fun v => Nd ts pts (k, v)) (Ln ts pts k) sl' (m8 s.cells s.slots[pts[a]!.y.toNat]!.ptr wr) := by
 have ha := he.1
 have hT : ∀ v, v < ts.length → ts[v]! ≤ 4 := fun v hv => (w.ty v hv).2
 have PA := A.a a ha
 have hx := w.x a ha
 have hyb := w.y a ha
 have hyl : pts[a]!.y.toNat < ts.length := by have := hyb.2 (by omega) (by omega); omega
 have hyn : ((pts[a]!.y.toNat : Nat) : Int) = pts[a]!.y := by omega
 have hxn : ((pts[a]!.x.toNat : Nat) : Int) = pts[a]!.x := by omega
 have hst := k6 (x := pts[a]!) (by omega)
 have hty : 2 ≤ ts[pts[a]!.y.toNat]! := by
  rcases h4 with ⟨h, _⟩ | ⟨h, _⟩
  ·exact (PA.t4 h).2.2
  ·have := (PA.t5 h).2.2; omega
 have hne : pts[a]!.x ≠ pts[a]!.y := by
  rcases h4 with ⟨h, _⟩ | ⟨h, _⟩
  ·exact (PA.t4 h).2.1
  ·exact (PA.t5 h).2.1
 have huse : bO ts pts[a]! (pts[a]!.y.toNat : Nat) ≠ 0 := jE (by omega) hyn
 obtain ⟨q1, q2, q3, q4, q5⟩ := R.use w B ha hu hyl hty huse
 have hwr : wr = true → ts[pts[a]!.y.toNat]! ≠ 3 := fun e => by
  rcases h4 with ⟨_, h⟩ | ⟨h, _⟩
  ·rw [e] at h; cases h
  ·have := (PA.t5 h).2.2; omega
 have hAc : Ac ts pts a pts[a]!.y.toNat wr := by
  rcases h4 with ⟨h, e⟩ | ⟨h, e⟩
  ·exact .inl ⟨.inl h, hyn.symm, e⟩
  ·exact .inr (.inl ⟨h, hyn.symm, e⟩)
 have htx : ∀ v : Nat, bD pts[a]! = (v : Int) → ts[v]! = 3 ∧ wr = false ∨ ts[v]! = 4 ∧ wr = true ∧ pts[a]!.op = 5 := fun v e => by
  have e' : pts[a]!.x.toNat = v := by rw [← hst, e]; omega
  rcases h4 with ⟨h, e2⟩ | ⟨h, e2⟩
  ·have := (PA.t4 h).1; rw [e'] at this; exact .inl ⟨this, e2⟩
  ·have := (PA.t5 h).1; rw [e'] at this; exact .inr ⟨this, e2, h⟩
 have hnt : ∀ v : Nat, bO ts pts[a]! v ≠ 2 := fun v => by
  unfold bO; rw [if_neg (by omega), if_pos (by omega)]; split <;> decide
 generalize hY : pts[a]!.y.toNat = Y at *
 have h0 := m7 hk
 have hx0 := dN h0
 have hcY := B.w.k.m.at hx0.2.2
 obtain ⟨t1, t2, t3⟩ := tN hcY.d q5
 have R1 := R.tch hT B.w.k.m B.sm (fun v (h : Kp ts pts a v) => h.nd w) hyl hty q1 h0 q5 hwr (o4 hC hAc)
 have R2 := R1.ln hk (fun v h1 h2 h3 => (B.f v h1 h2 h3).2.2.2)
 have hyp : y.ptr = ⟨s.slots[Y]!.ptr.cell, s.cells[s.slots[Y]!.ptr.cell.toNat]!.next⟩ := by rw [hy]; unfold zW; rw [if_pos hk]
 have new : ∀ v : Nat, bD pts[a]! = (v : Int) → v < ts.length → gE sl' v = s.slots[Y]!.ptr.cell.toNat ∧ iA ts sl' v = ⟨s.cells[s.slots[Y]!.ptr.cell.toNat]!.next, wr⟩ := fun v e hv => by
  have e1 := hs v hv
  rw [if_pos e] at e1
  unfold gE iA
  rw [e1, hyp]
  refine ⟨rfl, ?_⟩
  rcases htx v e with ⟨h, e2⟩ | ⟨h, e2, _⟩ <;> (rw [h, e2]; rfl)
 have frs : ∀ t ∈ (iO s.cells[s.slots[Y]!.ptr.cell.toNat]! s.slots[Y]!.ptr wr).stk, t.id < s.cells[s.slots[Y]!.ptr.cell.toNat]!.next := fun t ht => (hcY.i t (tchS_sub.subset ht)).2
 have hat := Ci hk s.slots[Y]!.ptr.cell.toNat
 rw [if_pos rfl] at hat
 refine RfI.fin he (B.w.k.m.ln _ _) hs R2 (fun v e hv h3 => ?_) (fun v u e hv hul h3 hut hu1 hu2 hu3 hu4 hce hsub => ?_) (fun v u e hv hul h3 hut hkp hv3 hv4 hce hsub => ?_)
 ·obtain ⟨n1, n2⟩ := new v e hv
  rw [n1, n2, hat]
  exact ⟨q4, List.mem_append_right _ (List.mem_singleton_self _)⟩
 ·obtain ⟨n1, n2⟩ := new v e hv
  rw [n1, n2, hat] at hsub
  have hceu : gE s.slots u = s.slots[Y]!.ptr.cell.toNat := by rw [← n1, hce]; unfold gE; rw [hu4]
  have htu : iA ts sl' u = iA ts s.slots u := by unfold iA; rw [hu4]
  rw [htu] at hsub
  have hsub' : [iA ts s.slots u, ⟨s.cells[s.slots[Y]!.ptr.cell.toNat]!.next, wr⟩].Sublist ((iO s.cells[s.slots[Y]!.ptr.cell.toNat]! s.slots[Y]!.ptr wr).stk ++ [⟨s.cells[s.slots[Y]!.ptr.cell.toNat]!.next, wr⟩]) := hsub
  rcases yL hsub' with e2 | ⟨_, hin⟩
  ·have := frs _ (C9 e2).2
   dsimp only at this; omega
  ·have huq : (iA ts s.slots u).uq = true := by
    unfold iA; dsimp only
    rcases hut with h | h <;> (rw [h]; rfl)
   have t3' : s.cells[s.slots[Y]!.ptr.cell.toNat]!.stk[(cP s.cells[s.slots[Y]!.ptr.cell.toNat]!.stk s.slots[Y]!.ptr.tag).toNat]! = iA ts s.slots Y := t3
   rcases vL t2 hin (fun _ => huq) with e2 | e2
   ·rw [t3] at e2
    have eid : s.slots[u]!.ptr.tag = s.slots[Y]!.ptr.tag := by
     have : (iA ts s.slots u).id = (iA ts s.slots Y).id := by rw [e2]
     exact this
    have hY3 : ts[Y]! ≠ 3 := fun q => by
     rw [e2] at huq
     unfold iA at huq; dsimp only at huq; rw [q] at huq; cases huq
    have hTY := hT Y hyl
    have euY : u = Y := by
     by_cases qY : ts[Y]! = 2
     ·obtain ⟨b1, b2, b3, b4⟩ := B.w.o Y hyl qY q1
      rcases hut with hut | hut
      ·obtain ⟨c1, c2, c3, c4⟩ := B.w.o u hul hut hu3
       exact B.w.d u Y hul hyl hut qY hu3 q1 (by unfold gE at hceu; omega)
      ·have := (B.f u hul (by omega) hu3).2.2.1; omega
     ·have hY4 : ts[Y]! = 4 := by omega
      rcases hut with hut | hut
      ·obtain ⟨c1, c2, c3, c4⟩ := B.w.o u hul hut hu3
       have := (B.f Y hyl (by omega) q1).2.2.1; omega
      ·exact B.d u Y hul hyl hut hY4 hu3 q1 hceu eid
    subst euY
    have hln : eD pts[a]! = true := by unfold eD; rcases h4 with ⟨h, _⟩ | ⟨h, _⟩ <;> (rw [h]; rfl)
    refine ⟨a, .base ⟨he, hln, e⟩, .base ⟨he, hln⟩, hyn.symm, fun h => ?_⟩
    rcases htx v e with ⟨h5, _⟩ | ⟨_, _, h5⟩
    ·omega
    ·exact h5
   ·rw [t3] at e2
    have hY2 : ts[Y]! ≠ 2 := fun q => by
     obtain ⟨b1, b2, b3, b4⟩ := B.w.o Y hyl q q1
     have e0 := B.w.h _ hx0.2.2
     refine II hcY.d (by have := hcY.l; omega) e2 ?_
     rw [e0]; unfold iA; rw [b3, q]; rfl
    obtain ⟨L, l1, l2, l3, l4⟩ := R.c Y u hyl hul (by omega) hut q1 hu3 (.base ⟨ha, hyl, huse⟩) hceu.symm e2
    have hTY := hT Y hyl
    refine ⟨L, .step l1 ⟨rfl, he, .inr ⟨e, hyn, .inl ⟨?_, ?_⟩⟩⟩, .step l2 ⟨rfl, he, ?_, ?_⟩, l3, fun h => ?_⟩
    ·unfold eD; rcases h4 with ⟨h, _⟩ | ⟨h, _⟩ <;> (rw [h]; rfl)
    ·show m6 ts[Y]! = true
     unfold m6; rw [Bool.or_eq_true, decide_eq_true_eq, decide_eq_true_eq]; omega
    ·rw [l3]; exact hu2
    ·rw [l3]; exact hu1
    ·refine l4 ?_
     rcases htx v e with ⟨h5, _⟩ | ⟨_, h5, _⟩
     ·omega
     ·have := hwr h5; omega
 ·obtain ⟨n1, n2⟩ := new u e hul
  rw [hce, n1, n2, hat] at hsub
  have hsub' : [⟨s.cells[s.slots[Y]!.ptr.cell.toNat]!.next, wr⟩, iA ts sl' v].Sublist ((iO s.cells[s.slots[Y]!.ptr.cell.toNat]! s.slots[Y]!.ptr wr).stk ++ [⟨s.cells[s.slots[Y]!.ptr.cell.toNat]!.next, wr⟩]) := hsub
  rcases yL hsub' with e2 | ⟨_, hin⟩
  ·have := frs _ (C9 e2).1
   dsimp only at this; omega
  ·have := frs _ hin
   dsimp only at this; omega
end
end Go.AL
namespace Go.AL
section
variable {ts : List Int} {pts : List Pnt} {N : Int} {a k : Nat} {s : Mc}
def yF (s : Mc) (x : Pnt) : Sl :=
 if x.op = 1 then ⟨true, x.n, ⟨0, 0⟩⟩ else if x.op = 2 then ⟨true, 0, ⟨s.cells.length, 0⟩⟩ else if x.op = 3 then s.slots[x.y.toNat]!
 else if x.op = 4 ∨ x.op = 5 then ⟨true, 0, zW s.cells s.slots[x.y.toNat]!.ptr (decide (x.op = 5))⟩ else ⟨true, uK s.cells s.slots[x.y.toNat]!.ptr, ⟨0, 0⟩⟩
theorem WG.doY (w : WG ts pts) (A : WA ts pts) {a : Nat} (ha : a < pts.length) {s : Mc} (hl : s.slots.length = ts.length) (hu : cX ts s pts[a]! = false) (h11 : pts[a]!.op ≠ 11) (hgo : (cO ts s pts[a]!).2 = -1) :
  ∀ v, v < ts.length → (cO ts s pts[a]!).1.slots[v]! = if bD pts[a]! = (v : Int) then yF s pts[a]! else if bO ts pts[a]! v = 2 then iT else s.slots[v]! := by
 obtain ⟨y, hy, hs⟩ := w.doS A ha hl hu h11 hgo
 have hx := w.x a ha
 have hxb := hx.2
 intro v hv
 by_cases q : bD pts[a]! = (v : Int)
 ·rw [if_pos q]
  have hop : 1 ≤ pts[a]!.op ∧ pts[a]!.op ≤ 6 := by
   apply Classical.byContradiction; intro h
   unfold bD at q; rw [if_neg h] at q; omega
  rw [k6 hop] at q
  have hxv : pts[a]!.x.toNat = v := by omega
  have hh := hgo
  unfold cO at hh ⊢
  unfold yF
  by_cases h1 : pts[a]!.op = 1
  ·rw [if_pos h1, if_pos h1, e8, hxv, c8, if_pos ⟨rfl, by omega⟩]
  rw [if_neg h1] at hh ⊢
  rw [if_neg h1]
  by_cases h2 : pts[a]!.op = 2
  ·rw [if_pos h2] at hh ⊢
   rw [if_pos h2]
   split at hh
   ·cases hh
   ·rename_i h200
    rw [if_neg h200, e8, hxv, c8, if_pos ⟨rfl, by dsimp only; omega⟩]
  rw [if_neg h2] at hh ⊢
  rw [if_neg h2]
  by_cases h3 : pts[a]!.op = 3
  ·rw [if_pos h3, if_pos h3, e8, hxv, c8, if_pos]
   refine ⟨rfl, ?_⟩
   split
   ·dsimp only; rw [List.length_set]; omega
   ·omega
  rw [if_neg h3] at hh ⊢
  rw [if_neg h3]
  by_cases h4 : pts[a]!.op = 4 ∨ pts[a]!.op = 5
  ·rw [if_pos h4] at hh ⊢
   rw [if_pos h4]
   split at hh
   ·rename_i hz
    rw [if_pos hz, e8, hxv, c8, if_pos ⟨rfl, by dsimp only; omega⟩]
   ·exact (mY hh).elim
  rw [if_neg h4] at hh ⊢
  rw [if_neg h4]
  have h6 : pts[a]!.op = 6 := by omega
  rw [if_pos h6] at hh ⊢
  split at hh
  ·rename_i hz
   rw [if_pos hz, e8, hxv, c8, if_pos ⟨rfl, by dsimp only; omega⟩]
  ·exact (mY hh).elim
 ·rw [hs v hv, if_neg q, if_neg q]
theorem E2 {x : Pnt} (PA : PtA ts x) (h : x.op = 1) : (cO ts s x).1.cells = s.cells := by
 unfold cO; rw [if_pos h, nS, if_neg (fun q => by rw [PA.t1 h] at q; exact absurd q.1 (by decide))]
theorem EX {x : Pnt} (h : x.op = 2) (hgo : (cO ts s x).2 = -1) : (cO ts s x).1.cells = if ts[x.x.toNat]! = 2 ∧ s.slots[x.x.toNat]!.set = true then jB (s.cells ++ [oY x.n]) s.slots[x.x.toNat]!.ptr else s.cells ++ [oY x.n] := by
 unfold cO at hgo ⊢
 rw [if_neg (by omega), if_pos h] at hgo ⊢
 split at hgo
 ·cases hgo
 ·rename_i h200
  rw [if_neg h200, nS]
theorem EY {x : Pnt} (h : x.op = 3) (hne : x.x.toNat ≠ x.y.toNat) : (cO ts s x).1.cells = if ts[x.x.toNat]! = 2 ∧ s.slots[x.x.toNat]!.set = true then jB s.cells s.slots[x.x.toNat]!.ptr else s.cells := by
 unfold cO
 rw [if_neg (by omega), if_neg (by omega), if_pos h, nS]
 split
 ·have e : (s.slots.set x.y.toNat iT)[x.x.toNat]! = s.slots[x.x.toNat]! := by rw [c8, if_neg (fun q => hne q.1.symm)]
  dsimp only; rw [e]
 ·rfl
theorem pX {x : Pnt} (PA : PtA ts x) (h : x.op = 4 ∨ x.op = 5) (hgo : (cO ts s x).2 = -1) : qI s.cells s.slots[x.y.toNat]!.ptr (decide (x.op = 5)) = 0 ∧ (cO ts s x).1.cells = m8 s.cells s.slots[x.y.toNat]!.ptr (decide (x.op = 5)) := by
 have hxt : ts[x.x.toNat]! ≠ 2 := by
  rcases h with h4 | h4
  ·rw [(PA.t4 h4).1]; decide
  ·rw [(PA.t5 h4).1]; decide
 unfold cO at hgo ⊢
 rw [if_neg (by omega), if_neg (by omega), if_neg (by omega), if_pos h] at hgo ⊢
 split at hgo
 ·rename_i hz
  rw [if_pos hz, nS, if_neg (fun q => hxt q.1)]
  exact ⟨hz, rfl⟩
 ·exact (mY hgo).elim
theorem iQ {x : Pnt} (PA : PtA ts x) (h : x.op = 6) (hgo : (cO ts s x).2 = -1) : cR s.cells s.slots[x.y.toNat]!.ptr false = 0 ∧ (cO ts s x).1.cells = fL s.cells s.slots[x.y.toNat]!.ptr false := by
 have hxt : ts[x.x.toNat]! ≠ 2 := by rw [(PA.t6 h).1]; decide
 unfold cO at hgo ⊢
 rw [if_neg (by omega), if_neg (by omega), if_neg (by omega), if_neg (by omega), if_pos h] at hgo ⊢
 split at hgo
 ·rename_i hz
  rw [if_pos hz, nS, if_neg (fun q => hxt q.1)]
  exact ⟨hz, rfl⟩
 ·exact (mY hgo).elim
theorem m5 {x : Pnt} (h : x.op = 7) (hgo : (cO ts s x).2 = -1) : qP s.cells s.slots[x.x.toNat]!.ptr s.slots[x.y.toNat]!.num = 0 ∧ (cO ts s x).1.cells = oZ s.cells s.slots[x.x.toNat]!.ptr s.slots[x.y.toNat]!.num := by
 unfold cO at hgo ⊢
 rw [if_neg (by omega), if_neg (by omega), if_neg (by omega), if_neg (by omega), if_neg (by omega), if_pos h] at hgo ⊢
 exact ⟨Lb hgo, rfl⟩
theorem FV {x : Pnt} (h : x.op = 8) (hgo : (cO ts s x).2 = -1) : cR s.cells s.slots[x.x.toNat]!.ptr true = 0 ∧ (cO ts s x).1.cells = jB s.cells s.slots[x.x.toNat]!.ptr := by
 unfold cO at hgo ⊢
 rw [if_neg (by omega), if_neg (by omega), if_neg (by omega), if_neg (by omega), if_neg (by omega), if_neg (by omega), if_pos h] at hgo ⊢
 exact ⟨Lb hgo, rfl⟩
theorem uV {x : Pnt} (h : 9 ≤ x.op) (h11 : x.op ≠ 11) : cO ts s x = (s, -1) := by
 unfold cO
 rw [if_neg (by omega), if_neg (by omega), if_neg (by omega), if_neg (by omega), if_neg (by omega), if_neg (by omega), if_neg (by omega), if_neg h11]
theorem RfI.step (w : WG ts pts) (A : WA ts pts) (he : edge pts a k) (h11 : pts[a]!.op ≠ 11) (B : Bs ts N s) (V : Vs ts pts a s) (R : RfI ts (fun v => Nd ts pts (a, v)) (Ln ts pts a) s.slots s.cells) (hC : ∀ L, ¬ Cf ts pts a L) (hu : cX ts s pts[a]! = false) (hgo : (cO ts s pts[a]!).2 = -1) :
  RfI ts (fun v => Nd ts pts (k, v)) (Ln ts pts k) (cO ts s pts[a]!).1.slots (cO ts s pts[a]!).1.cells := by
 have ha := he.1
 have hT : ∀ v, v < ts.length → ts[v]! ≤ 4 := fun v hv => (w.ty v hv).2
 have PA := A.a a ha
 have hx := w.x a ha
 have hyb := w.y a ha
 have hop := w.op a ha
 have hs := w.doY A ha B.w.k.l hu h11 hgo
 have hmm : OkM (cO ts s pts[a]!).1.cells := (B.w.do PA h11 (fun h => ⟨hx.1, hx.2 h⟩) hop.1 (fun h1 h2 => ⟨hyb.1, hyb.2 h1 h2⟩) hu).k.m
 have hP : ∀ v, Kp ts pts a v → Nd ts pts (a, v) := fun v h => h.nd w
 have R0 : RfI ts (Kp ts pts a) (Ln ts pts a) s.slots s.cells := R.mono hP
 have hxn : ((pts[a]!.x.toNat : Nat) : Int) = pts[a]!.x := by omega
 have hyn : ((pts[a]!.y.toNat : Nat) : Int) = pts[a]!.y := by omega
 have hno : 7 ≤ pts[a]!.op → ∀ v : Nat, bD pts[a]! = (v : Int) → v < ts.length → ts[v]! = 1 := fun h v e => by rw [B3 h] at e; omega
 by_cases h1 : pts[a]!.op = 1
 ·rw [E2 PA h1] at hmm ⊢
  refine RfI.fin1 he hmm hs R0 fun v q hv => ?_
  rw [k6 (by omega)] at q
  rw [show v = pts[a]!.x.toNat by omega]; exact PA.t1 h1
 by_cases h2 : pts[a]!.op = 2
 ·have hxl : pts[a]!.x.toNat < ts.length := by have := hx.2 (by omega); omega
  have e2 := PA.t2 (.inl h2)
  have hset : bD pts[a]! = ((pts[a]!.x.toNat : Nat) : Int) := by rw [k6 (by omega)]; omega
  have hv2 : ∀ v : Nat, bD pts[a]! = (v : Int) → v = pts[a]!.x.toNat := fun v e => by omega
  have R1 := R0.nw (fun v q1 q2 q3 => by have := B.f v q1 q2 q3; unfold gE; omega) (oY pts[a]!.n)
  have h200 : s.cells.length ≠ 200 := fun q => by
   unfold cO at hgo; rw [if_neg h1, if_pos h2, if_pos q] at hgo; cases hgo
  have hm1 := B.w.k.m.nw (PA.n (.inr h2)) (by have := B.w.k.m.l; omega)
  have R2 := R1.put V B hm1 (B.w.h.nw _) (by rw [List.length_append]; omega) (fun c hc => by rw [mB hc]) hC hxl hset
  rw [EX h2 hgo] at hmm ⊢
  refine RfI.fin he hmm hs R2 (fun v e hv h3 => ?_) (fun v u e hv hul h3 => ?_) (fun v u e hv hul h3 hut hkp hv3 hv4 hce => ?_)
  ·rw [hv2 v e] at h3; omega
  ·rw [hv2 v e] at h3; omega
  ·exfalso
   have e1 := hs u hul
   rw [if_pos e] at e1
   have e3 : yF s pts[a]! = ⟨true, 0, ⟨s.cells.length, 0⟩⟩ := by unfold yF; rw [if_neg h1, if_pos h2]
   have := B.f v hv h3 hv3
   unfold gE at hce
   rw [hv4, e1, e3] at hce
   dsimp only at hce; omega
 by_cases h3 : pts[a]!.op = 3
 ·have hxl : pts[a]!.x.toNat < ts.length := by have := hx.2 (by omega); omega
  have hyl : pts[a]!.y.toNat < ts.length := by have := hyb.2 (by omega) (by omega); omega
  obtain ⟨et, hne⟩ := PA.t3 h3
  have hset : bD pts[a]! = ((pts[a]!.x.toNat : Nat) : Int) := by rw [k6 (by omega)]; omega
  have hv2 : ∀ v : Nat, bD pts[a]! = (v : Int) → v = pts[a]!.x.toNat := fun v e => by omega
  have huse : bO ts pts[a]! (pts[a]!.y.toNat : Nat) ≠ 0 := Ao h3 hyn
  have R2 := R0.put V B B.w.k.m B.w.h (Nat.le_refl _) (fun _ _ => rfl) hC hxl hset
  have ey : yF s pts[a]! = s.slots[pts[a]!.y.toNat]! := by unfold yF; rw [if_neg h1, if_neg h2, if_pos h3]
  have new : ∀ v : Nat, bD pts[a]! = (v : Int) → v < ts.length → gE (cO ts s pts[a]!).1.slots v = gE s.slots pts[a]!.y.toNat ∧ iA ts (cO ts s pts[a]!).1.slots v = iA ts s.slots pts[a]!.y.toNat := fun v e hv => by
   have e1 := hs v hv
   rw [if_pos e, ey] at e1
   unfold gE iA
   rw [e1, hv2 v e, et]
   exact ⟨rfl, rfl⟩
  have ec := EY (ts := ts) (s := s) h3 (fun q => hne (by omega))
  rw [ec] at hmm ⊢
  refine RfI.fin he hmm hs R2 (fun v e hv h4 => ?_) (fun v u e hv hul h4 hut hu1 hu2 hu3 hu4 hce hsub => ?_) (fun v u e hv hul h4 hut hkp hv3 hv4 hce hsub => ?_)
  ·obtain ⟨n1, n2⟩ := new v e hv
   rw [hv2 v e] at h4
   rw [n1, n2, if_neg (fun q => by omega)]
   obtain ⟨u1, u2, u3, u4, u5⟩ := R.use w B ha hu hyl (by omega) huse
   exact ⟨u4, u5⟩
  ·obtain ⟨n1, n2⟩ := new v e hv
   have h4' := h4
   rw [hv2 v e] at h4'
   obtain ⟨u1, u2, u3, u4, u5⟩ := R.use w B ha hu hyl (by omega) huse
   rw [if_neg (fun q => by omega), n1, n2] at hsub
   have htu : iA ts (cO ts s pts[a]!).1.slots u = iA ts s.slots u := by unfold iA; rw [hu4]
   have hcu : gE (cO ts s pts[a]!).1.slots u = gE s.slots u := by unfold gE; rw [hu4]
   rw [htu] at hsub
   obtain ⟨L, l1, l2, l3, l4⟩ := R.c pts[a]!.y.toNat u hyl hul (by omega) hut u1 hu3 (.base ⟨ha, hyl, huse⟩) (by rw [← n1, ← hcu]; exact hce) hsub
   refine ⟨L, .step l1 ⟨rfl, he, .inr ⟨e, hyn, .inr h3⟩⟩, .step l2 ⟨rfl, he, ?_, ?_⟩, l3, fun h => l4 ?_⟩
   ·rw [l3]; exact hu2
   ·rw [l3]; exact hu1
   ·rw [hv2 v e] at h; omega
  ·obtain ⟨n1, n2⟩ := new u e hul
   have hut' := hut
   rw [hv2 u e] at hut'
   have htv : iA ts (cO ts s pts[a]!).1.slots v = iA ts s.slots v := by unfold iA; rw [hv4]
   have hcv : gE (cO ts s pts[a]!).1.slots v = gE s.slots v := by unfold gE; rw [hv4]
   rw [n2, htv, hcv] at hsub
   have hset' := eL hu hyl huse
   have hl := R2.c v pts[a]!.y.toNat hv hyl h4 (by omega) hv3 hset' hkp (by rw [← hcv, ← n1]; exact hce) hsub
   exact o4 hC (.inr (.inr (.inr (.inl ⟨h3, tD.2 (by omega), hyn.symm, rfl⟩)))) v hkp hl (.inl rfl)
 by_cases h4 : pts[a]!.op = 4 ∨ pts[a]!.op = 5
 ·obtain ⟨hk, ec⟩ := pX PA h4 hgo
  rw [ec]
  refine RfI.loan w A he B R hC hu ?_ hs hk ?_
  ·rcases h4 with h | h
   ·exact .inl ⟨h, by rw [h]; rfl⟩
   ·exact .inr ⟨h, by rw [h]; rfl⟩
  ·unfold yF; rw [if_neg h1, if_neg h2, if_neg h3, if_pos h4]
 by_cases h6 : pts[a]!.op = 6
 ·obtain ⟨hk, ec⟩ := iQ PA h6 hgo
  have hyl : pts[a]!.y.toNat < ts.length := by have := hyb.2 (by omega) (by omega); omega
  have huse : bO ts pts[a]! (pts[a]!.y.toNat : Nat) ≠ 0 := jE (by omega) hyn
  have hty := (PA.t6 h6).2
  obtain ⟨u1, u2, u3, u4, u5⟩ := R.use w B ha hu hyl hty huse
  rw [ec] at hmm ⊢
  refine RfI.fin1 he hmm hs (R.tch hT B.w.k.m B.sm hP hyl hty u1 hk u5 (fun q => by cases q) (o4 hC (.inl ⟨.inr h6, hyn.symm, rfl⟩))) fun v q hv => ?_
  rw [k6 (by omega)] at q
  rw [show v = pts[a]!.x.toNat by omega]; exact (PA.t6 h6).1
 by_cases h7 : pts[a]!.op = 7
 ·obtain ⟨hk, ec⟩ := m5 h7 hgo
  have hxl : pts[a]!.x.toNat < ts.length := by have := hx.2 (by omega); omega
  have huse : bO ts pts[a]! (pts[a]!.x.toNat : Nat) ≠ 0 := AB h7 hxn
  have hty := (PA.t7 h7).1
  obtain ⟨u1, u2, u3, u4, u5⟩ := R.use w B ha hu hxl (by omega) huse
  rw [ec] at hmm ⊢
  refine RfI.fin1 he hmm hs ((R.tch hT B.w.k.m B.sm hP hxl (by omega) u1 (FX hk) u5 (fun _ => by omega) (o4 hC (.inr (.inr (.inl ⟨.inl h7, hxn.symm, rfl⟩))))).cong (GF hk)) (hno (by omega))
 by_cases h8 : pts[a]!.op = 8
 ·obtain ⟨hk, ec⟩ := FV h8 hgo
  have hxl : pts[a]!.x.toNat < ts.length := by have := hx.2 (by omega); omega
  have huse : bO ts pts[a]! (pts[a]!.x.toNat : Nat) ≠ 0 := Jl h8 hxn
  have hset := eL hu hxl huse
  have hty := PA.t2 (.inr h8)
  rw [ec] at hmm ⊢
  refine RfI.fin1 he hmm hs (R.fr B.w.h hP (fun v q1 q2 q3 => (B.f v q1 q2 q3).2.2.1) hxl hty hset hk (B.w.o _ hxl hty hset).2.2.1 fun v hv hg => ?_) (hno (by omega))
  exact o4 hC (.inr (.inr (.inl ⟨.inr h8, hxn.symm, rfl⟩))) v hv hg (.inl rfl)
 ·have e := uV (ts := ts) (s := s) (x := pts[a]!) (by omega) h11
  rw [e] at hmm hs ⊢
  exact RfI.fin1 he hmm hs R0 (hno (by omega))
end
end Go.AL
namespace Go.AL
structure Mo (m m' : List Cl) : Prop where
 l : m.length ≤ m'.length
 n : ∀ c, c < m.length → m[c]!.next ≤ m'[c]!.next
theorem Mo.refl (m : List Cl) : Mo m m := ⟨Nat.le_refl _, fun _ _ => Int.le_refl _⟩
theorem Mo.trans {a b c : List Cl} (h : Mo a b) (h' : Mo b c) : Mo a c := ⟨Nat.le_trans h.l h'.l, fun i hi => Int.le_trans (h.n i hi) (h'.n i (Nat.lt_of_lt_of_le hi h.l))⟩
theorem Mo.set {m : List Cl} {k : Nat} {c : Cl} (h : m[k]!.next ≤ c.next) : Mo m (m.set k c) := by
 refine ⟨by rw [List.length_set]; exact Nat.le_refl _, fun i hi => ?_⟩
 rw [c8]
 split
 ·rename_i q; rw [← q.1]; exact h
 ·exact Int.le_refl _
theorem Mo.app (m : List Cl) (z : Cl) : Mo m (m ++ [z]) := ⟨by rw [List.length_append]; omega, fun i hi => by rw [mB hi]; exact Int.le_refl _⟩
theorem Mo.tch (m : List Cl) (x : Pt) (wr : Bool) : Mo m (fL m x wr) := by
 unfold fL; split
 ·exact Mo.set (Int.le_refl _)
 ·exact Mo.refl _
theorem Mo.fr (m : List Cl) (x : Pt) : Mo m (jB m x) := by
 unfold jB; split
 ·exact Mo.set (Int.le_refl _)
 ·exact Mo.refl _
theorem Mo.wr (m : List Cl) (x : Pt) (v : Int) : Mo m (oZ m x v) := by
 unfold oZ; split
 ·exact Mo.set (Int.le_refl _)
 ·exact Mo.refl _
theorem Mo.ln (m : List Cl) (x : Pt) (u : Bool) : Mo m (m8 m x u) := by
 unfold m8; split
 ·refine Mo.set ?_
  show m[x.cell.toNat]!.next ≤ m[x.cell.toNat]!.next + 1
  omega
 ·exact Mo.refl _
section
variable {ts : List Int} {pts : List Pnt} {N : Int} {a k : Nat} {s : Mc}
theorem Lh (w : WG ts pts) (A : WA ts pts) (ha : a < pts.length) (h11 : pts[a]!.op ≠ 11) (hN : 1 ≤ N) (h : ShM N s.cells) (hgo : (cO ts s pts[a]!).2 = -1) : ShM (N + 1) (cO ts s pts[a]!).1.cells ∧ Mo s.cells (cO ts s pts[a]!).1.cells := by
 have PA := A.a a ha
 have hop := w.op a ha
 by_cases h1 : pts[a]!.op = 1
 ·rw [E2 PA h1]; exact ⟨h.mono (by omega), Mo.refl _⟩
 by_cases h2 : pts[a]!.op = 2
 ·have h' := h.nw hN pts[a]!.n
  rw [EX h2 hgo]
  split
  ·exact ⟨(h'.fr _).mono (by omega), (Mo.app _ _).trans (Mo.fr _ _)⟩
  ·exact ⟨h'.mono (by omega), Mo.app _ _⟩
 by_cases h3 : pts[a]!.op = 3
 ·have hx := w.x a ha
  have hyb := w.y a ha
  have hne := (PA.t3 h3).2
  rw [EY h3 (fun q => hne (by omega))]
  split
  ·exact ⟨(h.fr _).mono (by omega), Mo.fr _ _⟩
  ·exact ⟨h.mono (by omega), Mo.refl _⟩
 by_cases h4 : pts[a]!.op = 4 ∨ pts[a]!.op = 5
 ·rw [(pX PA h4 hgo).2]; exact ⟨h.ln _ _, Mo.ln _ _ _⟩
 by_cases h6 : pts[a]!.op = 6
 ·rw [(iQ PA h6 hgo).2]; exact ⟨(h.tch _ _).mono (by omega), Mo.tch _ _ _⟩
 by_cases h7 : pts[a]!.op = 7
 ·rw [(m5 h7 hgo).2]; exact ⟨(h.wr _ _).mono (by omega), Mo.wr _ _ _⟩
 by_cases h8 : pts[a]!.op = 8
 ·rw [(FV h8 hgo).2]; exact ⟨(h.fr _).mono (by omega), Mo.fr _ _⟩
 ·rw [uV (by omega) h11]; exact ⟨h.mono (by omega), Mo.refl _⟩
theorem Bs.step (w : WG ts pts) (A : WA ts pts) (ha : a < pts.length) (h11 : pts[a]!.op ≠ 11) (hN : 1 ≤ N) (B : Bs ts N s) (hu : cX ts s pts[a]! = false) (hgo : (cO ts s pts[a]!).2 = -1) : Bs ts (N + 1) (cO ts s pts[a]!).1 := by
 have PA := A.a a ha
 have hx := w.x a ha
 have hyb := w.y a ha
 have hop := w.op a ha
 have hs := w.doY A ha B.w.k.l hu h11 hgo
 obtain ⟨g1, g2⟩ := Lh w A ha h11 hN B.sm hgo
 have hxn : ((pts[a]!.x.toNat : Nat) : Int) = pts[a]!.x := by omega
 have hyn : ((pts[a]!.y.toNat : Nat) : Int) = pts[a]!.y := by omega
 have hv2 : ∀ v : Nat, bD pts[a]! = (v : Int) → (1 ≤ pts[a]!.op ∧ pts[a]!.op ≤ 6) ∧ v = pts[a]!.x.toNat := fun v e => by
  by_cases q : 7 ≤ pts[a]!.op
  ·rw [B3 q] at e; omega
  ·rw [k6 (by omega)] at e; omega
 have old : ∀ v, v < ts.length → (cO ts s pts[a]!).1.slots[v]!.set = true → bD pts[a]! ≠ (v : Int) → bO ts pts[a]! v ≠ 2 ∧ (cO ts s pts[a]!).1.slots[v]! = s.slots[v]! := fun v hv h1 h2 => by
  have e := hs v hv
  rw [if_neg h2] at e
  by_cases q : bO ts pts[a]! v = 2
  ·rw [if_pos q] at e; rw [e] at h1; cases h1
  ·rw [if_neg q] at e; exact ⟨q, e⟩
 have oldf : ∀ v, v < ts.length → 3 ≤ ts[v]! → s.slots[v]!.set = true → 0 ≤ s.slots[v]!.ptr.cell ∧ s.slots[v]!.ptr.cell < (cO ts s pts[a]!).1.cells.length ∧ 1 ≤ s.slots[v]!.ptr.tag ∧ s.slots[v]!.ptr.tag < (cO ts s pts[a]!).1.cells[gE s.slots v]!.next := fun v h1 h2 h3 => by
  obtain ⟨f1, f2, f3, f4⟩ := B.f v h1 h2 h3
  have := g2.l
  have h5 := g2.n (gE s.slots v) (by unfold gE; omega)
  exact ⟨f1, by omega, f3, by omega⟩
 -- a new reference
 have newf : ∀ v : Nat, bD pts[a]! = (v : Int) → v < ts.length → 3 ≤ ts[v]! → (pts[a]!.op = 3 ∧ yF s pts[a]! = s.slots[pts[a]!.y.toNat]! ∧ pts[a]!.y.toNat < ts.length ∧ ts[pts[a]!.y.toNat]! = ts[v]! ∧ s.slots[pts[a]!.y.toNat]!.set = true) ∨
   (∃ c : Nat, c < s.cells.length ∧ (yF s pts[a]!).ptr = ⟨(c : Int), s.cells[c]!.next⟩ ∧ s.cells[c]!.next + 1 ≤ (cO ts s pts[a]!).1.cells[c]!.next) := fun v e hv h3 => by
  obtain ⟨o1, o2⟩ := hv2 v e
  by_cases h1 : pts[a]!.op = 1
  ·have := PA.t1 h1; rw [← o2] at this; omega
  by_cases h2 : pts[a]!.op = 2
  ·have := PA.t2 (.inl h2); rw [← o2] at this; omega
  by_cases h3' : pts[a]!.op = 3
  ·have hyl : pts[a]!.y.toNat < ts.length := by have := hyb.2 (by omega) (by omega); omega
   refine .inl ⟨h3', by unfold yF; rw [if_neg h1, if_neg h2, if_pos h3'], hyl, ?_, eL hu hyl (Ao h3' hyn)⟩
   rw [o2]; exact (PA.t3 h3').1.symm
  by_cases h4 : pts[a]!.op = 4 ∨ pts[a]!.op = 5
  ·obtain ⟨hk, ec⟩ := pX PA h4 hgo
   have hx0 := dN (m7 hk)
   refine .inr ⟨s.slots[pts[a]!.y.toNat]!.ptr.cell.toNat, hx0.2.2, ?_, ?_⟩
   ·unfold yF; rw [if_neg h1, if_neg h2, if_neg h3', if_pos h4]
    dsimp only
    unfold zW; rw [if_pos hk, Int.toNat_of_nonneg hx0.1]
   ·rw [ec, Ci hk, if_pos rfl]
    show _ ≤ (iO _ _ _).next + 1
    exact Int.le_refl _
  ·have h6 : pts[a]!.op = 6 := by omega
   have := (PA.t6 h6).1; rw [← o2] at this; omega
 refine ⟨B.w.do PA h11 (fun h => ⟨hx.1, hx.2 h⟩) hop.1 (fun h1 h2 => ⟨hyb.1, hyb.2 h1 h2⟩) hu, fun v hv ht => ?_, g1, fun v hv h3 hset => ?_, fun v u hv hul h4 h4' hset hset' hce htg => ?_⟩
 ·rw [hs v hv]
  by_cases q : bD pts[a]! = (v : Int)
  ·rw [if_pos q]
   obtain ⟨o1, o2⟩ := hv2 v q
   unfold yF
   by_cases h1 : pts[a]!.op = 1
   ·rw [if_pos h1]; exact PA.n (.inl h1)
   rw [if_neg h1]
   by_cases h2 : pts[a]!.op = 2
   ·have := PA.t2 (.inl h2); rw [← o2] at this; omega
   rw [if_neg h2]
   by_cases h3 : pts[a]!.op = 3
   ·rw [if_pos h3]
    have hyl : pts[a]!.y.toNat < ts.length := by have := hyb.2 (by omega) (by omega); omega
    have := (PA.t3 h3).1
    rw [← o2, ht] at this
    exact B.i _ hyl this.symm
   rw [if_neg h3]
   by_cases h4 : pts[a]!.op = 4 ∨ pts[a]!.op = 5
   ·rcases h4 with h | h
    ·have := (PA.t4 h).1; rw [← o2] at this; omega
    ·have := (PA.t5 h).1; rw [← o2] at this; omega
   rw [if_neg h4]
   have h6 : pts[a]!.op = 6 := by omega
   have hk := (iQ PA h6 hgo).1
   dsimp only
   unfold uK; rw [if_pos hk]
   exact (B.w.k.m.at (dN hk).2.2).v
  ·rw [if_neg q]
   split
   ·exact ⟨by decide, by decide⟩
   ·exact B.i v hv ht
 ·by_cases q : bD pts[a]! = (v : Int)
  ·have e := hs v hv
   rw [if_pos q] at e
   unfold gE
   rw [e]
   rcases newf v q hv h3 with ⟨n1, n2, n3, n4, n5⟩ | ⟨c, n1, n2, n3⟩
   ·rw [n2]; exact oldf _ n3 (by omega) n5
   ·rw [n2]
    have := g2.l
    have h5 := (B.w.k.m.at n1).n
    exact ⟨by dsimp only; omega, by dsimp only; omega, h5.1, by show s.cells[c]!.next < (cO ts s pts[a]!).1.cells[c]!.next; omega⟩
  ·obtain ⟨_, e⟩ := old v hv hset q
   unfold gE
   rw [e] at hset ⊢
   exact oldf v hv h3 hset
 ·have fresh : ∀ (v u : Nat), bD pts[a]! = (v : Int) → v < ts.length → u < ts.length → ts[v]! = 4 → ts[u]! = 4 → bD pts[a]! ≠ (u : Int) → (cO ts s pts[a]!).1.slots[u]!.set = true →
    gE (cO ts s pts[a]!).1.slots v = gE (cO ts s pts[a]!).1.slots u → (cO ts s pts[a]!).1.slots[v]!.ptr.tag = (cO ts s pts[a]!).1.slots[u]!.ptr.tag → False := fun v u e hv hul h4 h4' ne hset hce htg => by
   have e1 := hs v hv
   rw [if_pos e] at e1
   obtain ⟨n0, e2⟩ := old u hul hset ne
   unfold gE at hce
   rw [e1, e2] at hce htg
   rw [e2] at hset
   rcases newf v e hv (by omega) with ⟨n1, n2, n3, n4, n5⟩ | ⟨c, n1, n2, n3⟩
   ·rw [n2] at hce htg
    have := B.d _ u n3 hul (by omega) h4' n5 hset hce htg
    rw [← this] at n0
    exact n0 (JS n1 hyn (.inr (by omega)))
   ·rw [n2] at hce htg
    have f := (B.f u hul (by omega) hset)
    dsimp only at hce htg
    have e3 : gE s.slots u = c := by unfold gE; omega
    rw [e3] at f
    omega
  by_cases q : bD pts[a]! = (v : Int)
  ·by_cases q' : bD pts[a]! = (u : Int)
   ·omega
   ·exact (fresh v u q hv hul h4 h4' q' hset' hce htg).elim
  ·by_cases q' : bD pts[a]! = (u : Int)
   ·exact (fresh u v q' hul hv h4' h4 q hset hce.symm htg.symm).elim
   ·obtain ⟨_, e⟩ := old v hv hset q
    obtain ⟨_, e'⟩ := old u hul hset' q'
    unfold gE at hce
    rw [e] at hset hce htg
    rw [e'] at hset' hce htg
    exact B.d v u hv hul h4 h4' hset hset' hce htg
theorem HR (w : WG ts pts) (A : WA ts pts) (ha : a < pts.length) (h11 : pts[a]!.op ≠ 11) (hN : N ≤ 198) (B : Bs ts N s) (R : RfI ts (fun v => Nd ts pts (a, v)) (Ln ts pts a) s.slots s.cells) (hu : cX ts s pts[a]! = false) : (cO ts s pts[a]!).2 = -1 ∨ (cO ts s pts[a]!).2 = 1 := by
 have PA := A.a a ha
 have hx := w.x a ha
 have hyb := w.y a ha
 have hop := w.op a ha
 have hxn : ((pts[a]!.x.toNat : Nat) : Int) = pts[a]!.x := by omega
 have hyn : ((pts[a]!.y.toNat : Nat) : Int) = pts[a]!.y := by omega
 by_cases h9 : 9 ≤ pts[a]!.op
 ·rw [uV h9 h11]; exact .inl rfl
 have hxl : pts[a]!.x.toNat < ts.length := by have := hx.2 (by omega); omega
 unfold cO
 by_cases h1 : pts[a]!.op = 1
 ·rw [if_pos h1]; exact .inl (B.w.put0 (by rw [PA.t1 h1]; decide) _).2
 rw [if_neg h1]
 by_cases h2 : pts[a]!.op = 2
 ·rw [if_pos h2]
  have ht := PA.t2 (.inl h2)
  by_cases h200 : s.cells.length = 200
  ·rw [if_pos h200]; exact .inr rfl
  ·rw [if_neg h200]
   exact .inl ((B.w.new (PA.n (.inr h2)) h200 s.read).putB (v := pts[a]!.x.toNat) hxl ht _ rfl rfl).2
 rw [if_neg h2]
 by_cases h3 : pts[a]!.op = 3
 ·rw [if_pos h3]
  have hyl : pts[a]!.y.toNat < ts.length := by have := hyb.2 (by omega) (by omega); omega
  obtain ⟨ht, hne⟩ := PA.t3 h3
  have hys := eL hu hyl (Ao h3 hyn)
  by_cases q2 : ts[pts[a]!.y.toNat]! = 2
  ·rw [if_pos (tD.2 (.inl q2))]
   have g := B.w.give hyl q2 hys
   obtain ⟨b1, b2, b3, b4⟩ := B.w.o _ hyl q2 hys
   refine .inl (g.putB (v := pts[a]!.x.toNat) hxl (by rw [ht]; exact q2) _ hys ?_).2
   generalize s.slots[pts[a]!.y.toNat]! = z at b1 b3
   obtain ⟨zs, zn, zc, zt⟩ := z
   dsimp only at b1 b3 ⊢
   rw [b3, Int.toNat_of_nonneg b1]
  ·split
   ·exact .inl ((B.w.clr (v := pts[a]!.y.toNat) q2).put0 (by rw [ht]; exact q2) _).2
   ·exact .inl (B.w.put0 (by rw [ht]; exact q2) _).2
 rw [if_neg h3]
 by_cases h4 : pts[a]!.op = 4 ∨ pts[a]!.op = 5
 ·rw [if_pos h4]
  have hyl : pts[a]!.y.toNat < ts.length := by have := hyb.2 (by omega) (by omega); omega
  have huse : bO ts pts[a]! (pts[a]!.y.toNat : Nat) ≠ 0 := jE (by omega) hyn
  have hty : 2 ≤ ts[pts[a]!.y.toNat]! ∧ (pts[a]!.op = 5 → ts[pts[a]!.y.toNat]! ≠ 3) := by
   rcases h4 with h | h
   ·exact ⟨(PA.t4 h).2.2, fun q => by omega⟩
   ·have := (PA.t5 h).2.2; exact ⟨by omega, fun _ => by omega⟩
  have hxt : ts[pts[a]!.x.toNat]! ≠ 2 := by
   rcases h4 with h4 | h4
   ·rw [(PA.t4 h4).1]; decide
   ·rw [(PA.t5 h4).1]; decide
  have hk : cR s.cells s.slots[pts[a]!.y.toNat]!.ptr (decide (pts[a]!.op = 5)) = 0 := R.code w B ha hu hyl hty.1 huse (fun q => hty.2 (by simpa using q))
  have hsh := (B.sm.at (dN hk).2.2).tch s.slots[pts[a]!.y.toNat]!.ptr (decide (pts[a]!.op = 5))
  have hl : qI s.cells s.slots[pts[a]!.y.toNat]!.ptr (decide (pts[a]!.op = 5)) = 0 := by
   unfold qI; rw [if_pos hk, if_neg]
   have h5 := hsh.l
   have h6 := hsh.n
   unfold BY
   omega
  rw [if_pos hl]
  exact .inl ((B.w.cells (B.w.k.m.ln _ _) (B.w.h.ln B.w.k.m _ _) (qS _ _ _) (fun c hc => Ft _ _ _ c hc) _).put0 hxt _).2
 rw [if_neg h4]
 by_cases h6 : pts[a]!.op = 6
 ·rw [if_pos h6]
  have hyl : pts[a]!.y.toNat < ts.length := by have := hyb.2 (by omega) (by omega); omega
  have hxt : ts[pts[a]!.x.toNat]! ≠ 2 := by rw [(PA.t6 h6).1]; decide
  have hk : cR s.cells s.slots[pts[a]!.y.toNat]!.ptr false = 0 := R.code w B ha hu hyl (PA.t6 h6).2 (jE (by omega) hyn) (fun q => by cases q)
  rw [if_pos hk]
  exact .inl ((B.w.cells (B.w.k.m.tch _ _) (B.w.h.tch B.w.k.m _ _) (l0 _ _ _) (fun c hc => CY _ _ _ c hc) _).put0 hxt _).2
 rw [if_neg h6]
 by_cases h7 : pts[a]!.op = 7
 ·rw [if_pos h7]
  have hyl : pts[a]!.y.toNat < ts.length := by have := hyb.2 (by omega) (by omega); omega
  obtain ⟨ht, ht'⟩ := PA.t7 h7
  have hk : cR s.cells s.slots[pts[a]!.x.toNat]!.ptr true = 0 := R.code w B ha hu hxl (by omega) (AB h7 hxn) (fun _ => by omega)
  refine .inl ?_
  show lL _ = -1
  unfold lL qP; rw [if_pos (B.i _ hyl ht'), if_pos hk]
 rw [if_neg h7]
 have h8 : pts[a]!.op = 8 := by omega
 rw [if_pos h8]
 have hset := eL hu hxl (Jl h8 hxn)
 refine .inl ?_
 show lL _ = -1
 unfold lL; rw [if_pos (B.w.k0 hxl (PA.t2 (.inr h8)) hset true)]
theorem Ff (w : WG ts pts) (A : WA ts pts) (I : Nat → Nat → Mc → Prop)
  (hI : ∀ n a s k, a < pts.length → pts[a]!.op ≠ 11 → edge pts a k → I (n + 1) a s → cX ts s pts[a]! = false → (cO ts s pts[a]!).2 = -1 → I n k (cO ts s pts[a]!).1) :
  ∀ n a cs s last, a < pts.length → I n a s → Jo ts pts (fun a s => ∃ n, I n a s) (gD ts pts (eH pts n a cs).1 s last) := by
 intro n
 induction n with
 | zero =>
  intro a cs s last ha hs
  by_cases h11 : pts[a]!.op = 11
  ·have e : (eH pts 0 a cs).1 = [a] := by unfold eH; rw [if_pos h11]
   rw [e]; exact oR ha ⟨_, hs⟩ h11
  ·have e : (eH pts 0 a cs).1 = [] := by rw [eH, if_neg h11]
   rw [e]; exact .inl rfl
 | succ n ih =>
  intro a cs s last ha hs
  by_cases h11 : pts[a]!.op = 11
  ·have e : (eH pts (n + 1) a cs).1 = [a] := by unfold eH; rw [if_pos h11]
   rw [e]; exact oR ha ⟨_, hs⟩ h11
  ·have e : (eH pts (n + 1) a cs).1 = a :: (eH pts n (eS pts a cs).1 (eS pts a cs).2).1 := by rw [eH, if_neg h11]
   have he := oO w A ha h11 cs
   rw [e]
   exact w5 ha ⟨_, hs⟩ fun h1 h2 => ih _ _ _ _ (fK w he) (hI n a s _ ha h11 he hs h1 h2)
def Rt (pts : List Pnt) (c b : Nat) : Prop := Clo (fun b => edge pts c b) (fun a b => edge pts a b) b
structure Jv (ts : List Int) (pts : List Pnt) (n a : Nat) (s : Mc) : Prop where
 b : ∃ N : Int, 1 ≤ N ∧ N + n ≤ 198 ∧ Bs ts N s
 v : Vs ts pts a s
 r : (∃ c L, Cf ts pts c L ∧ Rt pts c a) ∨ RfI ts (fun v => Nd ts pts (a, v)) (Ln ts pts a) s.slots s.cells
theorem Jv.start {n : Nat} (hn : n ≤ 197) : Jv ts pts n 0 (mc0 ts.length) := by
 have e : ∀ v, v < ts.length → (mc0 ts.length).slots[v]! = iT := fun v hv => by
  show (List.replicate ts.length iT)[v]! = iT
  rw [cL _ _ (by simpa using hv)]; simp
 refine ⟨⟨1, by omega, by omega, Own.start ts, fun v hv _ => ?_, fun c hc => ?_, fun v hv _ h => ?_, fun v u hv hul _ _ h => ?_⟩, Vs.start, .inr ⟨fun v hv _ h => ?_, fun v u hv hul _ _ h => ?_⟩⟩
 ·rw [e v hv]; exact ⟨by decide, by decide⟩
 ·have : c ∈ ([] : List Cl) := hc
  cases this
 all_goals (rw [e v hv] at h; cases h)
theorem Fc (w : WG ts pts) (A : WA ts pts) (cs : List Int) (n : Nat) (hn : n ≤ 197) (h : (dZ ts pts cs n).2.1 = 3 ∨ (dZ ts pts cs n).2.1 = 4) : ∃ c L, Cf ts pts c L ∧ Rt pts c (dZ ts pts cs n).2.2 := by
 have ho := Ff w A (Jv ts pts) (fun n a s k ha h11 he hJ hu hgo => by
  obtain ⟨⟨N, hN1, hN2, B⟩, V, R⟩ := hJ
  refine ⟨⟨N + 1, by omega, by omega, B.step w A ha h11 hN1 hu hgo⟩, V.step w A a s k ha h11 he hu hgo, ?_⟩
  rcases R with ⟨c, L, h1, h2⟩ | R
  ·exact .inl ⟨c, L, h1, .step h2 he⟩
  ·by_cases hC : ∃ L, Cf ts pts a L
   ·obtain ⟨L, hL⟩ := hC
    exact .inl ⟨a, L, hL, .base he⟩
   ·exact .inr (R.step w A he h11 B V (fun L hL => hC ⟨L, hL⟩) hu hgo)) n 0 cs (mc0 ts.length) 0 w.p0 (Jv.start hn)
 change Jo ts pts _ (dZ ts pts cs n) at ho
 rcases ho with ho | ⟨s', h0, ⟨m, J⟩, ⟨h3, _⟩ | ⟨h3, h4, h5, h6⟩⟩
 ·omega
 ·omega
 ·rcases J.r with hr | R
  ·exact hr
  ·exfalso
   obtain ⟨N, hN1, hN2, B⟩ := J.b
   by_cases q : pts[(dZ ts pts cs n).2.2]!.op = 11
   ·rw [qG q, (Own.fin ts.length 0 s' B.w (by omega) (fun u hu => by omega)).1] at h6; omega
   ·rcases HR w A h0 q (by omega) B R h3 with e | e
    ·exact h4 e
    ·omega
end
end Go.AL
namespace Go.AL
section
variable {ts : List Int} {pts : List Pnt} {a : Nat} {s : Mc}
theorem B5 {f : Flows ts pts} {i : Iss} (ha : a < pts.length) (h : i ∈ J0 ts pts f.Aa f.Am f.Al f.Af f.Ap a) : i ∈ f.iss := List.mem_flatMap.2 ⟨a, List.mem_range.2 ha, h⟩
theorem Di {x : Pnt} {v : Nat} : (iF x).testBit v = decide (bD x = (v : Int)) := by
 unfold iF
 split
 ·rw [Nat.testBit_two_pow, decide_eq_decide]; omega
 ·rw [Nat.zero_testBit]; exact (decide_eq_false (by omega)).symm
theorem Hg (w : WG ts pts) (f : Flows ts pts) {L : Nat} (ha : a < pts.length) (h : Cf ts pts a L) : (⟨a, if pts[L]!.op = 5 then 3 else 2, L⟩ : Iss) ∈ f.iss := by
 obtain ⟨v, u, wr, hk, hA, hf, hp, hy, hw⟩ := h
 obtain ⟨hl, hln⟩ := vJ hp
 dsimp only at hl hln
 obtain ⟨_, hvl, _⟩ := AX w hf
 dsimp only at hvl
 have htl := w.tl
 have hpl := w.pl
 have hyw := w.y L hl
 have hx := w.x a ha
 have hya := w.y a ha
 refine B5 ha (List.mem_append_right _ (List.mem_map.2 ⟨(L : Int), dU.2 ⟨L, by omega, ?_, rfl⟩, by rw [Int.toNat_natCast]⟩))
 rw [AZ w f ha hl hln, Bool.and_eq_true, Bool.and_eq_true]
 refine ⟨List.any_eq_true.2 ?_, ?_, (f.gp.2 a ha L).2 hp⟩
 ·have near : ∀ c : Acc, c.var = (u : Int) → c.write = wr → uW pts L c = true := fun c h1 h2 => by
   unfold uW
   rw [h1, h2, hy, decide_eq_true rfl, Bool.true_and]
   rcases hw with h | h
   ·rw [h]; rfl
   ·rw [decide_eq_true h]; simp
  unfold nL
  rcases hA with ⟨h, e, e2⟩ | ⟨h, e, e2⟩ | ⟨h, e, e2⟩ | ⟨h, ht, e, e2⟩ | ⟨h, ht, hm, e2⟩
  ·exact ⟨⟨pts[a]!.y, false⟩, List.mem_append_left _ (by rw [if_pos h]; simp), near _ e e2.symm⟩
  ·exact ⟨⟨pts[a]!.y, true⟩, List.mem_append_left _ (by rw [if_neg (by omega), if_pos h]; simp), near _ e e2.symm⟩
  ·exact ⟨⟨pts[a]!.x, true⟩, List.mem_append_left _ (by rw [if_neg (by omega), if_neg (by omega), if_pos h]; simp), near _ e e2.symm⟩
  ·refine ⟨⟨pts[a]!.y, true⟩, List.mem_append_left _ ?_, near _ e e2.symm⟩
   rw [if_neg (by omega), if_neg (by omega), if_neg (by omega), if_pos ⟨h, by rw [e, Int.toNat_natCast]; exact ht⟩]; simp
  ·refine ⟨⟨bD pts[a]!, true⟩, List.mem_append_right _ ?_, near _ h e2.symm⟩
   rw [if_pos ⟨by omega, by rw [h, Int.toNat_natCast]; exact ht, by rw [h, Int.toNat_natCast]; exact (f.gm.2 a ha u).2 hm⟩]; simp
 ·unfold yR
  rw [iG]
  refine .inr ⟨(v : Int), dU.2 ⟨v, by omega, ?_, rfl⟩, ?_⟩
  ·rw [eB, (f.gl.2 a ha v).2 hk.1, Bool.true_and, Nat.testBit_or, dX, Di, decide_eq_false hk.2.1]
   have : decide (bO ts pts[a]! v ∈ ([2] : List Int)) = false := decide_eq_false (by simpa using hk.2.2)
   rw [this]; simp
  ·rw [Int.toNat_natCast, hG f.gf.1 ha (by omega)]
   exact (f.gf.2 a v ha (by omega) L).2 hf
theorem Hs (w : WG ts pts) (f : Flows ts pts) (ha : a < pts.length) (V : Vs ts pts a s) (h : cX ts s pts[a]! = true) : ∃ v : Nat, (⟨a, 1, v⟩ : Iss) ∈ f.iss := by
 obtain ⟨v, hv, hu, hf⟩ := AK h
 have htl := w.tl
 refine ⟨v, B5 ha (List.mem_append_left _ (List.mem_map.2 ⟨(v : Int), dU.2 ⟨v, by omega, ?_, rfl⟩, rfl⟩))⟩
 rw [eB, dX, decide_eq_true hv, Bool.true_and, Bool.and_eq_true]
 refine ⟨decide_eq_true (by have := nX ts pts[a]! v; simp only [List.mem_cons, List.not_mem_nil, or_false]; omega), ?_⟩
 have := f.ga.2 a ha v
 cases q : f.Aa[a]!.testBit v with
 | false => rfl
 | true => exact absurd (V.u v hv hf) ((this.1 q).2)
theorem Ej (w : WG ts pts) (A : WA ts pts) (cs : List Int) (n : Nat) : (dZ ts pts cs n).2.1 = 0 ∨ (dZ ts pts cs n).2.1 = 1 ∨ (dZ ts pts cs n).2.1 = 2 ∨ (dZ ts pts cs n).2.1 = 3 ∨ (dZ ts pts cs n).2.1 = 4 := by
 have h := CM w A (Vs ts pts) (Vs.step w A) n 0 cs (mc0 ts.length) 0 w.p0 Vs.start
 change Jo ts pts (Vs ts pts) (dZ ts pts cs n) at h
 rcases h with h | ⟨s', h0, hI, ⟨h3, _⟩ | ⟨_, h4, _, h5⟩⟩
 ·exact .inr (.inl h)
 ·exact .inr (.inr (.inl h3))
 ·rw [h5]
  by_cases q : pts[(dZ ts pts cs n).2.2]!.op = 11
  ·rw [qG q]
   rcases mJ ts ts.length 0 s' with e | e | e <;> (rw [e]; simp)
  ·rcases xD (ts := ts) (s := s') q with e | e | e | e
   ·exact absurd e h4
   all_goals (rw [e]; simp)
theorem Ie (w : WG ts pts) (A : WA ts pts) (f : Flows ts pts) (cs : List Int) (n : Nat) (hn : n ≤ 197) (h : (dZ ts pts cs n).2.1 ≠ 0 ∧ (dZ ts pts cs n).2.1 ≠ 1) :
  ∃ (c : Nat) (i : Iss), i ∈ f.iss ∧ i.point = (c : Int) ∧ c < pts.length ∧ ((dZ ts pts cs n).2.1 = 2 ∧ c = (dZ ts pts cs n).2.2 ∨ (dZ ts pts cs n).2.1 ≠ 2 ∧ i.kind ≠ 1 ∧ Rt pts c (dZ ts pts cs n).2.2) := by
 by_cases h2 : (dZ ts pts cs n).2.1 = 2
 ·have ho := CM w A (Vs ts pts) (Vs.step w A) n 0 cs (mc0 ts.length) 0 w.p0 Vs.start
  change Jo ts pts (Vs ts pts) (dZ ts pts cs n) at ho
  rcases ho with ho | ⟨s', h0, hI, ⟨_, h3, _⟩ | ⟨_, h4, _, h5⟩⟩
  ·rw [ho] at h2; cases h2
  ·obtain ⟨v, hv⟩ := Hs w f h0 hI h3
   exact ⟨_, _, hv, rfl, h0, .inl ⟨h2, rfl⟩⟩
  ·rw [h2] at h5
   by_cases q : pts[(dZ ts pts cs n).2.2]!.op = 11
   ·rw [qG q] at h5
    rcases mJ ts ts.length 0 s' with e | e | e <;> (rw [e] at h5; cases h5)
   ·rcases xD (ts := ts) (s := s') q with e | e | e | e <;> (rw [e] at h5; cases h5)
 ·have hc := Ej w A cs n
  obtain ⟨c, L, h3, h4⟩ := Fc w A cs n hn (by omega)
  have hcl : c < pts.length := by
   clear h3 hc h h2
   generalize (dZ ts pts cs n).2.2 = b at h4
   induction h4 with
   | base h => exact h.1
   | step _ _ ih => exact ih
  refine ⟨c, _, Hg w f hcl h3, rfl, hcl, .inr ⟨h2, ?_, h4⟩⟩
  dsimp only
  split <;> decide
theorem wK (w : WG ts pts) (A : WA ts pts) (f : Flows ts pts) (cs : List Int) (n : Nat) (hn : n ≤ 197) (h : f.iss = []) : (dZ ts pts cs n).2.1 = 0 ∨ (dZ ts pts cs n).2.1 = 1 := by
 apply Classical.byContradiction; intro q
 obtain ⟨c, i, hi, _⟩ := Ie w A f cs n hn ⟨fun e => q (.inl e), fun e => q (.inr e)⟩
 rw [h] at hi; cases hi
end
end Go.AL
namespace Go.AL
open Go.RowKit Go.MapKept
set_option linter.unusedVariables false
set_option linter.unusedSimpArgs false
def LN (r : Nat) (ks : List Int) (w : World) : Prop := ∃ es ck, w.heap[r]? = some (.map es ck) ∧ ∀ e ∈ es.toList, ∃ k ∈ ks, e.key = .int .i64 k
structure GsM (C : Ctx) (s : AS) (r : Nat) (ks : List Int) (a : Act) (w : World) : Prop where
 g : Gs C s a w
 m : LN r ks w
 l : C.w0.heap.size ≤ r
theorem Fr.trans2 {W0 W1 : Nat → Prop} {w0 w w' : World} (h : Fr W0 w0 w) (k : Fr W1 w w') (hW : ∀ b, W1 b → W0 b ∨ w0.heap.size ≤ b) : Fr W0 w0 w' :=
 ⟨k.os.trans h.os, k.tape.trans h.tape, k.output.trans h.output, Nat.le_trans h.size k.size, fun b hb hw => by
  rw [k.block b (Nat.lt_of_lt_of_le hb h.size) (fun q => (hW b q).elim hw (fun h => by omega))]; exact h.block b hb hw, fun b => Nat.le_trans (h.bs b) (k.bs b)⟩
theorem GsM.base {C : Ctx} {s : AS} {r : Nat} {ks : List Int} {a : Act} {w : World} (h : GsM C s r ks a w) : ∃ C' : Ctx, C'.N = C.N ∧ Gs C' s a w ∧ ∀ s' a' w', Gs C' s' a' w' → GsM C s' r ks a' w' := by
 obtain ⟨⟨h0, ι, g, gh⟩, ⟨es, ck, hm, hk⟩, hl⟩ := h
 let C' : Ctx := { C with w0 := w, W0 := fun b => ∃ id cs β, cE s.hs id = some cs ∧ ι id = some (some (b, β)), xlt := fun b hb => Nat.lt_of_lt_of_le (C.xlt b hb) gh.fr.size }
 have hW : ∀ b, C'.W0 b → C.W0 b ∨ C.w0.heap.size ≤ b := by
  rintro b ⟨id, cs, β, h1, h2⟩
  rcases gh.obj id cs h1 with ⟨h3, _⟩ | ⟨b', β', arr, e, h3, h4, h5, h6, h7, h8⟩
  ·rw [h3] at h2; cases h2
  ·rw [h3] at h2; cases h2; exact h8
 have hr : ¬ C'.W0 r := by
  rintro ⟨id, cs, β, h1, h2⟩
  rcases gh.obj id cs h1 with ⟨h3, _⟩ | ⟨b', β', arr, e, h3, h4, h5, h6, h7, h8⟩
  ·rw [h3] at h2; cases h2
  ·rw [h3] at h2; cases h2; rw [hm] at h4; cases h4
 refine ⟨C', rfl, ⟨h0, ι, ⟨g.df, g.sz, g.tm⟩, ⟨fun id cs h => ?_, gh.sep, Fr.refl _ _, gh.ex, gh.fresh⟩⟩, ?_⟩
 ·rcases gh.obj id cs h with h1 | ⟨b', β', arr, e, h3, h4, h5, h6, h7, h8⟩
  ·exact .inl h1
  ·exact .inr ⟨b', β', arr, e, h3, h4, h5, h6, h7, .inl ⟨id, cs, β', h, h3⟩⟩
 ·rintro s' a' w' ⟨h0', ι', g', gh'⟩
  have f : Fr C'.W0 w w' := gh'.fr
  refine ⟨⟨h0', ι', ⟨g'.df, g'.sz, g'.tm⟩, ⟨fun id cs h => ?_, gh'.sep, gh.fr.trans2 f hW, gh'.ex, gh'.fresh⟩⟩, ⟨es, ck, by rw [f.block r (gL hm) hr]; exact hm, hk⟩, hl⟩
  rcases gh'.obj id cs h with h1 | ⟨b', β', arr, e, h3, h4, h5, h6, h7, h8⟩
  ·exact .inl h1
  ·refine .inr ⟨b', β', arr, e, h3, h4, h5, h6, h7, ?_⟩
   rcases h8 with h8 | h8
   ·exact hW _ h8
   ·exact .inr (Nat.le_trans gh.fr.size h8)
def rJ (P : Program) (N : Nat) (c : Code) (Q : Exit → AS → List Int → Prop) (r : Nat) (ks : List Int) (s : AS) : Prop :=
 ∀ (C : Ctx) (a : Act) (w : World), C.N = N → GsM C s r ks a w → c.wp P (fun e a' w' => ∃ s' ks', Q e s' ks' ∧ GsM C s' r ks' a' w') a w
def EI (P : Program) (N : Nat) (all : Array Oper) (Q : Exit → AS → List Int → Prop) (r : Nat) (ks : List Int) (l : List Oper) (s : AS) : Prop :=
 ∀ (C : Ctx) (a : Act) (w : World), C.N = N → GsM C s r ks a w → wpList P all (fun e a' w' => ∃ s' ks', Q e s' ks' ∧ GsM C s' r ks' a' w') l a w
def tJ (K : AS → List Int → Prop) (Q : Exit → AS → List Int → Prop) : Exit → AS → List Int → Prop
 | .normal, s, ks => K s ks
 | e, s, ks => Q e s ks
def I5 (id : Nat) (Q : Exit → AS → List Int → Prop) : Exit → AS → List Int → Prop
 | .exit i, s, ks => if i = id then Q .normal s ks else Q (.exit i) s ks
 | e, s, ks => Q e s ks
section
variable {P : Program} {N : Nat} {Q : Exit → AS → List Int → Prop} {s : AS} {r : Nat} {ks : List Int}
theorem oA {c : Code} (h : AW P N c (fun e s' => Q e s' ks) s) : rJ P N c Q r ks s := by
 intro C a w hN g
 obtain ⟨C', h1, h2, h3⟩ := g.base
 exact wp_mono (h C' a w (h1.trans hN) h2) fun e a' w' ⟨s', q1, q2⟩ => ⟨s', ks, q1, h3 _ _ _ q2⟩
theorem lG {x y : Code} (h : rJ P N x (tJ (fun s' ks' => rJ P N y Q r ks' s') Q) r ks s) : rJ P N (.seq x y) Q r ks s := by
 intro C a w hN g
 refine wp_seq (wp_mono (h C a w hN g) ?_)
 rintro e a' w' ⟨s', ks', h1, h2⟩
 cases e with
 | normal => exact h1 C a' w' hN h2
 | _ => exact ⟨s', ks', h1, h2⟩
theorem AY {x y : Code} {c : Operand} {b : Bool} (hc : ev (lk s.ts) c = some (.v (.bool b))) (h1 : b = true → rJ P N x Q r ks s) (h2 : b = false → rJ P N y Q r ks s) : rJ P N (.cond c x y) Q r ks s := by
 rintro C a w hN ⟨⟨h0, ι, g, gh⟩, hm, hl⟩
 have h := dE g hc
 simp only [Rd] at h
 cases b
 ·exact wp_cond_false h (h2 rfl C a w hN ⟨⟨h0, ι, g, gh⟩, hm, hl⟩)
 ·exact wp_cond_true h (h1 rfl C a w hN ⟨⟨h0, ι, g, gh⟩, hm, hl⟩)
theorem wQ {id : Nat} {c : Code} (h : rJ P N c (I5 id Q) r ks s) : rJ P N (.block id c) Q r ks s := by
 intro C a w hN g
 refine wp_block (wp_mono (h C a w hN g) ?_)
 rintro e a' w' ⟨s', ks', h1, h2⟩
 cases e with
 | exit i =>
  simp only [Exit.inBlock, I5] at h1 ⊢
  split
  ·rename_i hi; rw [if_pos hi] at h1; exact ⟨s', ks', h1, h2⟩
  ·rename_i hi; rw [if_neg hi] at h1; exact ⟨s', ks', h1, h2⟩
 | _ => exact ⟨s', ks', h1, h2⟩
theorem zT (h : Q .normal s ks) : rJ P N .skip Q r ks s := fun C a w _ g => wp_skip ⟨s, ks, h, g⟩
theorem FF {id : Nat} (h : Q (.exit id) s ks) : rJ P N (.exit id) Q r ks s := fun C a w _ g => wp_exit ⟨s, ks, h, g⟩
theorem G4 {σ : Type} {c : Code} (p : σ → Prop) (I : σ → AS) (J : σ → List Int) (μ : σ → Nat) (h0 : ∃ i, p i ∧ Le s (I i) ∧ J i = ks)
  (round : ∀ i, p i → rJ P N c (tJ (fun s' ks' => ∃ j, p j ∧ μ j < μ i ∧ Le s' (I j) ∧ J j = ks') Q) r (J i) (I i)) : rJ P N (.loop c) Q r ks s := by
 intro C a w hN g
 obtain ⟨i, h1, h2, h3⟩ := h0
 subst h3
 refine wp_loop (fun a w => ∃ i, p i ∧ GsM C (I i) r (J i) a w) (fun a w => oX fun n => ∃ i, p i ∧ GsM C (I i) r (J i) a w ∧ μ i = n) ⟨i, h1, ⟨h2 C a w g.g, g.m, g.l⟩⟩ ?_
 rintro a w ⟨i0, hp0, hg0⟩
 obtain ⟨⟨i, hp, hg, hm⟩, hmin⟩ := iY (S := fun n => ∃ i, p i ∧ GsM C (I i) r (J i) a w ∧ μ i = n) ⟨_, i0, hp0, hg0, rfl⟩
 refine wp_mono (round i hp C a w hN hg) ?_
 rintro e a' w' ⟨s', ks', h3, h4⟩
 cases e with
 | normal =>
  obtain ⟨j, q1, q2, q3, rfl⟩ := h3
  have h5 : GsM C (I j) r (J j) a' w' := ⟨q3 C a' w' h4.g, h4.m, h4.l⟩
  refine ⟨⟨j, q1, h5⟩, ?_⟩
  have := (iY (S := fun n => ∃ i, p i ∧ GsM C (I i) r (J i) a' w' ∧ μ i = n) ⟨_, j, q1, h5, rfl⟩).2 (μ j) ⟨j, q1, h5, rfl⟩
  omega
 | _ => exact ⟨s', ks', h3, h4⟩
theorem DL {σ : Type} {c : Code} {ts : List (Nat × AV)} {hs : List (Nat × Option (List AV))} {n : Nat} {z0 : Lo} (kl : List Nat) (kt : List (Nat × AV)) (js : List Nat) (kh : List (Nat × Option (List AV)))
  (ot : σ → List (Nat × AV)) (oh : σ → List (Nat × Option (List AV))) (J : σ → List Int) (p : σ → Prop) (μ : σ → Nat) (i0 : σ) (h0 : p i0) (hJ : J i0 = ks) (hk : DU kl ts = kt) (hj : F5 js hs = kh)
  (h1 : uO ts (ot i0)) (h2 : sG hs (oh i0))
  (round : ∀ i, p i → rJ P N c (tJ (fun s' ks' => ∃ j, p j ∧ μ j < μ i ∧ Le s' ⟨ot j ++ kt, oh j ++ kh, n, z0⟩ ∧ J j = ks') Q) r (J i) ⟨ot i ++ kt, oh i ++ kh, n, z0⟩) :
  rJ P N (.loop c) Q r ks ⟨ts, hs, n, z0⟩ := by
 subst hk hj
 exact G4 p (fun i => ⟨ot i ++ DU kl ts, oh i ++ F5 js hs, n, z0⟩) J μ ⟨i0, h0, Le.lit (pW h1 (nZ kl)) (qE h2 (uE js)) (Nat.le_refl _), hJ⟩ round
theorem rV {id : Nat} {l : List Oper} (h : EI P N l.toArray Q r ks l s) : rJ P N (.region id l.toArray false) Q r ks s :=
 fun C a w hN g => wp_region_lit (h C a w hN g)
variable {all : Array Oper}
theorem Kc {o : Oper} {a : Act} {w : World} {K K' : Act → World → Prop} {Q1 Q2 : Exit → Act → World → Prop} (h : ∀ a w, K a w → K' a w) (hq : ∀ e a w, Q1 e a w → e = .normal)
  (hh : o.wp P a w K Q1) : o.wp P a w K' Q2 := by
 have hL : ¬ LetsOut Q1 := fun ⟨a, w, q⟩ => by cases hq _ _ _ q
 unfold Oper.wp at *
 generalize (execOp a.eval o).run P w = z at *
 cases z with
 | ok n w' =>
  cases n <;> simp only [Oper.upon] at hh ⊢ <;>
   first
    | exact h _ _ hh
    | exact Calls.mono hh (fun e w'' he => by cases e <;> first | exact h _ _ he | (cases hq _ _ _ he) | exact absurd he hL)
    | exact Rows.mono hh (fun _ _ he => h _ _ he)
 | halt x w' => cases x <;> simp only [Oper.upon] at hh ⊢ <;> (cases hq _ _ _ hh)
theorem jN {Q1 Q2 : Exit → Act → World → Prop} {l2 : List Oper} (k : ∀ e a w, Q1 e a w → e = .normal ∧ wpList P all Q2 l2 a w) : ∀ (l1 : List Oper) (a : Act) (w : World), wpList P all Q1 l1 a w → wpList P all Q2 (l1 ++ l2) a w
 | [], a, w, h => (k _ _ _ h).2
 | o :: l1, a, w, h => by
  have hL : ¬ LetsOut Q1 := fun ⟨a, w, q⟩ => by cases (k _ _ _ q).1
  rw [List.cons_append]
  unfold wpList at h ⊢
  split
  ·rename_i hw
   rw [if_pos hw] at h
   rcases h with h | ⟨_, h⟩
   ·exact .inl (Kc (fun a w => jN k l1 a w) (fun e a w q => (k e a w q).1) h)
   ·exact absurd h hL
  ·rename_i hw; rw [if_neg hw] at h; exact jN k l1 _ _ h
theorem y7 {l1 l2 : List Oper} (h : RW P N all (fun e s' => e = .normal ∧ EI P N all Q r ks l2 s') .txt l1 s) : EI P N all Q r ks (l1 ++ l2) s := by
 intro C a w hN g
 obtain ⟨C', h1, h2, h3⟩ := g.base
 exact jN (fun e a' w' ⟨s', ⟨q1, q2⟩, q3⟩ => ⟨q1, q2 C a' w' hN (h3 _ _ _ q3)⟩) l1 a w (h C' a w (h1.trans hN) h2)
theorem HY (h : Q .normal s ks) : EI P N all Q r ks [] s := fun C a w _ g => wpList_nil ⟨s, ks, h, g⟩
variable {rest : List Oper} {ts : List (Nat × AV)} {hs : List (Nat × Option (List AV))} {n : Nat} {z0 : Lo} {d : Nat} {ty : TypeId} {pos : String} {af : Array Edge}
theorem Es {dst : Option Tmp} {op : Op} {j e : Nat} {want b : Bool} (hj : (all[j]?).bind (·.dst) = some e) (hb : lk s.ts e = some (.v (.bool b))) (hw : b = want) (h : EI P N all Q r ks (⟨dst, op, ty, pos, af, none⟩ :: rest) s) :
  EI P N all Q r ks (⟨dst, op, ty, pos, af, some (j, want)⟩ :: rest) s := by
 subst hw
 intro C a w hN g
 have h' := h C a w hN g
 obtain ⟨⟨h0, ι, g, gh⟩, hm, hl⟩ := g
 have hyl : yielded all a.tmps j = some b := by
  obtain ⟨y, hy, hr⟩ := g.tm e _ hb
  simp only [Rd] at hr
  subst hr
  simp [yielded, hj, hy]
 unfold wpList at h' ⊢
 simp only [Region.wanted, hyl, if_true, beq_self_eq_true] at h' ⊢
 exact h'
theorem pV {w : World} {mt kt et : TypeId} {es : Array MapEntry} {ck : Nat} {a : Int} (hu : P.underlying mt = some (.map kt et)) (hk : P.underlying kt = some (.int .i64)) (hz : (P.info? et).bind (·.zero) = some (.bool false))
  (hb : w.heap[r]? = some (.map es ck)) (hn : ∀ e ∈ es.toList, ∃ k, k ≠ a ∧ e.key = .int .i64 k) : (Instr.lookup mt (.map (some r)) (.int .i64 a) false).run P w = .ok (.bool false) w ∧ Instr.findNow (.int .i64) (.int .i64 a) es.toList 0 = some none := by
 have hkey : IsKey (.int .i64) (.int .i64 a) := by simp [IsKey]
 have hf : Instr.findNow (.int .i64) (.int .i64 a) es.toList 0 = some none := by
  rcases findNow_spec hkey es.toList 0 (fun x hx => by obtain ⟨k, _, h2⟩ := hn x hx; rw [h2]; simp [IsKey]) with ⟨h, _⟩ | ⟨j, e, _, h2, h3⟩
  ·exact h
  ·obtain ⟨k, h4, h5⟩ := hn e (List.mem_of_getElem? h2)
   rw [h5] at h3; cases h3; exact absurd rfl h4
 refine ⟨?_, hf⟩
 cases hi : P.info? et with
 | none => rw [hi] at hz; cases hz
 | some i =>
  rw [hi] at hz
  have hz2 : i.zero = some (.bool false) := hz
  simp [Instr.lookup, dI hu, Go.MapKept.run_getObj_map hb, run_checkKey hk hkey, run_findKey hk hf, zeroValue, typeInfo, hi, hz2, Result.andThen]
theorem BX {mt kt et : TypeId} {x y : Operand} {a : Int} (hu : P.underlying mt = some (.map kt et)) (hk : P.underlying kt = some (.int .i64)) (hz : (P.info? et).bind (·.zero) = some (.bool false))
  (hx : ev (lk ts) x = some (.v (.map (some r)))) (hy : ev (lk ts) y = some (.v (.int .i64 a))) (ha : a ∉ ks) (hN : Nat.blt d N = true) (kk : EI P N all Q r ks rest ⟨(d, .v (.bool false)) :: ts, hs, n, z0⟩) :
  EI P N all Q r ks (⟨some d, .lookup mt x y false, ty, pos, af, none⟩ :: rest) ⟨ts, hs, n, z0⟩ := by
 rintro C ac w hCN ⟨⟨h0, ι, g, gh⟩, ⟨es, ck, hm, hkk⟩, hl⟩
 refine wpList_plain rfl (fun K hK => ?_)
 have e1 := dE g hx
 have e2 := dE g hy
 simp only [Rd] at e1 e2
 have hr := (pV (P := P) hu hk hz hm (a := a) (fun e he => by obtain ⟨k, h1, h2⟩ := hkk e he; exact ⟨k, fun q => ha (q ▸ h1), h2⟩)).1
 have hop : (execOp ac.eval ⟨some d, .lookup mt x y false, ty, pos, af, none⟩).run P w = .ok (.value (.bool false)) w := by
  simp [execOp, e1, e2, hr]
 simp only [Oper.wp, hop, Oper.upon]
 refine hK _ _ (kk C _ _ hCN ⟨⟨h0, ι, ?_, gh⟩, ⟨es, ck, hm, hkk⟩, hl⟩)
 show TG C ι (lk ((d, _) :: ts)) _ _ _
 rw [iW]
 exact g.put (by have := eG hN; omega) (by simp [Rd])
theorem BM {mt kt et : TypeId} {x y z : Operand} {a : Int} (hu : P.underlying mt = some (.map kt et)) (hk : P.underlying kt = some (.int .i64)) (hz : (P.info? et).bind (·.zero) = some (.bool false))
  (hx : ev (lk ts) x = some (.v (.map (some r)))) (hy : ev (lk ts) y = some (.v (.int .i64 a))) (ha : a ∉ ks) (kk : EI P N all Q r (ks ++ [a]) rest ⟨ts, hs, n, z0⟩) :
  EI P N all Q r ks (⟨none, .mapUpdate mt x y z, ty, pos, af, none⟩ :: rest) ⟨ts, hs, n, z0⟩ := by
 rintro C ac w hCN ⟨⟨h0, ι, g, gh⟩, ⟨es, ck, hm, hkk⟩, hl⟩
 refine wpList_plain rfl (fun K hK => ?_)
 have e1 := dE g hx
 have e2 := dE g hy
 simp only [Rd] at e1 e2
 have hkey : IsKey (.int .i64) (.int .i64 a) := by simp [IsKey]
 have hf := (pV (P := P) hu hk hz hm (a := a) (fun e he => by obtain ⟨k, h1, h2⟩ := hkk e he; exact ⟨k, fun q => ha (q ▸ h1), h2⟩)).2
 let o2 : Obj := .map (es.push { key := .int .i64 a, val := ac.eval z, born := ck }) (ck + 1)
 let w2 : World := { w with heap := w.heap.setIfInBounds r o2 }
 have hop : (execOp ac.eval ⟨none, .mapUpdate mt x y z, ty, pos, af, none⟩).run P w = .ok .skip w2 := by
  simp [execOp, e1, e2, Instr.mapUpdate, dI hu, Go.MapKept.run_getObj_map hm, run_checkKey hk hkey, run_findKey hk hf, Go.MapKept.run_setObj_map _ hm, Result.andThen, w2, o2]
 obtain ⟨hs1, hs2⟩ := heap_set (o' := o2) hm
 have hne : ∀ b c e f, w.heap[b]? = some (.cells c e f) → b ≠ r := fun b c e f h q => by subst q; rw [hm] at h; cases h
 have hbs : ∀ b, rM w2 b = rM w b := fun b => by
  by_cases e : b = r
  ·subst e; show (match w2.heap[b]? with | some (.cells c _ _) => c.size | _ => 0) = _; rw [show w2.heap[b]? = some o2 from hs1]; simp [rM, hm, o2]
  ·exact nT (hs2 b e)
 have hcell : ∀ b o v, w.cell? ⟨b, o, none⟩ = some v → w2.cell? ⟨b, o, none⟩ = some v := fun b o v h => by
  have : b ≠ r := fun q => by subst q; rw [World.cell?] at h; simp [hm] at h
  rw [fG (hs2 b this)]; exact h
 have car : ∀ bad : Nat → Prop, Carry w bad ι w2 bad ι := fun bad => ⟨fun b o v h1 h2 => ⟨h1, hcell b o v h2⟩, fun _ _ h => h, fun b => Nat.le_of_eq (hbs b).symm⟩
 simp only [Oper.wp, hop, Oper.upon]
 refine hK _ _ (kk C _ _ hCN ⟨⟨h0, ι, ?_, ?_⟩, ⟨_, _, hs1, ?_⟩, hl⟩)
 ·exact g.carry (car _)
 ·refine ⟨fun id cs h => ?_, gh.sep, ⟨gh.fr.os, gh.fr.tape, gh.fr.output, by show C.w0.heap.size ≤ (w.heap.setIfInBounds r o2).size; rw [Array.size_setIfInBounds]; exact gh.fr.size, fun b hb hw => ?_, fun b => by rw [hbs]; exact gh.fr.bs b⟩, gh.ex, gh.fresh⟩
  ·rcases gh.obj id cs h with h1 | ⟨b', β', arr, e, h3, h4, h5, h6, h7, h8⟩
   ·exact .inl h1
   ·exact .inr ⟨b', β', arr, e, h3, by rw [show w2.heap[b']? = w.heap[b']? from hs2 b' (hne _ _ _ _ h4)]; exact h4, h5, RdC.carryB (car _) _ _ _ (fun o v hv => hcell b' o v hv) h6, h7, h8⟩
  ·rw [show w2.heap[b]? = w.heap[b]? from hs2 b (by omega)]; exact gh.fr.block b hb hw
 ·intro e he
  rw [Array.toList_push, List.mem_append, List.mem_singleton] at he
  rcases he with he | rfl
  ·obtain ⟨k, h1, h2⟩ := hkk e he; exact ⟨k, List.mem_append_left _ h1, h2⟩
  ·exact ⟨a, by simp, rfl⟩
theorem Gi {Q : Exit → AS → Prop} {id : Nat} {t : TypeId} {y : Code} (hN : Nat.blt d N = true)
  (h : ∀ r, EI P N (⟨some d, .makeMap t none, ty, pos, af, none⟩ :: rest).toArray (fun e s' ks' => e = .normal ∧ rJ P N y (fun e s' _ => Q e s') r ks' s') r [] rest ⟨(d, .v (.map (some r))) :: ts, hs, n, z0⟩) :
  AW P N (.seq (.region id (⟨some d, .makeMap t none, ty, pos, af, none⟩ :: rest).toArray false) y) Q ⟨ts, hs, n, z0⟩ := by
 rintro C ac w hCN ⟨h0, ι, g, gh⟩
 refine wp_seq (wp_region_lit (wpList_plain rfl (fun K hK => ?_)))
 have hop : (execOp ac.eval ⟨some d, .makeMap t none, ty, pos, af, none⟩).run P w = .ok (.value (.map (some w.heap.size))) (w.alloc (.map #[] 0)) := by
  simp [execOp, Instr.makeMap, newObj, Sem.run]
 have f : Fr (fun _ => False) w (w.alloc (.map #[] 0)) := by
  refine ⟨rfl, rfl, rfl, by simp, fun b hb _ => Below.heap_alloc w _ b hb, fun b => ?_⟩
  rcases Nat.lt_or_ge b w.heap.size with hb | hb
  ·rw [nT (Below.heap_alloc w _ b hb)]; exact Nat.le_refl _
  ·simp [rM, Array.getElem?_eq_none hb]
 obtain ⟨g2, c2⟩ := gh.ext f
 simp only [Oper.wp, hop, Oper.upon]
 refine hK _ _ ?_
 have hh := h w.heap.size C (ac.put (some d) (.map (some w.heap.size))) (w.alloc (.map #[] 0)) hCN ⟨⟨h0, ι, ?_, g2⟩, ⟨#[], 0, heap_alloc_new w _, by simp⟩, gh.fr.size⟩
 ·have := jN (l2 := []) (P := P) (Q2 := Exit.then (y.wp P (fun e a' w' => ∃ s', Q e s' ∧ Gs C s' a' w')) (fun e a' w' => ∃ s', Q e s' ∧ Gs C s' a' w')) (all := (⟨some d, .makeMap t none, ty, pos, af, none⟩ :: rest).toArray)
   (k := fun e a' w' ⟨s', ks', ⟨q1, q2⟩, q3⟩ => ⟨q1, by
    subst q1
    exact wpList_nil (wp_mono (q2 C a' w' hCN q3) (fun e a'' w'' ⟨s'', ks'', u1, u2⟩ => ⟨s'', u1, u2.g⟩))⟩) rest _ _ hh
  rw [List.append_nil] at this
  exact this
 ·show TG C ι (lk ((d, _) :: ts)) _ _ _
  rw [iW]
  exact (g.carry c2).put (by have := eG hN; omega) (by simp [Rd])
theorem GV {K K2 : AS → List Int → Prop} {id : Nat} (h : Q .normal s ks) : tJ K (tJ K2 (I5 id Q)) (.exit id) s ks := by
 have e : tJ K (tJ K2 (I5 id Q)) (.exit id) s ks = (if id = id then Q .normal s ks else Q (.exit id) s ks) := rfl
 rw [e, if_pos rfl]; exact h
theorem Gf {Q : Exit → AS → Prop} {id : Nat} {t : TypeId} {y : Code} (h : Stop (AW P N (.seq (.region id (⟨some d, .makeMap t none, ty, pos, af, none⟩ :: rest).toArray false) y) Q s)) :
  AW P N (.seq (.region id (⟨some d, .makeMap t none, ty, pos, af, none⟩ :: rest).toArray false) y) Q s := h
theorem JH {Q : Exit → AS → Prop} {c : Code} (h : AW P N c Q s) : Stop (AW P N c Q s) := h
theorem Ay {l : List Oper} (h : RW P N all (fun e s' => e = .normal ∧ Q e s' ks) .txt l s) : EI P N all Q r ks l s := by
 intro C a w hN g
 obtain ⟨C', h1, h2, h3⟩ := g.base
 have := jN (l2 := []) (P := P) (all := all) (Q1 := fun e a' w' => ∃ s', (e = .normal ∧ Q e s' ks) ∧ Gs C' s' a' w') (Q2 := fun e a' w' => ∃ s' ks', Q e s' ks' ∧ GsM C s' r ks' a' w')
  (k := fun e a' w' ⟨s', ⟨q1, q2⟩, q3⟩ => ⟨q1, by subst q1; exact wpList_nil ⟨s', ks, q2, h3 _ _ _ q3⟩⟩) l a w (h C' a w (h1.trans hN) h2)
 rwa [List.append_nil] at this
end
end Go.AL
namespace Go.AL
open Go.RowKit
set_option linter.unusedVariables false
section
variable {P : Program} {N : Nat} {Q : Exit → AS → Prop} {all : Array Oper} {rest : List Oper} {ts : List (Nat × AV)} {hs : List (Nat × Option (List AV))} {n : Nat} {z0 : Lo} {md : Md}
variable {d : Nat} {ty : TypeId} {pos : String} {af : Array Edge}
theorem jI {α : Type} {hα : Inhabited α} {f g : α → List AV} {xs : List α} {e id k j z : Nat} {t : TypeId} {x : Operand} {cs' : List AV} [ha : AgT P t true] [hz : SzT P t z] (hx : ev (lk ts) x = some (.optr id (0 + k * e + j)))
  (hH : cE hs id = some (aI f xs)) (hf : FlT f e) (hg : FE f g) (hk : k < xs.length) (hj : j + z ≤ e) (hc : ((g xs[k]!).drop j).take z = cs') (h0 : Nat.blt 0 z = true) (hN : Nat.blt d N = true) {md' : Md} [hmd : MdA md (rO x ++ rA (.optr id (0 + k * e + j))) [.inl d] md']
  (kk : RW P N all Q md' rest ⟨(d, .agg cs') :: ts, hs, n, z0⟩) : RW P N all Q md (⟨some d, .load t x, ty, pos, af, none⟩ :: rest) ⟨ts, hs, n, z0⟩ := by
 have hl : (g xs[k]!).length = e := by rw [← hg.pf]; exact hf.pf _
 subst hc
 refine jT (cs := (aI f xs).drop (0 + k * e + j)) hx ha.pf hz.pf (by simp only [deref, hH, Option.map_some]) (cs' := ((g xs[k]!).drop j).take z) ?_ (by rw [List.length_take, List.length_drop, hl]; omega) (by have := eG h0; omega) (eG hN) (by rw [hmd.pf]; exact kk)
 rw [Nat.zero_add, ← List.drop_drop, fV f xs k hk, ← hg.pf, List.drop_append_of_le_length (by rw [hf.pf]; omega), List.take_append_of_le_length (by rw [List.length_drop, hf.pf]; omega)]
end
end Go.AL
