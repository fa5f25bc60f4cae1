/-
 A part of the proofs over this program: rules and contracts of its functions (the rules).
-/
import Derived.Test.YtckihjkcgfphmaaGreatP3A05
set_option linter.unusedVariables false
set_option linter.unusedSimpArgs false
namespace Go.AL
theorem Gp (k : Int) : kH k = -1 ∨ kH k = 3 ∨ kH k = 4 := by unfold kH fB; split; exact .inl rfl; split; exact .inr (.inl rfl); exact .inr (.inr rfl)
theorem oV (k : Int) : fB k = 3 ∨ fB k = 4 := by unfold fB; split; exact .inl rfl; exact .inr rfl
theorem Is (ts : List Int) (s : Mc) (v : Nat) (x : Sl) : (c5 ts s v x).2 = -1 ∨ (c5 ts s v x).2 = 3 ∨ (c5 ts s v x).2 = 4 := by
 unfold c5; split
 ·exact Gp _
 ·exact .inl rfl
theorem G8 {ts : List Int} {s : Mc} {x : Pnt} (h : x.op ≠ 11) : (dA ts s x).2 = -1 ∨ (dA ts s x).2 = 1 ∨ (dA ts s x).2 = 3 ∨ (dA ts s x).2 = 4 := by
 have p := fun s v y => Is ts s v y
 have p' : ∀ s v y, (c5 ts s v y).2 = -1 ∨ (c5 ts s v y).2 = 1 ∨ (c5 ts s v y).2 = 3 ∨ (c5 ts s v y).2 = 4 := fun s v y => by
  rcases p s v y with h | h | h
  ·exact .inl h
  ·exact .inr (.inr (.inl h))
  ·exact .inr (.inr (.inr h))
 have g : ∀ k, kH k = -1 ∨ kH k = 1 ∨ kH k = 3 ∨ kH k = 4 := fun k => by
  rcases Gp k with h | h | h
  ·exact .inl h
  ·exact .inr (.inr (.inl h))
  ·exact .inr (.inr (.inr h))
 have e : ∀ k, fB k = -1 ∨ fB k = 1 ∨ fB k = 3 ∨ fB k = 4 := fun k => .inr (.inr (oV k))
 unfold dA
 rw [if_neg h]
 split
 ·exact p' _ _ _
 split
 ·split
  ·exact .inr (.inl rfl)
  ·exact p' _ _ _
 split
 ·exact p' _ _ _
 split
 ·split
  ·exact p' _ _ _
  ·exact e _
 split
 ·split
  ·exact p' _ _ _
  ·exact e _
 split
 ·exact g _
 split
 ·exact g _
 exact .inl rfl
theorem mX (ts : List Int) : ∀ n v (s : Mc), (dP ts n v s).2 = 0 ∨ (dP ts n v s).2 = 3 ∨ (dP ts n v s).2 = 4
 | 0, _, _ => .inl rfl
 | n + 1, v, s => by
  unfold dP; split
  ·split
   ·exact mX ts n _ _
   ·exact .inr (oV _)
  ·exact mX ts n _ _
theorem sR {ts : List Int} {s : Mc} {x : Pnt} (h : x.op = 11) : dA ts s x = dP ts ts.length 0 s := by
 unfold dA; simp [h]
theorem Hz (m : List Cl) (x : Pt) : (iL m x).length = m.length := by unfold iL; split <;> simp
theorem mA (m : List Cl) (x : Pt) (b : Bool) : (dU m x b).length = m.length := by unfold dU; split <;> simp
theorem Cx (m : List Cl) (x : Pt) (b : Bool) : (kA m x b).length = m.length := by unfold kA; split <;> simp
theorem HO (m : List Cl) (x : Pt) (v : Int) : (nT m x v).length = m.length := by unfold nT; split <;> simp
end Go.AL

namespace Go.AL
structure PtA (ts : List Int) (x : Pnt) : Prop where
 n : x.op = 1 ∨ x.op = 2 → 0 ≤ x.n ∧ x.n ≤ 9
 t1 : x.op = 1 → ts[x.x.toNat]! = 1
 t2 : x.op = 2 ∨ x.op = 8 → ts[x.x.toNat]! = 2
 t3 : x.op = 3 → ts[x.x.toNat]! = ts[x.y.toNat]! ∧ x.x ≠ x.y
 t4 : x.op = 4 → ts[x.x.toNat]! = 3 ∧ x.x ≠ x.y ∧ 2 ≤ ts[x.y.toNat]!
 t5 : x.op = 5 → ts[x.x.toNat]! = 4 ∧ x.x ≠ x.y ∧ (ts[x.y.toNat]! = 2 ∨ ts[x.y.toNat]! = 4)
 t6 : x.op = 6 → ts[x.x.toNat]! = 1 ∧ 2 ≤ ts[x.y.toNat]!
 t7 : x.op = 7 → (ts[x.x.toNat]! = 2 ∨ ts[x.x.toNat]! = 4) ∧ ts[x.y.toNat]! = 1
theorem PtA.no {ts : List Int} {x : Pnt} (h : 9 ≤ x.op) : PtA ts x := ⟨fun e => by omega, fun e => by omega, fun e => by omega, fun e => by omega, fun e => by omega, fun e => by omega, fun e => by omega, fun e => by omega⟩
theorem BP {ts : List Int} {s : Stmt} (h : eX ts s = true) : s.op ≤ 8 := by
 unfold eX at h
 dsimp only at h
 apply Classical.byContradiction
 intro e
 rw [if_neg (by omega), if_neg (by omega)] at h
 split at h
 ·cases h
 ·rw [if_neg (by omega), if_neg (by omega), if_neg (by omega), if_neg (by omega), if_neg (by omega), if_neg (by omega)] at h; cases h
theorem Gv {ts : List Int} (s : Stmt) (h : eX ts s = true) : PtA ts ⟨s.op, s.x, s.y, s.n, []⟩ := by
 have g : ∀ v, 0 < gI ts v → gI ts v = ts[v.toNat]! := fun v => BA
 have gx := g s.x
 have gy := g s.y
 unfold eX at h
 dsimp only at h
 constructor <;> dsimp only <;> intro e
 case n => rcases e with e | e <;> simp [e] at h <;> omega
 case t1 => simp [e] at h; rw [← gx (by omega)]; omega
 case t2 => rcases e with e | e <;> simp [e] at h <;> (rw [← gx (by omega)]; omega)
 case t3 => simp [e] at h; rw [← gx (by omega), ← gy (by omega)]; exact ⟨h.2.1, h.2.2.2⟩
 case t4 => simp [e] at h; rw [← gx (by omega), ← gy (by omega)]; exact ⟨h.2.1, h.2.2.2, h.2.2.1⟩
 case t5 => simp [e] at h; rw [← gx (by omega), ← gy (by omega)]; exact ⟨h.2.1, h.2.2.2, h.2.2.1⟩
 case t6 => simp [e] at h; rw [← gx (by omega), ← gy (by omega)]; exact ⟨h.2.1, h.2.2⟩
 case t7 => simp [e] at h; rw [← gx (by omega), ← gy (by omega)]; exact ⟨h.2.1, h.2.2⟩
mutual
theorem LS {ts : List Int} : ∀ (s : Stmt) (d b : Nat), sK ts d s = true → ∀ x ∈ Dj b s, PtA ts x ∧ x.op ≠ 11 ∧ 0 < x.next.length
 | .mk op x y n th el, d, b, h => by
  simp only [sK] at h
  split at h
  ·rename_i hop
   simp only [Bool.and_eq_true] at h
   have hs := Gv _ h.2
   have ho := BP h.2
   simp only [Stmt.op, Stmt.x, Stmt.y, Stmt.n] at hs ho
   simp only [Dj, hop.1, hop.2, if_false, List.mem_singleton]
   rintro z rfl
   exact ⟨⟨hs.n, hs.t1, hs.t2, hs.t3, hs.t4, hs.t5, hs.t6, hs.t7⟩, by dsimp only; omega, by simp⟩
  ·rename_i hop
   cases d with
   | zero => cases h
   | succ d =>
    simp only [Bool.and_eq_true, decide_eq_true_eq] at h
    obtain ⟨⟨⟨_, _⟩, h1⟩, h2⟩ := h
    by_cases h9 : op = 9
    ·subst h9
     simp only [Dj, if_true, List.mem_append, List.mem_singleton]
     rintro z (((rfl | hz) | rfl) | hz)
     ·exact ⟨PtA.no (by simp), by simp, by simp⟩
     ·exact tY th d (b + 1) h1 z hz
     ·exact ⟨PtA.no (by simp), by simp, by simp⟩
     ·exact tY el d (b + 2 + eC th) h2 z hz
    ·have h10 : op = 10 := by omega
     subst h10
     simp only [Dj, if_true, show ((10 : Int) = 9) = False by simp, if_false, List.mem_append, List.mem_singleton]
     rintro z ((rfl | hz) | rfl)
     ·exact ⟨PtA.no (by simp), by simp, by simp⟩
     ·exact tY th d (b + 1) h1 z hz
     ·exact ⟨PtA.no (by simp), by simp, by simp⟩
theorem tY {ts : List Int} : ∀ (l : List Stmt) (d b : Nat), okL ts d l = true → ∀ x ∈ iM b l, PtA ts x ∧ x.op ≠ 11 ∧ 0 < x.next.length
 | [], d, b, h => by simp [iM]
 | s :: l, d, b, h => by
  simp only [okL, Bool.and_eq_true] at h
  simp only [iM, List.mem_append]
  rintro x (hx | hx)
  ·exact LS s d b h.1 x hx
  ·exact tY l d (b + wJ s) h.2 x hx
end
structure WA (ts : List Int) (pts : List Pnt) : Prop where
 a : ∀ i, i < pts.length → PtA ts pts[i]!
 e : ∀ i, i < pts.length → (pts[i]!.op = 11 ↔ i + 1 = pts.length)
 n : ∀ i, i < pts.length → pts[i]!.op ≠ 11 → 0 < pts[i]!.next.length
theorem WA.of_valid {p : Prg} (h : cS p = true) : WA p.types (dC p) := by
 unfold cS at h
 simp only [Bool.and_eq_true, decide_eq_true_eq] at h
 obtain ⟨⟨_, hl⟩, _⟩ := h
 have hlen := u6 p
 have hpl := dG p.body 0
 have lo : ∀ i, i + 1 < (dC p).length → (dC p)[i]! ∈ iM 0 p.body := fun i hi => by
  have h1 : i < (iM 0 p.body).length := by omega
  unfold dC
  rw [cT _ _ (by rw [List.length_append]; omega), List.getElem_append_left h1]
  exact List.getElem_mem h1
 have hi : ∀ i, i + 1 = (dC p).length → (dC p)[i]! = ⟨11, 0, 0, 0, []⟩ := fun i hi => by
  have h1 : i = (iM 0 p.body).length := by omega
  unfold dC
  rw [cT _ _ (by rw [List.length_append, List.length_singleton]; omega)]
  simp [h1]
 refine ⟨fun i h => ?_, fun i h => ⟨fun e => ?_, fun e => by rw [hi i e]⟩, fun i h ne => ?_⟩
 ·by_cases q : i + 1 < (dC p).length
  ·exact (tY p.body 4 0 hl _ (lo i q)).1
  ·rw [hi i (by omega)]; exact PtA.no (by simp)
 ·by_cases q : i + 1 < (dC p).length
  ·exact absurd e (tY p.body 4 0 hl _ (lo i q)).2.1
  ·omega
 ·by_cases q : i + 1 < (dC p).length
  ·exact (tY p.body 4 0 hl _ (lo i q)).2.2
  ·exact absurd (by rw [hi i (by omega)]) ne
end Go.AL

namespace Go.AL
theorem kO {xs : List Sl} {X : Int} (y : Sl) {v : Nat} (hX : 0 ≤ X ∧ X < xs.length) (hv : v < xs.length) : (xs.set X.toNat y)[v]! = if X = (v : Int) then y else xs[v]! := by
 rw [dQ]
 by_cases h : X = (v : Int)
 ·rw [if_pos h, if_pos ⟨by omega, hv⟩]
 ·rw [if_neg h, if_neg (by omega)]
theorem fC (ts : List Int) (s : Mc) (v : Nat) (x : Sl) : (c5 ts s v x).1.slots = s.slots.set v x := by
 unfold c5; split <;> rfl
theorem iS {ts : List Int} {s : Mc} {x : Pnt} (h : dI ts s x = false) {v : Nat} (hv : v < ts.length) (hu : cC ts x v ≠ 0) : s.slots[v]!.set = true := by
 unfold dI at h
 rw [List.any_eq_false] at h
 have h1 := h v (List.mem_range.2 hv)
 rw [decide_eq_true hu, Bool.true_and] at h1
 simpa using h1
theorem rZ {t : Int} : vW t = true ↔ t = 2 ∨ t = 4 := by unfold vW; simp
theorem Hu {ts : List Int} {s : Mc} {x : Pnt} (hl : s.slots.length = ts.length) (hu : dI ts s x = false) (A : PtA ts x) (hop : 1 ≤ x.op ∧ x.op ≠ 11) (hx : x.op ≤ 8 → 0 ≤ x.x ∧ x.x < ts.length) (hy : 3 ≤ x.op → x.op ≤ 7 → 0 ≤ x.y ∧ x.y < ts.length) (hgo : (dA ts s x).2 = -1) :
  ∃ y : Sl, y.set = true ∧ ∀ v, v < ts.length → (dA ts s x).1.slots[v]! = if bT x = (v : Int) then y else if cC ts x v = 2 then hU else s.slots[v]! := by
 have hk : ∀ k, fB k ≠ -1 := fun k => by rcases oV k with h | h <;> rw [h] <;> decide
 unfold dA at hgo ⊢
 by_cases h1 : x.op = 1
 ·rw [if_pos h1]
  have hxb := hx (by omega)
  refine ⟨⟨true, x.n, ⟨0, 0⟩⟩, rfl, fun v hv => ?_⟩
  rw [fC, kO _ (by omega) (by omega)]
  have e1 : bT x = x.x := by unfold bT; rw [if_pos (by omega)]
  have e2 : cC ts x v = 0 := by unfold cC; rw [if_neg (by omega), if_neg (by omega), if_neg (by omega), if_neg (by omega)]
  rw [e1, e2]; simp
 rw [if_neg h1] at hgo ⊢
 by_cases h2 : x.op = 2
 ·rw [if_pos h2] at hgo ⊢
  have hxb := hx (by omega)
  by_cases h200 : s.cells.length = 200
  ·rw [if_pos h200] at hgo; cases hgo
  ·rw [if_neg h200]
   refine ⟨⟨true, 0, ⟨s.cells.length, 0⟩⟩, rfl, fun v hv => ?_⟩
   rw [fC]
   dsimp only
   rw [kO _ (by omega) (by omega)]
   have e1 : bT x = x.x := by unfold bT; rw [if_pos (by omega)]
   have e2 : cC ts x v = 0 := by unfold cC; rw [if_neg (by omega), if_neg (by omega), if_neg (by omega), if_neg (by omega)]
   rw [e1, e2]; simp
 rw [if_neg h2] at hgo ⊢
 by_cases h3 : x.op = 3
 ·rw [if_pos h3]
  have hxb := hx (by omega)
  have hyb := hy (by omega) (by omega)
  have hne := (A.t3 h3).2
  have e1 : bT x = x.x := by unfold bT; rw [if_pos (by omega)]
  have hyn : ((x.y.toNat : Nat) : Int) = x.y := by omega
  have hys : s.slots[x.y.toNat]!.set = true := iS hu (v := x.y.toNat) (by omega) (by
   unfold cC; rw [if_pos h3, if_pos hyn]; split <;> decide)
  refine ⟨s.slots[x.y.toNat]!, hys, fun v hv => ?_⟩
  rw [fC]
  have e2 : cC ts x v = if (v : Int) = x.y then (if ts[x.y.toNat]! = 2 ∨ ts[x.y.toNat]! = 4 then 2 else 1) else 0 := by
   unfold cC; rw [if_pos h3]
   by_cases q : (v : Int) = x.y
   ·rw [if_pos q, if_pos q, q]
   ·rw [if_neg q, if_neg q]
  rw [e1, e2]
  by_cases ht : vW ts[x.y.toNat]! = true
  ·rw [if_pos ht]
   dsimp only
   rw [kO _ (by rw [List.length_set]; omega) (by rw [List.length_set]; omega), kO _ (by omega) (by omega), if_pos (rZ.1 ht)]
   by_cases q : x.x = (v : Int)
   ·rw [if_pos q, if_pos q]
   ·rw [if_neg q, if_neg q]
    by_cases q2 : x.y = (v : Int)
    ·rw [if_pos q2, if_pos q2.symm, if_pos rfl]
    ·have q3 : ¬ ((v : Int) = x.y) := fun h => q2 h.symm
     rw [if_neg q2, if_neg q3, if_neg (by decide : ¬ (0 : Int) = 2)]
  ·rw [if_neg ht, kO _ (by omega) (by omega), if_neg (fun h => ht (rZ.2 h))]
   by_cases q : x.x = (v : Int)
   ·rw [if_pos q, if_pos q]
   ·rw [if_neg q, if_neg q]
    by_cases q2 : (v : Int) = x.y
    ·rw [if_pos q2, if_neg (by decide)]
    ·rw [if_neg q2, if_neg (by decide)]
 rw [if_neg h3] at hgo ⊢
 by_cases h4 : x.op = 4 ∨ x.op = 5
 ·rw [if_pos h4] at hgo ⊢
  have hxb := hx (by omega)
  split at hgo
  ·rename_i hz
   rw [if_pos hz]
   refine ⟨⟨true, 0, oB s.cells s.slots[x.y.toNat]!.ptr (decide (x.op = 5))⟩, rfl, fun v hv => ?_⟩
   rw [fC]
   dsimp only
   rw [kO _ (by omega) (by omega)]
   have e1 : bT x = x.x := by unfold bT; rw [if_pos (by omega)]
   have e2 : cC ts x v ≠ 2 := by unfold cC; rw [if_neg (by omega), if_pos (by omega)]; split <;> decide
   rw [e1, if_neg e2]
  ·exact absurd hgo (hk _)
 rw [if_neg h4] at hgo ⊢
 by_cases h6 : x.op = 6
 ·rw [if_pos h6] at hgo ⊢
  have hxb := hx (by omega)
  split at hgo
  ·rename_i hz
   rw [if_pos hz]
   refine ⟨⟨true, nL s.cells s.slots[x.y.toNat]!.ptr, ⟨0, 0⟩⟩, rfl, fun v hv => ?_⟩
   rw [fC]
   dsimp only
   rw [kO _ (by omega) (by omega)]
   have e1 : bT x = x.x := by unfold bT; rw [if_pos (by omega)]
   have e2 : cC ts x v ≠ 2 := by unfold cC; rw [if_neg (by omega), if_pos (by omega)]; split <;> decide
   rw [e1, if_neg e2]
  ·exact absurd hgo (hk _)
 rw [if_neg h6] at hgo ⊢
 have e1 : bT x = -1 := by unfold bT; rw [if_neg (by omega)]
 have e3 : ∀ v : Nat, bT x ≠ (v : Int) := fun v => by rw [e1]; omega
 by_cases h7 : x.op = 7
 ·rw [if_pos h7]
  refine ⟨⟨true, 0, ⟨0, 0⟩⟩, rfl, fun v hv => ?_⟩
  have e2 : cC ts x v ≠ 2 := by unfold cC; rw [if_neg (by omega), if_neg (by omega), if_pos h7]; split; decide; split <;> decide
  rw [if_neg (e3 v), if_neg e2]
 rw [if_neg h7]
 by_cases h8 : x.op = 8
 ·rw [if_pos h8]
  have hxb := hx (by omega)
  refine ⟨⟨true, 0, ⟨0, 0⟩⟩, rfl, fun v hv => ?_⟩
  dsimp only
  rw [if_neg (e3 v), kO _ (by omega) (by omega)]
  have e2 : cC ts x v = if (v : Int) = x.x then 2 else 0 := by unfold cC; rw [if_neg (by omega), if_neg (by omega), if_neg (by omega), if_pos h8]
  rw [e2]
  by_cases q : x.x = (v : Int)
  ·rw [if_pos q, if_pos q.symm, if_pos rfl]
  ·have q3 : ¬ ((v : Int) = x.x) := fun h => q h.symm
   rw [if_neg q, if_neg q3, if_neg (by decide : ¬ (0 : Int) = 2)]
 ·rw [if_neg h8, if_neg hop.2]
  refine ⟨⟨true, 0, ⟨0, 0⟩⟩, rfl, fun v hv => ?_⟩
  have e2 : cC ts x v ≠ 2 := by unfold cC; rw [if_neg (by omega), if_neg (by omega), if_neg (by omega), if_neg (by omega)]; decide
  rw [if_neg (e3 v), if_neg e2]
section
variable {ts : List Int} {pts : List Pnt}
theorem WG.doS (w : WG ts pts) (A : WA ts pts) {a : Nat} (ha : a < pts.length) {s : Mc} (hl : s.slots.length = ts.length) (hu : dI ts s pts[a]! = false) (h11 : pts[a]!.op ≠ 11) (hgo : (dA ts s pts[a]!).2 = -1) :
  ∃ y : Sl, y.set = true ∧ ∀ v, v < ts.length → (dA ts s pts[a]!).1.slots[v]! = if bT pts[a]! = (v : Int) then y else if cC ts pts[a]! v = 2 then hU else s.slots[v]! :=
 Hu hl hu (A.a a ha) ⟨(w.op a ha).1, h11⟩ (fun h => ⟨(w.x a ha).1, (w.x a ha).2 h⟩) (fun h1 h2 => ⟨(w.y a ha).1, (w.y a ha).2 h1 h2⟩) hgo
theorem sD (w : WG ts pts) (A : WA ts pts) {a : Nat} (ha : a < pts.length) (h11 : pts[a]!.op ≠ 11) (cs : List Int) : e8 pts a (iI pts a cs).1 := by
 have key : ∀ j : Nat, j < pts[a]!.next.length → e8 pts a (pts[a]!.next[j]!).toNat := fun j hj => by
  have hm := cM pts[a]!.next j hj
  refine ⟨ha, ?_⟩
  rw [show (((pts[a]!.next[j]!).toNat : Nat) : Int) = pts[a]!.next[j]! by have := (w.nx a ha _ hm).1; omega]
  exact hm
 have h0 := A.n a ha h11
 unfold iI
 split
 ·rename_i h2
  split
  ·exact key 1 (by omega)
  ·rename_i c cs
   exact key _ (by omega)
 ·exact key 0 h0
def Jy (ts : List Int) (pts : List Pnt) (I : Nat → Mc → Prop) (r : Mc × Int × Nat) : Prop := r.2.1 = 1 ∨ ∃ s', r.2.2 < pts.length ∧ I r.2.2 s' ∧
 ((r.2.1 = 2 ∧ dI ts s' pts[r.2.2]! = true ∧ r.1 = s') ∨
  (dI ts s' pts[r.2.2]! = false ∧ (dA ts s' pts[r.2.2]!).2 ≠ -1 ∧ r.1 = (dA ts s' pts[r.2.2]!).1 ∧ r.2.1 = (dA ts s' pts[r.2.2]!).2))
theorem yT {I : Nat → Mc → Prop} {a : Nat} {l : List Nat} {s : Mc} {last : Nat} (ha : a < pts.length) (hs : I a s)
  (hrec : dI ts s pts[a]! = false → (dA ts s pts[a]!).2 = -1 → Jy ts pts I (iK ts pts l (dA ts s pts[a]!).1 a)) : Jy ts pts I (iK ts pts (a :: l) s last) := by
 by_cases h1 : dI ts s pts[a]! = true
 ·have e : iK ts pts (a :: l) s last = (s, 2, a) := by unfold iK; rw [if_pos h1]
  rw [e]; exact .inr ⟨s, ha, hs, .inl ⟨rfl, h1, rfl⟩⟩
 ·have h1' : dI ts s pts[a]! = false := by simpa using h1
  by_cases h2 : (dA ts s pts[a]!).2 = -1
  ·have e : iK ts pts (a :: l) s last = iK ts pts l (dA ts s pts[a]!).1 a := by
    conv => lhs; unfold iK
    rw [if_neg h1, if_pos h2]
   rw [e]; exact hrec h1' h2
  ·have e : iK ts pts (a :: l) s last = ((dA ts s pts[a]!).1, (dA ts s pts[a]!).2, a) := by
    unfold iK; rw [if_neg h1, if_neg h2]
   rw [e]; exact .inr ⟨s, ha, hs, .inr ⟨h1', h2, rfl, rfl⟩⟩
theorem o8 {I : Nat → Mc → Prop} {a : Nat} {s : Mc} {last : Nat} (ha : a < pts.length) (hs : I a s) (h11 : pts[a]!.op = 11) : Jy ts pts I (iK ts pts [a] s last) :=
 yT ha hs fun h1 h2 => by
  rw [sR h11] at h2
  rcases mX ts ts.length 0 s with q | q | q <;> (rw [q] at h2; cases h2)
theorem CF (w : WG ts pts) (A : WA ts pts) (I : Nat → Mc → Prop)
  (hI : ∀ a s k, a < pts.length → pts[a]!.op ≠ 11 → e8 pts a k → I a s → dI ts s pts[a]! = false → (dA ts s pts[a]!).2 = -1 → I k (dA ts s pts[a]!).1) :
  ∀ n a cs s last, a < pts.length → I a s → Jy ts pts I (iK ts pts (eJ pts n a cs).1 s last) := by
 intro n
 induction n with
 | zero =>
  intro a cs s last ha hs
  by_cases h11 : pts[a]!.op = 11
  ·have e : (eJ pts 0 a cs).1 = [a] := by unfold eJ; rw [if_pos h11]
   rw [e]; exact o8 ha hs h11
  ·have e : (eJ pts 0 a cs).1 = [] := by rw [eJ, if_neg h11]
   rw [e]; exact .inl rfl
 | succ n ih =>
  intro a cs s last ha hs
  by_cases h11 : pts[a]!.op = 11
  ·have e : (eJ pts (n + 1) a cs).1 = [a] := by unfold eJ; rw [if_pos h11]
   rw [e]; exact o8 ha hs h11
  ·have e : (eJ pts (n + 1) a cs).1 = a :: (eJ pts n (iI pts a cs).1 (iI pts a cs).2).1 := by rw [eJ, if_neg h11]
   have he := sD w A ha h11 cs
   rw [e]
   exact yT ha hs fun h1 h2 => ih _ _ _ _ (gG w he) (hI a s _ ha h11 he hs h1 h2)
end
end Go.AL

namespace Go.AL
section
variable {ts : List Int} {pts : List Pnt}
structure Vs (ts : List Int) (pts : List Pnt) (a : Nat) (s : Mc) : Prop where
 l : s.slots.length = ts.length
 u : ∀ v, v < ts.length → s.slots[v]!.set = false → Na ts pts (a, v)
 m : ∀ v, v < ts.length → s.slots[v]!.set = true → Mb ts pts (a, v)
theorem oU (ts : List Int) (s : Mc) (v : Nat) (x : Sl) : (c5 ts s v x).1.slots.length = s.slots.length := by rw [fC, List.length_set]
theorem xN (ts : List Int) : ∀ n v (s : Mc), (dP ts n v s).1.slots.length = s.slots.length
 | 0, _, _ => rfl
 | n + 1, v, s => by
  unfold dP; split
  ·split
   ·rw [xN ts n]; exact List.length_set
   ·rfl
  ·exact xN ts n _ _
theorem Lp (ts : List Int) (s : Mc) (x : Pnt) : (dA ts s x).1.slots.length = s.slots.length := by
 unfold dA
 split
 ·exact oU _ _ _ _
 split
 ·split
  ·rfl
  ·exact oU _ _ _ _
 split
 ·rw [oU]; split
  ·exact List.length_set
  ·rfl
 split
 ·split
  ·exact oU _ _ _ _
  ·rfl
 split
 ·split
  ·exact oU _ _ _ _
  ·rfl
 split
 ·rfl
 split
 ·exact List.length_set
 split
 ·exact xN _ _ _ _
 ·rfl
theorem Vs.start : Vs ts pts 0 (mc0 ts.length) := by
 refine ⟨by simp [mc0], fun v hv _ => .base ⟨hv, .inl rfl⟩, fun v hv h => ?_⟩
 have e : (mc0 ts.length).slots[v]! = hU := by
  show (List.replicate ts.length hU)[v]! = hU
  rw [cT _ _ (by simpa using hv)]; simp
 rw [e] at h; cases h
theorem Vs.step (w : WG ts pts) (A : WA ts pts) (a : Nat) (s : Mc) (k : Nat) (ha : a < pts.length) (h11 : pts[a]!.op ≠ 11) (he : e8 pts a k) (h : Vs ts pts a s) (hu : dI ts s pts[a]! = false) (hgo : (dA ts s pts[a]!).2 = -1) : Vs ts pts k (dA ts s pts[a]!).1 := by
 obtain ⟨y, hy, hs⟩ := w.doS A ha h.l hu h11 hgo
 refine ⟨by rw [Lp]; exact h.l, fun v hv hf => ?_, fun v hv ht => ?_⟩
 ·rw [hs v hv] at hf
  by_cases h1 : bT pts[a]! = (v : Int)
  ·rw [if_pos h1, hy] at hf; cases hf
  ·rw [if_neg h1] at hf
   by_cases h2 : cC ts pts[a]! v = 2
   ·exact .base ⟨hv, .inr ⟨a, he, h2, h1⟩⟩
   ·rw [if_neg h2] at hf
    exact .step (a := (a, v)) (h.u v hv hf) ⟨rfl, he, h1⟩
 ·rw [hs v hv] at ht
  by_cases h1 : bT pts[a]! = (v : Int)
  ·exact .base ⟨a, he, h1⟩
  ·rw [if_neg h1] at ht
   by_cases h2 : cC ts pts[a]! v = 2
   ·rw [if_pos h2] at ht; cases ht
   ·rw [if_neg h2] at ht
    exact .step (a := (a, v)) (h.m v hv ht) ⟨rfl, he, h2⟩
theorem sJ {s : Mc} {x : Pnt} (h : dI ts s x = true) : ∃ v, v < ts.length ∧ cC ts x v ≠ 0 ∧ s.slots[v]!.set = false := by
 unfold dI at h
 obtain ⟨v, hv, h2⟩ := List.any_eq_true.1 h
 rw [Bool.and_eq_true, decide_eq_true_eq] at h2
 exact ⟨v, List.mem_range.1 hv, h2.1, by simpa using h2.2⟩
end
end Go.AL

namespace Go.AL
theorem nU {α : Type} [Inhabited α] {l r : List α} {c : Nat} (h : c < l.length) : (l ++ r)[c]! = l[c]! := by
 rw [cT _ _ (by rw [List.length_append]; omega), cT _ _ h, List.getElem_append_left h]
theorem G9 {α : Type} [Inhabited α] {l : List α} {x : α} : (l ++ [x])[l.length]! = x := by
 rw [cT _ _ (by rw [List.length_append, List.length_singleton]; omega)]; simp
theorem J4 {stk : List Tg} (hl : 0 < stk.length) (h : stk[0]! = ⟨0, true⟩) : dD stk 0 = 0 := by
 cases stk with
 | nil => simp at hl
 | cons t l =>
  have ht : t = ⟨0, true⟩ := h
  subst ht
  unfold dD
  rw [List.findIdx?_cons]
  simp
def Hd (m : List Cl) : Prop := ∀ c, c < m.length → m[c]!.stk[0]! = ⟨0, true⟩
theorem G2 {m : List Cl} (h : OkM m) (hh : Hd m) {x : Pt} (hx : 0 ≤ x.cell ∧ x.cell < m.length) (ht : x.tag = 0) (ha : m[x.cell.toNat]!.alive = true) (wr : Bool) : cK m x wr = 0 := by
 have hc := h.at (k := x.cell.toNat) (by omega)
 have hs := hh x.cell.toNat (by omega)
 have h0 := J4 (by have := hc.l; omega) hs
 unfold cK
 rw [if_neg (fun q => q hx), if_neg (by rw [ha]; decide), ht, h0, if_neg (by decide), if_neg]
 rintro ⟨_, h2⟩
 have e : m[x.cell.toNat]!.stk[(0 : Int).toNat]! = m[x.cell.toNat]!.stk[0]! := rfl
 rw [e, hs] at h2; cases h2
theorem xF {m : List Cl} (hh : Hd m) {k : Nat} {c : Cl} (hc : c.stk[0]! = ⟨0, true⟩) : Hd (m.set k c) := fun j hj => by
 rw [List.length_set] at hj
 rw [dQ]
 split
 ·exact hc
 ·exact hh j hj
theorem rD {m : List Cl} (h : OkM m) (hh : Hd m) {k : Nat} (hk : k < m.length) (x : Pt) (wr : Bool) : (jE m[k]! x wr).stk[0]! = ⟨0, true⟩ := by
 have hl := (h.at hk).l
 show (fT m[k]!.stk _ wr)[0]! = _
 rw [(vS (by omega)).1]; exact hh k hk
theorem Hd.tch {m : List Cl} (h : OkM m) (hh : Hd m) (x : Pt) (wr : Bool) : Hd (dU m x wr) := by
 unfold dU; split
 ·rename_i hk; exact xF hh (rD h hh (eT hk).2.2 x wr)
 ·exact hh
theorem Hd.fr {m : List Cl} (h : OkM m) (hh : Hd m) (x : Pt) : Hd (iL m x) := by
 unfold iL; split
 ·rename_i hk; exact xF hh (rD h hh (eT hk).2.2 x true)
 ·exact hh
theorem Hd.wr {m : List Cl} (h : OkM m) (hh : Hd m) (x : Pt) (v : Int) : Hd (nT m x v) := by
 unfold nT
 by_cases hk : oO m x v = 0
 ·rw [if_pos hk]
  unfold oO at hk
  by_cases hv : 0 ≤ v ∧ v ≤ 9
  ·rw [if_pos hv] at hk; exact xF hh (rD h hh (eT hk).2.2 x true)
  ·rw [if_neg hv] at hk; cases hk
 ·rw [if_neg hk]; exact hh
theorem lX {m : List Cl} {x : Pt} {u : Bool} (h : kY m x u = 0) : cK m x u = 0 := by
 unfold kY at h
 by_cases h0 : cK m x u = 0
 ·exact h0
 ·rw [if_neg h0] at h; exact h
theorem Hd.ln {m : List Cl} (h : OkM m) (hh : Hd m) (x : Pt) (u : Bool) : Hd (kA m x u) := by
 unfold kA; split
 ·rename_i hk
  have h0 := eT (lX hk)
  have h1 := rD h hh h0.2.2 x u
  have h2 := ((h.at h0.2.2).tch x u).l
  refine xF hh ?_
  show ((jE m[x.cell.toNat]! x u).stk ++ [_])[0]! = _
  rw [nU (by omega)]; exact h1
 ·exact hh
theorem Hd.nw {m : List Cl} (hh : Hd m) (v : Int) : Hd (m ++ [n7 v]) := fun c hc => by
 rw [List.length_append, List.length_singleton] at hc
 by_cases q : c < m.length
 ·rw [nU q]; exact hh c q
 ·have e : c = m.length := by omega
  subst e
  rw [G9]; rfl
def sY (m : List Cl) (c : Nat) : Bool := m[c]!.alive
theorem rJ {m : List Cl} {k c : Nat} {x : Cl} (hc : c < m.length) : sY (m.set k x) c = if k = c then x.alive else sY m c := by
 unfold sY
 rw [dQ]
 by_cases h : k = c
 ·rw [if_pos ⟨h, hc⟩, if_pos h]
 ·rw [if_neg (fun q => h q.1), if_neg h]
theorem C8 (m : List Cl) (x : Pt) (wr : Bool) (c : Nat) (hc : c < m.length) : sY (dU m x wr) c = sY m c := by
 unfold dU; split
 ·rw [rJ hc]; split
  ·rename_i e; subst e; rfl
  ·rfl
 ·rfl
theorem Fl (m : List Cl) (x : Pt) (u : Bool) (c : Nat) (hc : c < m.length) : sY (kA m x u) c = sY m c := by
 unfold kA; split
 ·rw [rJ hc]; split
  ·rename_i e; subst e; rfl
  ·rfl
 ·rfl
theorem J8 (m : List Cl) (x : Pt) (v : Int) (c : Nat) (hc : c < m.length) : sY (nT m x v) c = sY m c := by
 unfold nT; split
 ·rw [rJ hc]; split
  ·rename_i e; subst e; rfl
  ·rfl
 ·rfl
theorem B0 {m : List Cl} {x : Pt} (hk : cK m x true = 0) (c : Nat) (hc : c < m.length) : sY (iL m x) c = if x.cell = (c : Int) then false else sY m c := by
 have h0 := eT hk
 unfold iL
 rw [if_pos hk, rJ hc]
 by_cases q : x.cell = (c : Int)
 ·rw [if_pos q, if_pos (by omega)]
 ·rw [if_neg q, if_neg (by omega)]
structure Own (ts : List Int) (s : Mc) (X : Option Nat) : Prop where
 k : OkS ts.length s
 h : Hd s.cells
 o : ∀ v, v < ts.length → ts[v]! = 2 → s.slots[v]!.set = true → 0 ≤ s.slots[v]!.ptr.cell ∧ s.slots[v]!.ptr.cell < s.cells.length ∧ s.slots[v]!.ptr.tag = 0 ∧ sY s.cells s.slots[v]!.ptr.cell.toNat = true
 d : ∀ v u, v < ts.length → u < ts.length → ts[v]! = 2 → ts[u]! = 2 → s.slots[v]!.set = true → s.slots[u]!.set = true → s.slots[v]!.ptr.cell = s.slots[u]!.ptr.cell → v = u
 a : ∀ c, c < s.cells.length → sY s.cells c = true → X = some c ∨ ∃ v, v < ts.length ∧ ts[v]! = 2 ∧ s.slots[v]!.set = true ∧ s.slots[v]!.ptr.cell = (c : Int)
 x : ∀ c, X = some c → c < s.cells.length ∧ sY s.cells c = true ∧ ∀ v, v < ts.length → ts[v]! = 2 → s.slots[v]!.set = true → s.slots[v]!.ptr.cell ≠ (c : Int)
theorem Own.k0 {ts : List Int} {s : Mc} {X : Option Nat} (w : Own ts s X) {v : Nat} (hv : v < ts.length) (h2 : ts[v]! = 2) (hs : s.slots[v]!.set = true) (wr : Bool) : cK s.cells s.slots[v]!.ptr wr = 0 := by
 obtain ⟨h1, h3, h4, h5⟩ := w.o v hv h2 hs
 exact G2 w.k.m w.h ⟨h1, h3⟩ h4 h5 wr
theorem Own.cells {ts : List Int} {s : Mc} {X : Option Nat} (w : Own ts s X) {m : List Cl} (hm : OkM m) (hh : Hd m) (hl : m.length = s.cells.length) (ha : ∀ c, c < s.cells.length → sY m c = sY s.cells c) (r : List Int) : Own ts ⟨s.slots, m, r⟩ X := by
 refine ⟨⟨hm, w.k.l⟩, hh, fun v hv h2 hs => ?_, w.d, fun c hc h => ?_, fun c hc => ?_⟩
 ·obtain ⟨h1, h3, h4, h5⟩ := w.o v hv h2 hs
  exact ⟨h1, by show _ < (m.length : Int); rw [hl]; exact h3, h4, by show sY m _ = true; rw [ha _ (show s.slots[v]!.ptr.cell.toNat < s.cells.length by omega)]; exact h5⟩
 ·have hc' : c < m.length := hc
  exact w.a c (by omega) (by rw [← ha c (by omega)]; exact h)
 ·obtain ⟨h1, h3, h4⟩ := w.x c hc
  exact ⟨by show c < m.length; omega, by show sY m c = true; rw [ha c h1]; exact h3, h4⟩
theorem Own.put0 {ts : List Int} {s : Mc} {X : Option Nat} (w : Own ts s X) {v : Nat} (h2 : ts[v]! ≠ 2) (y : Sl) : Own ts (c5 ts s v y).1 X ∧ (c5 ts s v y).2 = -1 := by
 have hl : (s.slots.set v y).length = ts.length := by rw [List.length_set]; exact w.k.l
 have e : ∀ u : Nat, ts[u]! = 2 → (s.slots.set v y)[u]! = s.slots[u]! := fun u hu => by
  rw [dQ, if_neg]; rintro ⟨q, _⟩; rw [q] at h2; exact h2 hu
 unfold c5
 rw [if_neg (fun h => h2 h.1)]
 refine ⟨⟨⟨w.k.m, hl⟩, w.h, fun u hu h hs => ?_, fun u u' hu hu' h h' hs hs' hc => ?_, fun c hc h => ?_, fun c hc => ?_⟩, rfl⟩
 ·dsimp only at hs ⊢; rw [e u h] at hs ⊢; exact w.o u hu h hs
 ·dsimp only at hs hs' hc; rw [e u h] at hs hc; rw [e u' h'] at hs' hc; exact w.d u u' hu hu' h h' hs hs' hc
 ·rcases w.a c hc h with q | ⟨u, q1, q2, q3, q4⟩
  ·exact .inl q
  ·exact .inr ⟨u, q1, q2, by dsimp only; rw [e u q2]; exact q3, by dsimp only; rw [e u q2]; exact q4⟩
 ·obtain ⟨h1, h3, h4⟩ := w.x c hc
  exact ⟨h1, h3, fun u q1 q2 q3 => by dsimp only at q3 ⊢; rw [e u q2] at q3 ⊢; exact h4 u q1 q2 q3⟩
theorem Own.free {ts : List Int} {s : Mc} {X : Option Nat} (w : Own ts s X) {v : Nat} (hv : v < ts.length) (h2 : ts[v]! = 2) (hs : s.slots[v]!.set = true) (y : Sl) (hy : y.set = false) (r : List Int) :
  Own ts ⟨s.slots.set v y, iL s.cells s.slots[v]!.ptr, r⟩ X := by
 have hk := w.k0 hv h2 hs true
 have hlen := Hz s.cells s.slots[v]!.ptr
 have hl : (s.slots.set v y).length = ts.length := by rw [List.length_set]; exact w.k.l
 have e : ∀ u : Nat, u ≠ v → (s.slots.set v y)[u]! = s.slots[u]! := fun u hu => by
  rw [dQ, if_neg]; rintro ⟨q, _⟩; exact hu q.symm
 have ev : (s.slots.set v y)[v]! = y := by rw [dQ, if_pos ⟨rfl, by rw [w.k.l]; exact hv⟩]
 have nev : ∀ u : Nat, (s.slots.set v y)[u]!.set = true → u ≠ v := fun u h q => by rw [q, ev, hy] at h; cases h
 obtain ⟨b1, b2, b3, b4⟩ := w.o v hv h2 hs
 refine ⟨⟨w.k.m.fr _, hl⟩, w.h.fr w.k.m _, fun u hu h hs' => ?_, fun u u' hu hu' h h' q q' hc => ?_, fun c hc h => ?_, fun c hc => ?_⟩
 ·have hne := nev u hs'
  dsimp only at hs' ⊢
  rw [e u hne] at hs' ⊢
  obtain ⟨c1, c2, c3, c4⟩ := w.o u hu h hs'
  refine ⟨c1, by rw [hlen]; exact c2, c3, ?_⟩
  rw [B0 hk _ (by omega), if_neg]
  ·exact c4
  ·intro q; exact hne (w.d u v hu hv h h2 hs' hs (by omega))
 ·have n1 := nev u q
  have n2 := nev u' q'
  dsimp only at q q' hc
  rw [e u n1] at q hc; rw [e u' n2] at q' hc
  exact w.d u u' hu hu' h h' q q' hc
 ·dsimp only at hc h
  rw [hlen] at hc
  rw [B0 hk c hc] at h
  by_cases q : s.slots[v]!.ptr.cell = (c : Int)
  ·rw [if_pos q] at h; cases h
  ·rw [if_neg q] at h
   rcases w.a c hc h with q2 | ⟨u, q1, q2, q3, q4⟩
   ·exact .inl q2
   ·have hne : u ≠ v := fun e' => q (by rw [← e']; exact q4)
    exact .inr ⟨u, q1, q2, by dsimp only; rw [e u hne]; exact q3, by dsimp only; rw [e u hne]; exact q4⟩
 ·obtain ⟨h1, h3, h4⟩ := w.x c hc
  refine ⟨by dsimp only; rw [hlen]; exact h1, ?_, fun u q1 q2 q3 => ?_⟩
  ·dsimp only; rw [B0 hk c h1, if_neg (h4 v hv h2 hs)]; exact h3
  ·have hne := nev u q3
   dsimp only at q3 ⊢
   rw [e u hne] at q3 ⊢
   exact h4 u q1 q2 q3
theorem Own.take {ts : List Int} {s : Mc} {c : Nat} (w : Own ts s (some c)) {v : Nat} (hv : v < ts.length) (h2 : ts[v]! = 2) (hs : s.slots[v]!.set = false) (y : Sl) (hy : y.set = true) (hp : y.ptr = ⟨c, 0⟩) : Own ts ⟨s.slots.set v y, s.cells, s.read⟩ none := by
 have hl : (s.slots.set v y).length = ts.length := by rw [List.length_set]; exact w.k.l
 have e : ∀ u : Nat, u ≠ v → (s.slots.set v y)[u]! = s.slots[u]! := fun u hu => by
  rw [dQ, if_neg]; rintro ⟨q, _⟩; exact hu q.symm
 have ev : (s.slots.set v y)[v]! = y := by rw [dQ, if_pos ⟨rfl, by rw [w.k.l]; exact hv⟩]
 obtain ⟨x1, x2, x3⟩ := w.x c rfl
 refine ⟨⟨w.k.m, hl⟩, w.h, fun u hu h hs' => ?_, fun u u' hu hu' h h' q q' hc => ?_, fun c' hc h => ?_, fun c' hc => by cases hc⟩
 ·by_cases q : u = v
  ·subst q; dsimp only; rw [ev, hp]
   exact ⟨by dsimp only; omega, by dsimp only; omega, rfl, by simpa using x2⟩
  ·dsimp only at hs' ⊢; rw [e u q] at hs' ⊢; exact w.o u hu h hs'
 ·dsimp only at q q' hc
  by_cases n1 : u = v
  ·by_cases n2 : u' = v
   ·rw [n1, n2]
   ·exfalso; rw [n1, ev, hp, e u' n2] at hc; rw [e u' n2] at q'; exact x3 u' hu' h' q' hc.symm
  ·by_cases n2 : u' = v
   ·exfalso; rw [n2, ev, hp, e u n1] at hc; rw [e u n1] at q; exact x3 u hu h q hc
   ·rw [e u n1] at q hc; rw [e u' n2] at q' hc; exact w.d u u' hu hu' h h' q q' hc
 ·dsimp only at hc h
  rcases w.a c' hc h with q2 | ⟨u, q1, q2, q3, q4⟩
  ·cases q2
   exact .inr ⟨v, hv, h2, by dsimp only; rw [ev]; exact hy, by dsimp only; rw [ev, hp]⟩
  ·have hne : u ≠ v := fun e' => by rw [e', hs] at q3; cases q3
   exact .inr ⟨u, q1, q2, by dsimp only; rw [e u hne]; exact q3, by dsimp only; rw [e u hne]; exact q4⟩
theorem FR {xs : List Sl} (v : Nat) (y z : Sl) : (xs.set v y).set v z = xs.set v z := by simp
theorem Own.putB {ts : List Int} {s : Mc} {c : Nat} (w : Own ts s (some c)) {v : Nat} (hv : v < ts.length) (h2 : ts[v]! = 2) (y : Sl) (hy : y.set = true) (hp : y.ptr = ⟨c, 0⟩) : Own ts (c5 ts s v y).1 none ∧ (c5 ts s v y).2 = -1 := by
 unfold c5
 by_cases hs : s.slots[v]!.set = true
 ·rw [if_pos ⟨h2, hs⟩]
  have hk := w.k0 hv h2 hs true
  have w1 := w.free hv h2 hs hU rfl s.read
  have w2 := w1.take hv h2 (by dsimp only; rw [dQ, if_pos ⟨rfl, by rw [w.k.l]; exact hv⟩]; rfl) y hy hp
  dsimp only at w2 ⊢
  rw [FR] at w2
  refine ⟨w2, ?_⟩
  unfold kH; rw [if_pos hk]
 ·rw [if_neg (fun h => hs h.2)]
  exact ⟨w.take hv h2 (by simpa using hs) y hy hp, rfl⟩
end Go.AL

namespace Go.AL
section
variable {ts : List Int} {s : Mc}
theorem Own.new (w : Own ts s none) {n : Int} (hn : 0 ≤ n ∧ n ≤ 9) (hl : s.cells.length ≠ 200) (r : List Int) : Own ts ⟨s.slots, s.cells ++ [n7 n], r⟩ (some s.cells.length) := by
 have hlen : (s.cells ++ [n7 n]).length = s.cells.length + 1 := by rw [List.length_append, List.length_singleton]
 have lo : ∀ c, c < s.cells.length → sY (s.cells ++ [n7 n]) c = sY s.cells c := fun c hc => by
  unfold sY
  rw [nU hc]
 have hi : sY (s.cells ++ [n7 n]) s.cells.length = true := by
  unfold sY; rw [G9]; rfl
 refine ⟨⟨w.k.m.nw hn (by have := w.k.m.l; omega), w.k.l⟩, w.h.nw n, fun v hv h2 hs => ?_, w.d, fun c hc h => ?_, fun c hc => ?_⟩
 ·obtain ⟨h1, h3, h4, h5⟩ := w.o v hv h2 hs
  exact ⟨h1, by dsimp only; omega, h4, by dsimp only; rw [lo _ (by omega)]; exact h5⟩
 ·dsimp only at hc h
  by_cases q : c < s.cells.length
  ·rw [lo c q] at h
   rcases w.a c q h with q2 | q2
   ·cases q2
   ·exact .inr q2
  ·exact .inl (by congr 1; omega)
 ·cases hc
  refine ⟨by dsimp only; omega, hi, fun v hv h2 hs => ?_⟩
  obtain ⟨h1, h3, h4, h5⟩ := w.o v hv h2 hs
  dsimp only; omega
theorem Own.give (w : Own ts s none) {v : Nat} (hv : v < ts.length) (h2 : ts[v]! = 2) (hs : s.slots[v]!.set = true) : Own ts ⟨s.slots.set v hU, s.cells, s.read⟩ (some s.slots[v]!.ptr.cell.toNat) := by
 have hl : (s.slots.set v hU).length = ts.length := by rw [List.length_set]; exact w.k.l
 have e : ∀ u : Nat, u ≠ v → (s.slots.set v hU)[u]! = s.slots[u]! := fun u hu => by
  rw [dQ, if_neg]; rintro ⟨q, _⟩; exact hu q.symm
 have ev : (s.slots.set v hU)[v]! = hU := by rw [dQ, if_pos ⟨rfl, by rw [w.k.l]; exact hv⟩]
 have nev : ∀ u : Nat, (s.slots.set v hU)[u]!.set = true → u ≠ v := fun u h q => by rw [q, ev] at h; cases h
 obtain ⟨b1, b2, b3, b4⟩ := w.o v hv h2 hs
 refine ⟨⟨w.k.m, hl⟩, w.h, fun u hu h hs' => ?_, fun u u' hu hu' h h' q q' hc => ?_, fun c hc h => ?_, fun c hc => ?_⟩
 ·have hne := nev u hs'
  dsimp only at hs' ⊢; rw [e u hne] at hs' ⊢; exact w.o u hu h hs'
 ·have n1 := nev u q
  have n2 := nev u' q'
  dsimp only at q q' hc
  rw [e u n1] at q hc; rw [e u' n2] at q' hc
  exact w.d u u' hu hu' h h' q q' hc
 ·rcases w.a c hc h with q2 | ⟨u, q1, q2, q3, q4⟩
  ·cases q2
  ·by_cases q : u = v
   ·subst q; exact .inl (by congr 1; omega)
   ·exact .inr ⟨u, q1, q2, by dsimp only; rw [e u q]; exact q3, by dsimp only; rw [e u q]; exact q4⟩
 ·cases hc
  refine ⟨by dsimp only; omega, b4, fun u q1 q2 q3 => ?_⟩
  have hne := nev u q3
  dsimp only at q3 ⊢
  rw [e u hne] at q3 ⊢
  intro q; exact hne (w.d u v q1 hv q2 h2 q3 hs (by omega))
theorem Own.clr (w : Own ts s none) {v : Nat} (h2 : ts[v]! ≠ 2) : Own ts ⟨s.slots.set v hU, s.cells, s.read⟩ none := by
 have h := (w.put0 h2 hU).1
 unfold c5 at h
 rwa [if_neg (fun h => h2 h.1)] at h
theorem Own.do (w : Own ts s none) {x : Pnt} (A : PtA ts x) (h11 : x.op ≠ 11) (hx : x.op ≤ 8 → 0 ≤ x.x ∧ x.x < ts.length) (hop : 1 ≤ x.op) (hy : 3 ≤ x.op → x.op ≤ 7 → 0 ≤ x.y ∧ x.y < ts.length) (hu : dI ts s x = false) : Own ts (dA ts s x).1 none := by
 unfold dA
 by_cases h1 : x.op = 1
 ·rw [if_pos h1]; exact (w.put0 (by rw [A.t1 h1]; decide) _).1
 rw [if_neg h1]
 by_cases h2 : x.op = 2
 ·rw [if_pos h2]
  split
  ·exact w
  ·rename_i h200
   have hxb := hx (by omega)
   exact ((w.new (A.n (.inr h2)) h200 s.read).putB (v := x.x.toNat) (by omega) (A.t2 (.inl h2)) _ rfl rfl).1
 rw [if_neg h2]
 by_cases h3 : x.op = 3
 ·rw [if_pos h3]
  have hxb := hx (by omega)
  have hyb := hy (by omega) (by omega)
  obtain ⟨ht, hne⟩ := A.t3 h3
  have hyn : ((x.y.toNat : Nat) : Int) = x.y := by omega
  have hys : s.slots[x.y.toNat]!.set = true := iS hu (v := x.y.toNat) (by omega) (by
   unfold cC; rw [if_pos h3, if_pos hyn]; split <;> decide)
  by_cases q2 : ts[x.y.toNat]! = 2
  ·rw [if_pos (rZ.2 (.inl q2))]
   have g := w.give (v := x.y.toNat) (by omega) q2 hys
   obtain ⟨b1, b2, b3, b4⟩ := w.o x.y.toNat (by omega) q2 hys
   refine (g.putB (v := x.x.toNat) (by omega) (by rw [ht]; exact q2) _ hys ?_).1
   generalize s.slots[x.y.toNat]! = z at b1 b3
   obtain ⟨zs, zn, zc, zt⟩ := z
   dsimp only at b1 b3 ⊢
   rw [b3, Int.toNat_of_nonneg b1]
  ·split
   ·exact ((w.clr (v := x.y.toNat) q2).put0 (by rw [ht]; exact q2) _).1
   ·exact (w.put0 (by rw [ht]; exact q2) _).1
 rw [if_neg h3]
 by_cases h4 : x.op = 4 ∨ x.op = 5
 ·rw [if_pos h4]
  have hxt : ts[x.x.toNat]! ≠ 2 := by
   rcases h4 with h4 | h4
   ·rw [(A.t4 h4).1]; decide
   ·rw [(A.t5 h4).1]; decide
  split
  ·exact ((w.cells (w.k.m.ln _ _) (w.h.ln w.k.m _ _) (Cx _ _ _) (fun c hc => Fl _ _ _ c hc) _).put0 hxt _).1
  ·exact w
 rw [if_neg h4]
 by_cases h6 : x.op = 6
 ·rw [if_pos h6]
  have hxt : ts[x.x.toNat]! ≠ 2 := by rw [(A.t6 h6).1]; decide
  split
  ·exact ((w.cells (w.k.m.tch _ _) (w.h.tch w.k.m _ _) (mA _ _ _) (fun c hc => C8 _ _ _ c hc) _).put0 hxt _).1
  ·exact w
 rw [if_neg h6]
 by_cases h7 : x.op = 7
 ·rw [if_pos h7]; exact w.cells (w.k.m.wr _ _) (w.h.wr w.k.m _ _) (HO _ _ _) (fun c hc => J8 _ _ _ c hc) _
 rw [if_neg h7]
 by_cases h8 : x.op = 8
 ·rw [if_pos h8]
  have hxb := hx (by omega)
  have hxn : ((x.x.toNat : Nat) : Int) = x.x := by omega
  have hxs : s.slots[x.x.toNat]!.set = true := iS hu (v := x.x.toNat) (by omega) (by
   unfold cC; rw [if_neg (by omega), if_neg (by omega), if_neg (by omega), if_pos h8, if_pos hxn]; decide)
  exact w.free (v := x.x.toNat) (by omega) (A.t2 (.inr h8)) hxs hU rfl _
 rw [if_neg h8, if_neg h11]
 exact w
end
theorem Own.fin {ts : List Int} : ∀ n v (s : Mc), Own ts s none → v + n = ts.length → (∀ u, u < v → ts[u]! = 2 → s.slots[u]!.set = false) →
  (dP ts n v s).2 = 0 ∧ Own ts (dP ts n v s).1 none ∧ ∀ u, u < ts.length → ts[u]! = 2 → (dP ts n v s).1.slots[u]!.set = false
 | 0, v, s, w, hv, h => ⟨rfl, w, fun u hu h2 => h u (by omega) h2⟩
 | n + 1, v, s, w, hv, h => by
  unfold dP
  by_cases q : ts[v]! = 2 ∧ s.slots[v]!.set = true
  ·rw [if_pos q, if_pos (w.k0 (by omega) q.1 q.2 true)]
   refine Own.fin n (v + 1) _ (w.free (by omega) q.1 q.2 hU rfl _) (by omega) fun u hu h2 => ?_
   dsimp only
   rw [dQ]
   by_cases e : v = u
   ·rw [if_pos ⟨e, by rw [w.k.l]; omega⟩]; rfl
   ·rw [if_neg (fun h => e h.1)]; exact h u (by omega) h2
  ·rw [if_neg q]
   refine Own.fin n (v + 1) s w (by omega) fun u hu h2 => ?_
   by_cases e : u = v
   ·subst e
    cases hs : s.slots[u]!.set with
    | false => rfl
    | true => exact absurd ⟨h2, hs⟩ q
   ·exact h u (by omega) h2
theorem Own.start (ts : List Int) : Own ts (mc0 ts.length) none := by
 have e : ∀ v, v < ts.length → (mc0 ts.length).slots[v]! = hU := fun v hv => by
  show (List.replicate ts.length hU)[v]! = hU
  rw [cT _ _ (by simpa using hv)]; simp
 refine ⟨OkS.mc0 _, fun c hc => ?_, fun v hv _ hs => ?_, fun v u hv _ _ _ hs => ?_, fun c hc => ?_, fun c hc => by cases hc⟩
 ·have : c < ([] : List Cl).length := hc
  simp at this
 ·rw [e v hv] at hs; cases hs
 ·rw [e v hv] at hs; cases hs
 ·have : c < ([] : List Cl).length := hc
  simp at this
theorem sZ (ts : List Int) : ∀ n v (s : Mc), (dP ts n v s).1.read = s.read
 | 0, _, _ => rfl
 | n + 1, v, s => by
  unfold dP; split
  ·split
   ·exact sZ ts n _ _
   ·rfl
  ·exact sZ ts n _ _
theorem k9 (ts : List Int) (s : Mc) (v : Nat) (x : Sl) : (c5 ts s v x).1.read = s.read := by unfold c5; split <;> rfl
end Go.AL

namespace Go.AL
structure Co where
 val : Int
 alive : Bool
 next : Int
 av : AV
instance : Inhabited Co := ⟨⟨0, false, 0, .imm 0 []⟩⟩
def fW (c : Co) : List AV := [iv c.val, bv c.alive, iv c.next, c.av]
instance : FlT fW 4 := ⟨fun _ => rfl⟩
instance : FE fW (fun c => [iv c.val, bv c.alive, iv c.next, c.av]) := ⟨fun _ => rfl⟩
def rC (c : Cl) : Co := ⟨c.val, c.alive, c.next, sl dL c.stk⟩
def eE (m : List Cl) (j : Nat) (X : AV) : List Co := (m.map rC).set j { rC m[j]! with av := X }
theorem k6 (m : List Cl) : aI fW (m.map rC) = aI c6 m := by
 unfold aI; rw [List.flatMap_map]; rfl
theorem eB {m : List Cl} {j : Nat} {X : AV} : (eE m j X).length = m.length := by unfold eE; rw [List.length_set, List.length_map]
theorem iR {m : List Cl} {j : Nat} {X : AV} (h : j < m.length) : (eE m j X)[j]! = ⟨m[j]!.val, m[j]!.alive, m[j]!.next, X⟩ := by
 unfold eE
 rw [cT _ _ (by rw [List.length_set, List.length_map]; exact h), List.getElem_set_self]; rfl
theorem j1 {m : List Cl} {j : Nat} {X : AV} (h : j < m.length) : aI fW (eE m j X) = aI c6 (m.take j) ++ ([iv m[j]!.val, bv m[j]!.alive, iv m[j]!.next] ++ X :: aI c6 (m.drop (j + 1))) := by
 unfold eE
 rw [List.set_eq_take_append_cons_drop, if_pos (by rw [List.length_map]; exact h), ← dT, ← List.map_take, k6, ← List.map_drop]
 congr 1
 show fW _ ++ aI fW _ = _
 rw [k6]; rfl
theorem wF {m : List Cl} {j : Nat} {X : AV} (h : j < m.length) : aI fW (eE m j X) = (aI c6 (m.take j) ++ [iv m[j]!.val, bv m[j]!.alive, iv m[j]!.next]) ++ X :: aI c6 (m.drop (j + 1)) := by
 rw [j1 h, List.append_assoc]
theorem zR {m : List Cl} {j : Nat} {r : List Tg} : aI fW (eE m j (sl dL r)) = aI c6 (m.set j { m[j]! with stk := r }) := by
 rw [← k6, List.map_set]; rfl
theorem xY {m : List Cl} {j : Nat} {X : AV} (h : j < m.length) : hO (aI c6 m) (0 + j * 4 + 3) [X] = aI fW (eE m j X) := by
 rw [← k6]
 have := fK (f := fW) (xs := m.map rC) (k := j) (j := 3) (new := [X]) (y := { rC m[j]! with av := X }) (by rw [List.length_map]; exact h) (by simp) (by
  have e : (m.map rC)[j]! = rC m[j]! := by rw [cT _ _ (by rw [List.length_map]; exact h), List.getElem_map, cT _ _ h]
  rw [e]; rfl)
 exact this
theorem uA {m : List Cl} {j : Nat} {X Y : AV} (h : j < m.length) : hO (aI fW (eE m j X)) (0 + j * 4 + 3) [Y] = aI fW (eE m j Y) := by
 have e : eE m j Y = (eE m j X).set j { rC m[j]! with av := Y } := by unfold eE; rw [List.set_set]
 rw [e]
 exact fK (by rw [eB]; exact h) (by simp) (by rw [iR h]; rfl)
theorem yB {m : List Cl} {j : Nat} {X : AV} {v : Int} (h : j < m.length) : hO (aI fW (eE m j X)) (0 + j * 4 + 2) [iv v] = aI fW (eE (m.set j { m[j]! with next := v }) j X) := by
 have e : eE (m.set j { m[j]! with next := v }) j X = (eE m j X).set j ⟨m[j]!.val, m[j]!.alive, v, X⟩ := by
  have e2 : (m.set j { m[j]! with next := v })[j]! = { m[j]! with next := v } := by rw [cT _ _ (by rw [List.length_set]; exact h), List.getElem_set_self]
  unfold eE
  rw [e2, List.map_set, List.set_set, List.set_set]; rfl
 rw [e]
 exact fK (by rw [eB]; exact h) (by simp) (by rw [iR h]; rfl)
theorem Le.cls {ts : List (Nat × AV)} {hs : List (Nat × Option (List AV))} {n : Nat} {z0 : Lo} {o q j k : Nat} {m : List Cl} {r : List Tg} (hj : cO hs o = some (aI fW (eE m j (.own q 0 k 2)))) (hq : cO hs q = some (aI dL r)) (hk : k = r.length) (hjm : j < m.length) (hoq : o ≠ q) :
  Le ⟨ts, hs, n, z0⟩ ⟨ts, (o, some (aI c6 (m.set j { m[j]! with stk := r }))) :: (q, none) :: hs, n, z0⟩ := by
 subst hk
 rw [wF hjm] at hj
 have h := Le.frzC (ts := ts) (n := n) (z0 := z0) _ hj hq hoq
 rw [← zR, wF hjm]; exact h
theorem kU {ρ : Nat → Option Nat} {m : List Cl} {j k i i' : Nat} (hr : ρ i = some i') : RnL ρ (aI fW (eE m j (.own i 0 k 2))) (aI fW (eE m j (.own i' 0 k 2))) := by
 by_cases h : j < m.length
 ·rw [j1 h, j1 h]
  exact RnL.app (RnL.purI inferInstance) (RnL.app (RnL.purI inferInstance) (RnL.cons (RnV.own hr) (RnL.purI inferInstance)))
 ·have e : ∀ X, eE m j X = m.map rC := fun X => List.set_eq_of_length_le (by rw [List.length_map]; omega)
  rw [e, e, k6]
  exact RnL.purI inferInstance
end Go.AL

namespace Go.AL
theorem Jt : ∀ {l : List Tg} {a b : Tg}, (l.map (·.id)).Nodup → a ∈ l → b ∈ l → a.id = b.id → a = b
 | [], _, _, _, h, _, _ => by cases h
 | t :: l, a, b, hn, ha, hb, e => by
  rw [List.map_cons, List.nodup_cons] at hn
  rcases List.mem_cons.1 ha with q | ha'
  ·rcases List.mem_cons.1 hb with q' | hb'
   ·rw [q, q']
   ·exact absurd (List.mem_map.2 ⟨b, hb', by rw [← e, q]⟩) hn.1
  ·rcases List.mem_cons.1 hb with q' | hb'
   ·exact absurd (List.mem_map.2 ⟨a, ha', by rw [e, q']⟩) hn.1
   ·exact Jt hn.2 ha' hb' e
theorem uK {stk : List Tg} {t : Tg} (hn : (stk.map (·.id)).Nodup) (h : t ∈ stk) : 0 ≤ dD stk t.id ∧ (dD stk t.id).toNat < stk.length ∧ stk[(dD stk t.id).toNat]! = t := by
 have h0 : 0 ≤ dD stk t.id := by
  apply Classical.byContradiction; intro q
  exact m9.1 (by omega : dD stk t.id < 0) t h rfl
 have hb := e9 stk t.id
 have hk : (dD stk t.id).toNat < stk.length := by omega
 exact ⟨h0, hk, Jt hn (cM _ _ hk) h (Df h0)⟩
theorem C3 {a b : Tg} {l : List Tg} (h : [a, b].Sublist l) : a ∈ l ∧ b ∈ l := ⟨h.subset (by simp), h.subset (by simp)⟩
theorem KN {a b : Tg} {l : List Tg} (hn : (l.map (·.id)).Nodup) (h : [a, b].Sublist l) : a.id ≠ b.id := by
 have := (h.map (·.id)).nodup hn
 simpa using this
theorem Jc {a b : Tg} {l : List Tg} (hn : (l.map (·.id)).Nodup) (hl : 0 < l.length) (h : [a, b].Sublist l) : b ≠ l[0]! := by
 cases l with
 | nil => cases h
 | cons t l =>
  intro q
  have e : (t :: l)[0]! = t := rfl
  rw [e] at q
  rw [q] at h
  rw [List.map_cons, List.nodup_cons] at hn
  have ht : t ∉ l := fun q => hn.1 (List.mem_map.2 ⟨t, q, rfl⟩)
  cases h with
  | cons _ h => exact ht (h.subset (by simp))
  | cons_cons _ h => exact ht (h.subset (by simp))
theorem Ja {b : Tg} {l : List Tg} (h : b ∈ l) (hne : b ≠ l[0]!) : [l[0]!, b].Sublist l := by
 cases l with
 | nil => cases h
 | cons t l =>
  have e : (t :: l)[0]! = t := rfl
  rw [e] at hne ⊢
  rcases List.mem_cons.1 h with h | h
  ·exact absurd h hne
  ·exact (List.singleton_sublist.2 h).cons_cons t
theorem DD {stk : List Tg} {k : Nat} {wr : Bool} (hk : k < stk.length) {t : Tg} (h : t ∈ stk) (hn : t ∉ fT stk k wr) : [stk[k]!, t].Sublist stk ∧ (wr = false → t.uq = true) := by
 have ht : t ∉ stk.take (k + 1) := fun q => hn (by unfold fT; split; exact q; exact List.mem_append_left _ q)
 have hd : t ∈ stk.drop (k + 1) := by
  rw [← List.take_append_drop (k + 1) stk] at h
  exact (List.mem_append.1 h).resolve_left ht
 refine ⟨?_, fun hw => ?_⟩
 ·have h1 : [stk[k]!].Sublist (stk.take (k + 1)) := List.singleton_sublist.2 (by rw [cX _ _ hk]; simp)
  have h2 := h1.append (List.singleton_sublist.2 hd)
  rwa [List.take_append_drop] at h2
 ·apply Classical.byContradiction; intro q
  apply hn
  unfold fT
  rw [if_neg (by rw [hw]; decide)]
  exact List.mem_append_right _ (List.mem_filter.2 ⟨hd, by simpa using q⟩)
theorem wT {stk : List Tg} {k : Nat} {wr : Bool} (hk : k < stk.length) {t : Tg} (h : t ∈ fT stk k wr) (hu : wr = false → t.uq = true) : t = stk[k]! ∨ [t, stk[k]!].Sublist stk := by
 have ht : t ∈ stk.take (k + 1) := by
  unfold fT at h
  split at h
  ·exact h
  ·rename_i hw
   rcases List.mem_append.1 h with h | h
   ·exact h
   ·have h1 := (List.mem_filter.1 h).2
    rw [hu (by simpa using hw)] at h1; cases h1
 have e := cX _ _ hk
 rw [e] at ht
 rcases List.mem_append.1 ht with ht | ht
 ·refine .inr (List.Sublist.trans ?_ (List.take_sublist (k + 1) stk))
  rw [e]
  exact (List.singleton_sublist.2 ht).append (List.Sublist.refl _)
 ·exact .inl (by simpa using ht)
theorem yP {a b t : Tg} {l : List Tg} (h : [a, b].Sublist (l ++ [t])) : [a, b].Sublist l ∨ (b = t ∧ a ∈ l) := by
 obtain ⟨x, y, e, hx, hy⟩ := List.sublist_append_iff.1 h
 match x, e with
 | [], e =>
  have : y = [a, b] := by simpa using e.symm
  rw [this] at hy; have := hy.length_le; simp at this
 | [c], e =>
  have e' : a = c ∧ [b] = y := by simpa using e
  rw [← e'.2] at hy
  refine .inr ⟨by simpa using hy.subset (List.mem_singleton_self b), ?_⟩
  rw [e'.1]; exact hx.subset (by simp)
 | [c, d], e =>
  have e' : a = c ∧ b = d := by simp at e; exact ⟨e.1, e.2.1⟩
  rw [e'.1, e'.2]; exact .inl hx
 | c :: d :: f :: z, e => simp at e
abbrev Ut (a b : Tg) : Prop := b.uq = true → a.uq = true
structure Sh (N : Int) (c : Cl) : Prop where
 n : c.next ≤ N
 l : (c.stk.length : Int) ≤ c.next
 p : c.stk.Pairwise Ut
def ShM (N : Int) (m : List Cl) : Prop := ∀ c ∈ m, Sh N c
theorem Sh.two {N : Int} {c : Cl} (h : Sh N c) {a b : Tg} (hs : [a, b].Sublist c.stk) (hb : b.uq = true) : a.uq = true := by
 have := h.p.sublist hs
 simp only [List.pairwise_cons, List.mem_singleton, forall_eq] at this
 exact this.1 hb
theorem Sh.mono {N N' : Int} {c : Cl} (h : Sh N c) (hN : N ≤ N') : Sh N' c := ⟨Int.le_trans h.n hN, h.l, h.p⟩
theorem ShM.mono {N N' : Int} {m : List Cl} (h : ShM N m) (hN : N ≤ N') : ShM N' m := fun c hc => (h c hc).mono hN
theorem Sh.tch {N : Int} {c : Cl} (h : Sh N c) (x : Pt) (wr : Bool) : Sh N (jE c x wr) := by
 have hs := tchS_sub (stk := c.stk) (k := (dD c.stk x.tag).toNat) (wr := wr)
 refine ⟨h.n, ?_, h.p.sublist hs⟩
 have h1 := hs.length_le
 have h2 := h.l
 show ((fT c.stk _ wr).length : Int) ≤ c.next
 omega
theorem ShM.set {N : Int} {m : List Cl} (h : ShM N m) {k : Nat} {c : Cl} (hc : Sh N c) : ShM N (m.set k c) :=
 fun x hx => (List.mem_or_eq_of_mem_set hx).elim (h x) (fun e => e ▸ hc)
theorem ShM.at {N : Int} {m : List Cl} (h : ShM N m) {k : Nat} (hk : k < m.length) : Sh N m[k]! := h _ (cM _ _ hk)
theorem ShM.tch {N : Int} {m : List Cl} (h : ShM N m) (x : Pt) (wr : Bool) : ShM N (dU m x wr) := by
 unfold dU; split
 ·rename_i hk; exact h.set ((h.at (eT hk).2.2).tch x wr)
 ·exact h
theorem ShM.fr {N : Int} {m : List Cl} (h : ShM N m) (x : Pt) : ShM N (iL m x) := by
 unfold iL; split
 ·rename_i hk
  have h1 := (h.at (eT hk).2.2).tch x true
  exact h.set ⟨h1.n, h1.l, h1.p⟩
 ·exact h
theorem ShM.wr {N : Int} {m : List Cl} (h : ShM N m) (x : Pt) (v : Int) : ShM N (nT m x v) := by
 unfold nT
 by_cases hk : oO m x v = 0
 ·rw [if_pos hk]
  unfold oO at hk
  by_cases hv : 0 ≤ v ∧ v ≤ 9
  ·rw [if_pos hv] at hk
   have h1 := (h.at (eT hk).2.2).tch x true
   exact h.set ⟨h1.n, h1.l, h1.p⟩
  ·rw [if_neg hv] at hk; cases hk
 ·rw [if_neg hk]; exact h
theorem ShM.nw {N : Int} {m : List Cl} (h : ShM N m) (hN : 1 ≤ N) (v : Int) : ShM N (m ++ [n7 v]) := fun c hc =>
 (List.mem_append.1 hc).elim (h c) (fun h => by
  rw [List.mem_singleton.1 h]
  exact ⟨hN, by show ((1 : Nat) : Int) ≤ 1; decide, by simp [n7]⟩)
theorem FT {m : List Cl} {x : Pt} {wr : Bool} (h : cK m x wr = 0) : m[x.cell.toNat]!.alive = true ∧ 0 ≤ dD m[x.cell.toNat]!.stk x.tag ∧ (wr = true → m[x.cell.toNat]!.stk[(dD m[x.cell.toNat]!.stk x.tag).toNat]!.uq = true) := by
 unfold cK at h
 split at h
 ·cases h
 split at h
 ·cases h
 rename_i ha
 split at h
 ·cases h
 rename_i ht
 split at h
 ·cases h
 rename_i hw
 refine ⟨by simpa using ha, by omega, fun e => ?_⟩
 simpa [e] using hw
theorem ShM.ln {N : Int} {m : List Cl} (h : ShM N m) (x : Pt) (u : Bool) : ShM (N + 1) (kA m x u) := by
 unfold kA
 by_cases hk : kY m x u = 0
 ·rw [if_pos hk]
  have h0 := lX hk
  have hx := eT h0
  have ht := FT h0
  have hc := (h.at hx.2.2)
  have h1 := hc.tch x u
  have hb := e9 m[x.cell.toNat]!.stk x.tag
  refine ShM.set (h.mono (by omega)) (Sh.mk ?_ ?_ ?_)
  ·have := h1.n; show (jE m[x.cell.toNat]! x u).next + 1 ≤ N + 1; omega
  ·have := h1.l; show (((jE m[x.cell.toNat]! x u).stk ++ [_]).length : Int) ≤ (jE m[x.cell.toNat]! x u).next + 1
   rw [List.length_append, List.length_singleton]; omega
  ·show ((jE m[x.cell.toNat]! x u).stk ++ [(⟨(jE m[x.cell.toNat]! x u).next, u⟩ : Tg)]).Pairwise Ut
   rw [List.pairwise_append]
   refine ⟨h1.p, by simp, fun a ha b hb' => ?_⟩
   rw [List.mem_singleton.1 hb']
   intro hu
   dsimp only at hu
   subst hu
   have hw := ht.2.2 rfl
   have hkk : (dD m[x.cell.toNat]!.stk x.tag).toNat < m[x.cell.toNat]!.stk.length := by omega
   have ha' : a ∈ fT m[x.cell.toNat]!.stk (dD m[x.cell.toNat]!.stk x.tag).toNat true := ha
   rcases wT hkk ha' (fun q => by cases q) with e | e
   ·rw [e]; exact hw
   ·exact hc.two e hw
 ·rw [if_neg hk]; exact h.mono (by omega)
end Go.AL

namespace Go.AL
theorem s7 {m : List Cl} {x : Pt} {wr : Bool} (hk : cK m x wr = 0) (c : Nat) : (dU m x wr)[c]! = if x.cell.toNat = c then jE m[c]! x wr else m[c]! := by
 have h := eT hk
 unfold dU
 rw [if_pos hk, dQ]
 by_cases q : x.cell.toNat = c
 ·rw [if_pos ⟨q, by omega⟩, if_pos q, q]
 ·rw [if_neg (fun h => q h.1), if_neg q]
theorem JK {m : List Cl} {x : Pt} (hk : cK m x true = 0) (c : Nat) (hc : x.cell.toNat ≠ c) : (iL m x)[c]! = m[c]! := by
 unfold iL
 rw [if_pos hk, dQ, if_neg (fun h => hc h.1)]
theorem CO {m : List Cl} {x : Pt} {u : Bool} (hk : kY m x u = 0) (c : Nat) : (kA m x u)[c]! = if x.cell.toNat = c then psh (jE m[c]! x u) u else m[c]! := by
 have h := eT (lX hk)
 unfold kA
 rw [if_pos hk, dQ]
 by_cases q : x.cell.toNat = c
 ·rw [if_pos ⟨q, by omega⟩, if_pos q, q]
 ·rw [if_neg (fun h => q h.1), if_neg q]
theorem E7 {m : List Cl} {x : Pt} {v : Int} (hk : oO m x v = 0) : cK m x true = 0 := by
 unfold oO at hk
 split at hk
 ·exact hk
 ·cases hk
theorem L5 {m : List Cl} {x : Pt} {v : Int} (hk : oO m x v = 0) (c : Nat) : (nT m x v)[c]!.alive = (dU m x true)[c]!.alive ∧ (nT m x v)[c]!.stk = (dU m x true)[c]!.stk := by
 have h0 := E7 hk
 have h := eT h0
 rw [s7 h0]
 unfold nT
 rw [if_pos hk, dQ]
 by_cases q : x.cell.toNat = c
 ·rw [if_pos ⟨q, by omega⟩, if_pos q, q]; exact ⟨rfl, rfl⟩
 ·rw [if_neg (fun h => q h.1), if_neg q]; exact ⟨rfl, rfl⟩
def jL (ts : List Int) (sl : List Sl) (v : Nat) : Tg := ⟨sl[v]!.ptr.tag, !decide (ts[v]! = 3)⟩
def gV (sl : List Sl) (v : Nat) : Nat := sl[v]!.ptr.cell.toNat
structure RfI (ts : List Int) (P : Nat → Prop) (G : Nat → Nat → Prop) (sl : List Sl) (m : List Cl) : Prop where
 l : ∀ v, v < ts.length → 3 ≤ ts[v]! → sl[v]!.set = true → P v → m[gV sl v]!.alive = true ∧ jL ts sl v ∈ m[gV sl v]!.stk
 c : ∀ v w, v < ts.length → w < ts.length → 3 ≤ ts[v]! → (ts[w]! = 2 ∨ ts[w]! = 4) → sl[v]!.set = true → sl[w]!.set = true → P v → gV sl v = gV sl w → [jL ts sl w, jL ts sl v].Sublist m[gV sl v]!.stk → G v w
section
variable {ts : List Int} {P P' : Nat → Prop} {G : Nat → Nat → Prop} {sl : List Sl} {m m' : List Cl} {N : Int}
theorem RfI.mono (R : RfI ts P G sl m) (h : ∀ v, P' v → P v) : RfI ts P' G sl m :=
 ⟨fun v h1 h2 h3 h4 => R.l v h1 h2 h3 (h v h4), fun v w h1 h2 h3 h4 h5 h6 h7 => R.c v w h1 h2 h3 h4 h5 h6 (h v h7)⟩
theorem RfI.cong (R : RfI ts P G sl m) (h : ∀ c : Nat, m'[c]!.alive = m[c]!.alive ∧ m'[c]!.stk = m[c]!.stk) : RfI ts P G sl m' := by
 refine ⟨fun v h1 h2 h3 h4 => ?_, fun v w h1 h2 h3 h4 h5 h6 h7 h8 h9 => ?_⟩
 ·rw [(h _).1, (h _).2]; exact R.l v h1 h2 h3 h4
 ·rw [(h _).2] at h9; exact R.c v w h1 h2 h3 h4 h5 h6 h7 h8 h9
theorem RfI.tch (hT : ∀ v, v < ts.length → ts[v]! ≤ 4) (hm : OkM m) (hs : ShM N m) (R : RfI ts P G sl m) (hP : ∀ v, P' v → P v) {u : Nat} {wr : Bool} (hu : u < ts.length) (h2 : 2 ≤ ts[u]!) (hset : sl[u]!.set = true)
  (hk : cK m sl[u]!.ptr wr = 0) (hin : jL ts sl u ∈ m[gV sl u]!.stk) (hwr : wr = true → ts[u]! ≠ 3) (hc : ∀ v, P' v → G v u → ¬ (wr = true ∨ ts[v]! = 4)) : RfI ts P' G sl (dU m sl[u]!.ptr wr) := by
 have hx := eT hk
 have hcc := hm.at hx.2.2
 obtain ⟨t1, t2, t3⟩ := uK hcc.d hin
 refine ⟨fun v h1 h2' h3 h4 => ?_, fun v w h1 h2' h3 h4 h5 h6 h7 h8 h9 => ?_⟩
 ·obtain ⟨a1, a2⟩ := R.l v h1 h2' h3 (hP v h4)
  rw [s7 hk]
  by_cases q : sl[u]!.ptr.cell.toNat = gV sl v
  ·rw [if_pos q]
   refine ⟨a1, ?_⟩
   rw [← q] at a2 ⊢
   apply Classical.byContradiction; intro hn
   have hn' : jL ts sl v ∉ fT m[sl[u]!.ptr.cell.toNat]!.stk (dD m[sl[u]!.ptr.cell.toNat]!.stk (jL ts sl u).id).toNat wr := hn
   obtain ⟨g1, g2⟩ := DD t2 a2 hn'
   have t3' : m[sl[u]!.ptr.cell.toNat]!.stk[(dD m[sl[u]!.ptr.cell.toNat]!.stk (jL ts sl u).id).toNat]! = jL ts sl u := t3
   rw [t3'] at g1
   by_cases q3 : ts[u]! = 3
   ·have hwf : wr = false := by cases wr with | false => rfl | true => exact absurd q3 (hwr rfl)
    have := (hs.at hx.2.2).two g1 (g2 hwf)
    simp [jL, q3] at this
   ·have hb := hT u hu
    have hg := R.c v u h1 hu h2' (by omega) h3 hset (hP v h4) q.symm (by rw [← q]; exact g1)
    refine hc v h4 hg ?_
    cases hw : wr with
    | true => exact .inl rfl
    | false =>
     have h5 := g2 hw
     have hb' := hT v h1
     have : ts[v]! ≠ 3 := by simpa [jL] using h5
     exact .inr (by omega)
  ·rw [if_neg q]; exact ⟨a1, a2⟩
 ·refine R.c v w h1 h2' h3 h4 h5 h6 (hP v h7) h8 (h9.trans ?_)
  rw [s7 hk]
  split
  ·exact tchS_sub
  ·exact List.Sublist.refl _
theorem RfI.fr (hd : Hd m) (R : RfI ts P G sl m) (hP : ∀ v, P' v → P v) (hf : ∀ v, v < ts.length → 3 ≤ ts[v]! → sl[v]!.set = true → 1 ≤ sl[v]!.ptr.tag) {u : Nat} (hu : u < ts.length) (h2 : ts[u]! = 2) (hset : sl[u]!.set = true)
  (hk : cK m sl[u]!.ptr true = 0) (h0 : sl[u]!.ptr.tag = 0) (hc : ∀ v, P' v → ¬ G v u) : RfI ts P' G sl (iL m sl[u]!.ptr) := by
 have hx := eT hk
 have e0 := hd _ hx.2.2
 have eu : jL ts sl u = ⟨0, true⟩ := by unfold jL; rw [h0, h2]; rfl
 have key : ∀ v, v < ts.length → 3 ≤ ts[v]! → sl[v]!.set = true → P' v → sl[u]!.ptr.cell.toNat ≠ gV sl v := fun v h1 h2' h3 h4 q => by
  obtain ⟨a1, a2⟩ := R.l v h1 h2' h3 (hP v h4)
  have hne : jL ts sl v ≠ m[gV sl v]!.stk[0]! := by
   rw [← q, e0]; intro e
   have e1 : (jL ts sl v).id = 0 := by rw [e]
   have e2 : sl[v]!.ptr.tag = 0 := e1
   have e3 := hf v h1 h2' h3
   omega
  have hs := Ja a2 hne
  refine hc v h4 (R.c v u h1 hu h2' (.inl h2) h3 hset (hP v h4) q.symm ?_)
  rw [eu, ← e0, show sl[u]!.ptr.cell.toNat = gV sl v from q]; exact hs
 refine ⟨fun v h1 h2' h3 h4 => ?_, fun v w h1 h2' h3 h4 h5 h6 h7 h8 h9 => ?_⟩
 ·rw [JK hk _ (key v h1 h2' h3 h4)]; exact R.l v h1 h2' h3 (hP v h4)
 ·rw [JK hk _ (key v h1 h3 h5 h7)] at h9; exact R.c v w h1 h2' h3 h4 h5 h6 (hP v h7) h8 h9
theorem RfI.ln {x : Pt} {b : Bool} (hk : kY m x b = 0) (R : RfI ts P G sl (dU m x b)) (hf : ∀ v, v < ts.length → 3 ≤ ts[v]! → sl[v]!.set = true → sl[v]!.ptr.tag < m[gV sl v]!.next) : RfI ts P G sl (kA m x b) := by
 have h0 := lX hk
 refine ⟨fun v h1 h2 h3 h4 => ?_, fun v w h1 h2 h3 h4 h5 h6 h7 h8 h9 => ?_⟩
 ·have hr := R.l v h1 h2 h3 h4
  rw [s7 h0] at hr
  rw [CO hk]
  split
  ·rename_i q
   rw [if_pos q] at hr
   exact ⟨hr.1, List.mem_append_left _ hr.2⟩
  ·rename_i q
   rw [if_neg q] at hr; exact hr
 ·refine R.c v w h1 h2 h3 h4 h5 h6 h7 h8 ?_
  rw [CO hk] at h9
  rw [s7 h0]
  split at h9
  ·rename_i q
   rw [if_pos q]
   have h9' : [jL ts sl w, jL ts sl v].Sublist ((jE m[gV sl v]! x b).stk ++ [⟨m[gV sl v]!.next, b⟩]) := h9
   rcases yP h9' with e | ⟨e, _⟩
   ·exact e
   ·exfalso
    have e1 : (jL ts sl v).id = m[gV sl v]!.next := by rw [e]
    have e2 : sl[v]!.ptr.tag = m[gV sl v]!.next := e1
    have := hf v h1 h3 h5
    omega
  ·rename_i q
   rw [if_neg q]; exact h9
theorem RfI.nw (R : RfI ts P G sl m) (hf : ∀ v, v < ts.length → 3 ≤ ts[v]! → sl[v]!.set = true → gV sl v < m.length) (z : Cl) : RfI ts P G sl (m ++ [z]) := by
 refine ⟨fun v h1 h2 h3 h4 => ?_, fun v w h1 h2 h3 h4 h5 h6 h7 h8 h9 => ?_⟩
 ·rw [nU (hf v h1 h2 h3)]; exact R.l v h1 h2 h3 h4
 ·rw [nU (hf v h1 h3 h5)] at h9; exact R.c v w h1 h2 h3 h4 h5 h6 h7 h8 h9
end
def Ac (ts : List Int) (pts : List Pnt) (a w : Nat) (wr : Bool) : Prop :=
 ((pts[a]!.op = 4 ∨ pts[a]!.op = 6) ∧ pts[a]!.y = (w : Int) ∧ wr = false) ∨ (pts[a]!.op = 5 ∧ pts[a]!.y = (w : Int) ∧ wr = true) ∨ ((pts[a]!.op = 7 ∨ pts[a]!.op = 8) ∧ pts[a]!.x = (w : Int) ∧ wr = true) ∨
 (pts[a]!.op = 3 ∧ vW ts[w]! = true ∧ pts[a]!.y = (w : Int) ∧ wr = true) ∨ (bT pts[a]! = (w : Int) ∧ ts[w]! = 2 ∧ Mb ts pts (a, w) ∧ wr = true)
def Ln (ts : List Int) (pts : List Pnt) (a v w : Nat) : Prop := ∃ L, JA ts pts (a, v, L) ∧ JS ts pts (a, L) ∧ pts[L]!.y = (w : Int) ∧ (ts[v]! = 4 → pts[L]!.op = 5)
def Kp (ts : List Int) (pts : List Pnt) (a v : Nat) : Prop := Lv ts pts a v ∧ bT pts[a]! ≠ (v : Int) ∧ cC ts pts[a]! v ≠ 2
def Cf (ts : List Int) (pts : List Pnt) (a L : Nat) : Prop := ∃ v w wr, Kp ts pts a v ∧ Ac ts pts a w wr ∧ JA ts pts (a, v, L) ∧ JS ts pts (a, L) ∧ pts[L]!.y = (w : Int) ∧ (wr = true ∨ pts[L]!.op = 5)
structure Bs (ts : List Int) (N : Int) (s : Mc) : Prop where
 w : Own ts s none
 i : ∀ v, v < ts.length → ts[v]! = 1 → 0 ≤ s.slots[v]!.num ∧ s.slots[v]!.num ≤ 9
 sm : ShM N s.cells
 f : ∀ v, v < ts.length → 3 ≤ ts[v]! → s.slots[v]!.set = true → 0 ≤ s.slots[v]!.ptr.cell ∧ s.slots[v]!.ptr.cell < s.cells.length ∧ 1 ≤ s.slots[v]!.ptr.tag ∧ s.slots[v]!.ptr.tag < s.cells[gV s.slots v]!.next
 d : ∀ v u, v < ts.length → u < ts.length → ts[v]! = 4 → ts[u]! = 4 → s.slots[v]!.set = true → s.slots[u]!.set = true → gV s.slots v = gV s.slots u → s.slots[v]!.ptr.tag = s.slots[u]!.ptr.tag → v = u
section
variable {ts : List Int} {pts : List Pnt} {N : Int} {a : Nat} {s : Mc}
theorem Kp.nd (w : WG ts pts) {v : Nat} (h : Kp ts pts a v) : Nd ts pts (a, v) := by
 obtain ⟨k, e, hk⟩ := h.1
 exact .step hk ⟨rfl, e, h.2.1⟩
theorem pV (hC : ∀ L, ¬ Cf ts pts a L) {u : Nat} {wr : Bool} (hA : Ac ts pts a u wr) : ∀ v, Kp ts pts a v → Ln ts pts a v u → ¬ (wr = true ∨ ts[v]! = 4) := by
 rintro v hv ⟨L, h1, h2, h3, h4⟩ h
 exact hC L ⟨v, u, wr, hv, hA, h1, h2, h3, h.elim .inl (fun q => .inr (h4 q))⟩
theorem RfI.use (w : WG ts pts) (B : Bs ts N s) (R : RfI ts (fun v => Nd ts pts (a, v)) (Ln ts pts a) s.slots s.cells) (ha : a < pts.length) (hu : dI ts s pts[a]! = false) {u : Nat} (hul : u < ts.length) (h2 : 2 ≤ ts[u]!) (huse : cC ts pts[a]! u ≠ 0) :
  s.slots[u]!.set = true ∧ 0 ≤ s.slots[u]!.ptr.cell ∧ s.slots[u]!.ptr.cell < s.cells.length ∧ s.cells[gV s.slots u]!.alive = true ∧ jL ts s.slots u ∈ s.cells[gV s.slots u]!.stk := by
 have hset := iS hu hul huse
 by_cases q : ts[u]! = 2
 ·obtain ⟨b1, b2, b3, b4⟩ := B.w.o u hul q hset
  refine ⟨hset, b1, b2, b4, ?_⟩
  have hc : gV s.slots u < s.cells.length := by unfold gV; omega
  have h0 := B.w.h _ hc
  have hl := (B.w.k.m.at hc).l
  have e : jL ts s.slots u = s.cells[gV s.slots u]!.stk[0]! := by rw [h0]; unfold jL; rw [b3, q]; rfl
  rw [e]; exact cM _ _ (by omega)
 ·obtain ⟨f1, f2, _⟩ := B.f u hul (by omega) hset
  obtain ⟨l1, l2⟩ := R.l u hul (by omega) hset (.base ⟨ha, hul, huse⟩)
  exact ⟨hset, f1, f2, l1, l2⟩
theorem Kz {m : List Cl} (hm : OkM m) {x : Pt} {b : Bool} {wr : Bool} (h1 : 0 ≤ x.cell ∧ x.cell < m.length) (h2 : m[x.cell.toNat]!.alive = true) (h3 : (⟨x.tag, b⟩ : Tg) ∈ m[x.cell.toNat]!.stk) (hw : wr = true → b = true) : cK m x wr = 0 := by
 have hc := hm.at (k := x.cell.toNat) (by omega)
 obtain ⟨t1, t2, t3⟩ := uK hc.d h3
 dsimp only at t1 t3
 unfold cK
 rw [if_neg (fun q => q h1), if_neg (by rw [h2]; decide), if_neg (by omega), if_neg]
 rintro ⟨e1, e2⟩
 rw [t3] at e2
 dsimp only at e2
 rw [hw e1] at e2; cases e2
theorem RfI.code (w : WG ts pts) (B : Bs ts N s) (R : RfI ts (fun v => Nd ts pts (a, v)) (Ln ts pts a) s.slots s.cells) (ha : a < pts.length) (hu : dI ts s pts[a]! = false) {u : Nat} (hul : u < ts.length) (h2 : 2 ≤ ts[u]!) (huse : cC ts pts[a]! u ≠ 0) {wr : Bool} (hw : wr = true → ts[u]! ≠ 3) : cK s.cells s.slots[u]!.ptr wr = 0 := by
 obtain ⟨h3, h4, h5, h6, h7⟩ := R.use w B ha hu hul h2 huse
 exact Kz B.w.k.m ⟨h4, h5⟩ h6 h7 (fun e => by have := hw e; simpa using this)
end
end Go.AL

namespace Go.AL
section
variable {ts : List Int} {pts : List Pnt} {N : Int} {a k : Nat} {s : Mc}
theorem J2 {m : List Cl} (h : OkM m) (c : Nat) : (m[c]!.stk.map (·.id)).Nodup := by
 by_cases q : c < m.length
 ·exact (h.at q).d
 ·rw [getElem!_neg m c q]; exact List.nodup_nil
theorem Ln.step (he : e8 pts a k) {v w : Nat} (h : Ln ts pts a v w) (hv : bT pts[a]! ≠ (v : Int)) (hv2 : cC ts pts[a]! v ≠ 2) (hw : bT pts[a]! ≠ (w : Int)) (hw2 : cC ts pts[a]! w ≠ 2) : Ln ts pts k v w := by
 obtain ⟨L, h1, h2, h3, h4⟩ := h
 refine ⟨L, .step h1 ⟨rfl, he, .inl ⟨hv, rfl, hv2⟩⟩, .step h2 ⟨rfl, he, ?_, ?_⟩, h3, h4⟩
 ·rw [h3]; exact hw2
 ·rw [h3]; exact hw
theorem RfI.fin (he : e8 pts a k) {sl sl' : List Sl} {m' : List Cl} {y : Sl} (hm : OkM m') (hs : ∀ v, v < ts.length → sl'[v]! = if bT pts[a]! = (v : Int) then y else if cC ts pts[a]! v = 2 then hU else sl[v]!)
  (R : RfI ts (Kp ts pts a) (Ln ts pts a) sl m')
  (hX : ∀ v : Nat, bT pts[a]! = (v : Int) → v < ts.length → 3 ≤ ts[v]! → m'[gV sl' v]!.alive = true ∧ jL ts sl' v ∈ m'[gV sl' v]!.stk)
  (hXw : ∀ v w : Nat, bT pts[a]! = (v : Int) → v < ts.length → w < ts.length → 3 ≤ ts[v]! → (ts[w]! = 2 ∨ ts[w]! = 4) → bT pts[a]! ≠ (w : Int) → cC ts pts[a]! w ≠ 2 → sl[w]!.set = true → sl'[w]! = sl[w]! → gV sl' v = gV sl' w → [jL ts sl' w, jL ts sl' v].Sublist m'[gV sl' v]!.stk → Ln ts pts k v w)
  (hvX : ∀ v w : Nat, bT pts[a]! = (w : Int) → v < ts.length → w < ts.length → 3 ≤ ts[v]! → (ts[w]! = 2 ∨ ts[w]! = 4) → Kp ts pts a v → sl[v]!.set = true → sl'[v]! = sl[v]! → gV sl' v = gV sl' w → ¬ [jL ts sl' w, jL ts sl' v].Sublist m'[gV sl' v]!.stk) :
  RfI ts (fun v => Nd ts pts (k, v)) (Ln ts pts k) sl' m' := by
 have old : ∀ v, v < ts.length → sl'[v]!.set = true → bT pts[a]! ≠ (v : Int) → cC ts pts[a]! v ≠ 2 ∧ sl'[v]! = sl[v]! := fun v hv h1 h2 => by
  have e := hs v hv
  rw [if_neg h2] at e
  by_cases q : cC ts pts[a]! v = 2
  ·rw [if_pos q] at e; rw [e] at h1; cases h1
  ·rw [if_neg q] at e; exact ⟨q, e⟩
 refine ⟨fun v h1 h2 h3 h4 => ?_, fun v w h1 h2 h3 h4 h5 h6 h7 h8 h9 => ?_⟩
 ·by_cases q : bT pts[a]! = (v : Int)
  ·exact hX v q h1 h2
  ·obtain ⟨q2, e⟩ := old v h1 h3 q
   have := R.l v h1 h2 (by rw [← e]; exact h3) ⟨⟨k, he, h4⟩, q, q2⟩
   unfold gV jL at this ⊢
   rw [e]; exact this
 ·by_cases q : bT pts[a]! = (v : Int)
  ·by_cases q' : bT pts[a]! = (w : Int)
   ·exfalso
    have e : v = w := by omega
    subst e
    exact KN (J2 hm _) h9 rfl
   ·obtain ⟨q2, e⟩ := old w h2 h6 q'
    exact hXw v w q h1 h2 h3 h4 q' q2 (by rw [← e]; exact h6) e h8 h9
  ·obtain ⟨q2, e⟩ := old v h1 h5 q
   have hk : Kp ts pts a v := ⟨⟨k, he, h7⟩, q, q2⟩
   by_cases q' : bT pts[a]! = (w : Int)
   ·exact absurd h9 (hvX v w q' h1 h2 h3 h4 hk (by rw [← e]; exact h5) e h8)
   ·obtain ⟨q3, e'⟩ := old w h2 h6 q'
    refine Ln.step he (R.c v w h1 h2 h3 h4 (by rw [← e]; exact h5) (by rw [← e']; exact h6) hk ?_ ?_) q q2 q' q3
    ·unfold gV at h8 ⊢; rw [e, e'] at h8; exact h8
    ·unfold gV jL at h9 ⊢; rw [e, e'] at h9; exact h9
theorem RfI.fin1 (he : e8 pts a k) {sl sl' : List Sl} {m' : List Cl} {y : Sl} (hm : OkM m') (hs : ∀ v, v < ts.length → sl'[v]! = if bT pts[a]! = (v : Int) then y else if cC ts pts[a]! v = 2 then hU else sl[v]!)
  (R : RfI ts (Kp ts pts a) (Ln ts pts a) sl m') (h1 : ∀ v : Nat, bT pts[a]! = (v : Int) → v < ts.length → ts[v]! = 1) : RfI ts (fun v => Nd ts pts (k, v)) (Ln ts pts k) sl' m' :=
 RfI.fin he hm hs R (fun v e hv h3 => by have := h1 v e hv; omega) (fun v w e hv _ h3 => by have := h1 v e hv; omega) (fun v w e _ hw _ h3 => by have := h1 w e hw; omega)
theorem oD (ts : List Int) (s : Mc) (v : Nat) (x : Sl) : (c5 ts s v x).1.cells = if ts[v]! = 2 ∧ s.slots[v]!.set = true then iL s.cells s.slots[v]!.ptr else s.cells := by
 unfold c5; split <;> rfl
theorem RfI.put (V : Vs ts pts a s) (B : Bs ts N s) {m : List Cl} (hm : OkM m) (hd : Hd m) (R : RfI ts (Kp ts pts a) (Ln ts pts a) s.slots m) (hl : s.cells.length ≤ m.length) (hal : ∀ c, c < s.cells.length → m[c]!.alive = s.cells[c]!.alive) (hC : ∀ L, ¬ Cf ts pts a L) {X : Nat} (hX : X < ts.length) (hset : bT pts[a]! = (X : Int)) :
  RfI ts (Kp ts pts a) (Ln ts pts a) s.slots (if ts[X]! = 2 ∧ s.slots[X]!.set = true then iL m s.slots[X]!.ptr else m) := by
 split
 ·rename_i q
  obtain ⟨b1, b2, b3, b4⟩ := B.w.o X hX q.1 q.2
  refine R.fr hd (fun _ h => h) (fun v h1 h2 h3 => (B.f v h1 h2 h3).2.2.1) hX q.1 q.2 (G2 hm hd ⟨b1, by omega⟩ b3 ?_ true) b3 fun v hv hg => ?_
  ·rw [hal _ (by omega)]; exact b4
  ·exact pV hC (.inr (.inr (.inr (.inr ⟨hset, q.1, V.m X hX q.2, rfl⟩)))) v hv hg (.inl rfl)
 ·exact R
end
end Go.AL

namespace Go.AL
section
variable {ts : List Int} {pts : List Pnt} {N : Int} {a k : Nat} {s : Mc}
theorem nN {x : Pnt} (h : 1 ≤ x.op ∧ x.op ≤ 6) : bT x = x.x := by unfold bT; rw [if_pos h]
theorem Gw {x : Pnt} (h : 7 ≤ x.op) : bT x = -1 := by unfold bT; rw [if_neg (by omega)]
theorem LY {c : Int} (h : kH c = -1) : c = 0 := by
 apply Classical.byContradiction; intro q
 unfold kH at h; rw [if_neg q] at h
 rcases oV c with e | e <;> (rw [e] at h; cases h)
theorem rH {c : Int} (h : fB c = -1) : False := by rcases oV c with e | e <;> (rw [e] at h; cases h)
theorem rG {x : Pnt} (h : x.op = 4 ∨ x.op = 5 ∨ x.op = 6) {v : Nat} (hv : (v : Int) = x.y) : cC ts x v ≠ 0 := by
 unfold cC; rw [if_neg (by omega), if_pos h, if_pos hv]; decide
theorem FJ {x : Pnt} (h : x.op = 3) {v : Nat} (hv : (v : Int) = x.y) : cC ts x v ≠ 0 := by
 unfold cC; rw [if_pos h, if_pos hv]; split <;> decide
theorem Lq {x : Pnt} (h : x.op = 3) {v : Nat} (hv : (v : Int) = x.y) (ht : ts[v]! = 2 ∨ ts[v]! = 4) : cC ts x v = 2 := by
 unfold cC; rw [if_pos h, if_pos hv]
 have e : (v : Int).toNat = v := by omega
 rw [e, if_pos ht]
theorem Jw {x : Pnt} (h : x.op = 7) {v : Nat} (hv : (v : Int) = x.x) : cC ts x v ≠ 0 := by
 unfold cC; rw [if_neg (by omega), if_neg (by omega), if_pos h, if_pos hv]; decide
theorem JC {x : Pnt} (h : x.op = 8) {v : Nat} (hv : (v : Int) = x.x) : cC ts x v ≠ 0 := by
 unfold cC; rw [if_neg (by omega), if_neg (by omega), if_neg (by omega), if_pos h, if_pos hv]; decide
theorem RfI.loan (w : WG ts pts) (A : WA ts pts) (he : e8 pts a k) (B : Bs ts N s) (R : RfI ts (fun v => Nd ts pts (a, v)) (Ln ts pts a) s.slots s.cells) (hC : ∀ L, ¬ Cf ts pts a L) (hu : dI ts s pts[a]! = false)
  {wr : Bool} (h4 : pts[a]!.op = 4 ∧ wr = false ∨ pts[a]!.op = 5 ∧ wr = true) {sl' : List Sl} {y : Sl} (hs : ∀ v, v < ts.length → sl'[v]! = if bT pts[a]! = (v : Int) then y else if cC ts pts[a]! v = 2 then hU else s.slots[v]!)
  (hk : kY s.cells s.slots[pts[a]!.y.toNat]!.ptr wr = 0) (hy : y.ptr = oB s.cells s.slots[pts[a]!.y.toNat]!.ptr wr) :
  RfI ts (fun v => Nd ts pts (k, v)) (Ln ts pts k) sl' (kA s.cells s.slots[pts[a]!.y.toNat]!.ptr wr) := by
 have ha := he.1
 have hT : ∀ v, v < ts.length → ts[v]! ≤ 4 := fun v hv => (w.ty v hv).2
 have PA := A.a a ha
 have hx := w.x a ha
 have hyb := w.y a ha
 have hyl : pts[a]!.y.toNat < ts.length := by have := hyb.2 (by omega) (by omega); omega
 have hyn : ((pts[a]!.y.toNat : Nat) : Int) = pts[a]!.y := by omega
 have hxn : ((pts[a]!.x.toNat : Nat) : Int) = pts[a]!.x := by omega
 have hst := nN (x := pts[a]!) (by omega)
 have hty : 2 ≤ ts[pts[a]!.y.toNat]! := by
  rcases h4 with ⟨h, _⟩ | ⟨h, _⟩
  ·exact (PA.t4 h).2.2
  ·have := (PA.t5 h).2.2; omega
 have hne : pts[a]!.x ≠ pts[a]!.y := by
  rcases h4 with ⟨h, _⟩ | ⟨h, _⟩
  ·exact (PA.t4 h).2.1
  ·exact (PA.t5 h).2.1
 have huse : cC ts pts[a]! (pts[a]!.y.toNat : Nat) ≠ 0 := rG (by omega) hyn
 obtain ⟨q1, q2, q3, q4, q5⟩ := R.use w B ha hu hyl hty huse
 have hwr : wr = true → ts[pts[a]!.y.toNat]! ≠ 3 := fun e => by
  rcases h4 with ⟨_, h⟩ | ⟨h, _⟩
  ·rw [e] at h; cases h
  ·have := (PA.t5 h).2.2; omega
 have hAc : Ac ts pts a pts[a]!.y.toNat wr := by
  rcases h4 with ⟨h, e⟩ | ⟨h, e⟩
  ·exact .inl ⟨.inl h, hyn.symm, e⟩
  ·exact .inr (.inl ⟨h, hyn.symm, e⟩)
 have htx : ∀ v : Nat, bT pts[a]! = (v : Int) → ts[v]! = 3 ∧ wr = false ∨ ts[v]! = 4 ∧ wr = true ∧ pts[a]!.op = 5 := fun v e => by
  have e' : pts[a]!.x.toNat = v := by rw [← hst, e]; omega
  rcases h4 with ⟨h, e2⟩ | ⟨h, e2⟩
  ·have := (PA.t4 h).1; rw [e'] at this; exact .inl ⟨this, e2⟩
  ·have := (PA.t5 h).1; rw [e'] at this; exact .inr ⟨this, e2, h⟩
 have hnt : ∀ v : Nat, cC ts pts[a]! v ≠ 2 := fun v => by
  unfold cC; rw [if_neg (by omega), if_pos (by omega)]; split <;> decide
 generalize hY : pts[a]!.y.toNat = Y at *
 have h0 := lX hk
 have hx0 := eT h0
 have hcY := B.w.k.m.at hx0.2.2
 obtain ⟨t1, t2, t3⟩ := uK hcY.d q5
 have R1 := R.tch hT B.w.k.m B.sm (fun v (h : Kp ts pts a v) => h.nd w) hyl hty q1 h0 q5 hwr (pV hC hAc)
 have R2 := R1.ln hk (fun v h1 h2 h3 => (B.f v h1 h2 h3).2.2.2)
 have hyp : y.ptr = ⟨s.slots[Y]!.ptr.cell, s.cells[s.slots[Y]!.ptr.cell.toNat]!.next⟩ := by rw [hy]; unfold oB; rw [if_pos hk]
 have new : ∀ v : Nat, bT pts[a]! = (v : Int) → v < ts.length → gV sl' v = s.slots[Y]!.ptr.cell.toNat ∧ jL ts sl' v = ⟨s.cells[s.slots[Y]!.ptr.cell.toNat]!.next, wr⟩ := fun v e hv => by
  have e1 := hs v hv
  rw [if_pos e] at e1
  unfold gV jL
  rw [e1, hyp]
  refine ⟨rfl, ?_⟩
  rcases htx v e with ⟨h, e2⟩ | ⟨h, e2, _⟩ <;> (rw [h, e2]; rfl)
 have frs : ∀ t ∈ (jE s.cells[s.slots[Y]!.ptr.cell.toNat]! s.slots[Y]!.ptr wr).stk, t.id < s.cells[s.slots[Y]!.ptr.cell.toNat]!.next := fun t ht => (hcY.i t (tchS_sub.subset ht)).2
 have hat := CO hk s.slots[Y]!.ptr.cell.toNat
 rw [if_pos rfl] at hat
 refine RfI.fin he (B.w.k.m.ln _ _) hs R2 (fun v e hv h3 => ?_) (fun v u e hv hul h3 hut hu1 hu2 hu3 hu4 hce hsub => ?_) (fun v u e hv hul h3 hut hkp hv3 hv4 hce hsub => ?_)
 ·obtain ⟨n1, n2⟩ := new v e hv
  rw [n1, n2, hat]
  exact ⟨q4, List.mem_append_right _ (List.mem_singleton_self _)⟩
 ·obtain ⟨n1, n2⟩ := new v e hv
  rw [n1, n2, hat] at hsub
  have hceu : gV s.slots u = s.slots[Y]!.ptr.cell.toNat := by rw [← n1, hce]; unfold gV; rw [hu4]
  have htu : jL ts sl' u = jL ts s.slots u := by unfold jL; rw [hu4]
  rw [htu] at hsub
  have hsub' : [jL ts s.slots u, ⟨s.cells[s.slots[Y]!.ptr.cell.toNat]!.next, wr⟩].Sublist ((jE s.cells[s.slots[Y]!.ptr.cell.toNat]! s.slots[Y]!.ptr wr).stk ++ [⟨s.cells[s.slots[Y]!.ptr.cell.toNat]!.next, wr⟩]) := hsub
  rcases yP hsub' with e2 | ⟨_, hin⟩
  ·have := frs _ (C3 e2).2
   dsimp only at this; omega
  ·have huq : (jL ts s.slots u).uq = true := by
    unfold jL; dsimp only
    rcases hut with h | h <;> (rw [h]; rfl)
   have t3' : s.cells[s.slots[Y]!.ptr.cell.toNat]!.stk[(dD s.cells[s.slots[Y]!.ptr.cell.toNat]!.stk s.slots[Y]!.ptr.tag).toNat]! = jL ts s.slots Y := t3
   rcases wT t2 hin (fun _ => huq) with e2 | e2
   ·rw [t3] at e2
    have eid : s.slots[u]!.ptr.tag = s.slots[Y]!.ptr.tag := by
     have : (jL ts s.slots u).id = (jL ts s.slots Y).id := by rw [e2]
     exact this
    have hY3 : ts[Y]! ≠ 3 := fun q => by
     rw [e2] at huq
     unfold jL at huq; dsimp only at huq; rw [q] at huq; cases huq
    have hTY := hT Y hyl
    have euY : u = Y := by
     by_cases qY : ts[Y]! = 2
     ·obtain ⟨b1, b2, b3, b4⟩ := B.w.o Y hyl qY q1
      rcases hut with hut | hut
      ·obtain ⟨c1, c2, c3, c4⟩ := B.w.o u hul hut hu3
       exact B.w.d u Y hul hyl hut qY hu3 q1 (by unfold gV at hceu; omega)
      ·have := (B.f u hul (by omega) hu3).2.2.1; omega
     ·have hY4 : ts[Y]! = 4 := by omega
      rcases hut with hut | hut
      ·obtain ⟨c1, c2, c3, c4⟩ := B.w.o u hul hut hu3
       have := (B.f Y hyl (by omega) q1).2.2.1; omega
      ·exact B.d u Y hul hyl hut hY4 hu3 q1 hceu eid
    subst euY
    have hln : fG pts[a]! = true := by unfold fG; rcases h4 with ⟨h, _⟩ | ⟨h, _⟩ <;> (rw [h]; rfl)
    refine ⟨a, .base ⟨he, hln, e⟩, .base ⟨he, hln⟩, hyn.symm, fun h => ?_⟩
    rcases htx v e with ⟨h5, _⟩ | ⟨_, _, h5⟩
    ·omega
    ·exact h5
   ·rw [t3] at e2
    have hY2 : ts[Y]! ≠ 2 := fun q => by
     obtain ⟨b1, b2, b3, b4⟩ := B.w.o Y hyl q q1
     have e0 := B.w.h _ hx0.2.2
     refine Jc hcY.d (by have := hcY.l; omega) e2 ?_
     rw [e0]; unfold jL; rw [b3, q]; rfl
    obtain ⟨L, l1, l2, l3, l4⟩ := R.c Y u hyl hul (by omega) hut q1 hu3 (.base ⟨ha, hyl, huse⟩) hceu.symm e2
    have hTY := hT Y hyl
    refine ⟨L, .step l1 ⟨rfl, he, .inr ⟨e, hyn, .inl ⟨?_, ?_⟩⟩⟩, .step l2 ⟨rfl, he, ?_, ?_⟩, l3, fun h => ?_⟩
    ·unfold fG; rcases h4 with ⟨h, _⟩ | ⟨h, _⟩ <;> (rw [h]; rfl)
    ·show nJ ts[Y]! = true
     unfold nJ; rw [Bool.or_eq_true, decide_eq_true_eq, decide_eq_true_eq]; omega
    ·rw [l3]; exact hu2
    ·rw [l3]; exact hu1
    ·refine l4 ?_
     rcases htx v e with ⟨h5, _⟩ | ⟨_, h5, _⟩
     ·omega
     ·have := hwr h5; omega
 ·obtain ⟨n1, n2⟩ := new u e hul
  rw [hce, n1, n2, hat] at hsub
  have hsub' : [⟨s.cells[s.slots[Y]!.ptr.cell.toNat]!.next, wr⟩, jL ts sl' v].Sublist ((jE s.cells[s.slots[Y]!.ptr.cell.toNat]! s.slots[Y]!.ptr wr).stk ++ [⟨s.cells[s.slots[Y]!.ptr.cell.toNat]!.next, wr⟩]) := hsub
  rcases yP hsub' with e2 | ⟨_, hin⟩
  ·have := frs _ (C3 e2).1
   dsimp only at this; omega
  ·have := frs _ hin
   dsimp only at this; omega
end
end Go.AL

namespace Go.AL
section
variable {ts : List Int} {pts : List Pnt} {N : Int} {a k : Nat} {s : Mc}
def yF (s : Mc) (x : Pnt) : Sl :=
 if x.op = 1 then ⟨true, x.n, ⟨0, 0⟩⟩ else if x.op = 2 then ⟨true, 0, ⟨s.cells.length, 0⟩⟩ else if x.op = 3 then s.slots[x.y.toNat]!
 else if x.op = 4 ∨ x.op = 5 then ⟨true, 0, oB s.cells s.slots[x.y.toNat]!.ptr (decide (x.op = 5))⟩ else ⟨true, nL s.cells s.slots[x.y.toNat]!.ptr, ⟨0, 0⟩⟩
theorem WG.doY (w : WG ts pts) (A : WA ts pts) {a : Nat} (ha : a < pts.length) {s : Mc} (hl : s.slots.length = ts.length) (hu : dI ts s pts[a]! = false) (h11 : pts[a]!.op ≠ 11) (hgo : (dA ts s pts[a]!).2 = -1) :
  ∀ v, v < ts.length → (dA ts s pts[a]!).1.slots[v]! = if bT pts[a]! = (v : Int) then yF s pts[a]! else if cC ts pts[a]! v = 2 then hU else s.slots[v]! := by
 obtain ⟨y, hy, hs⟩ := w.doS A ha hl hu h11 hgo
 have hx := w.x a ha
 have hxb := hx.2
 intro v hv
 by_cases q : bT pts[a]! = (v : Int)
 ·rw [if_pos q]
  have hop : 1 ≤ pts[a]!.op ∧ pts[a]!.op ≤ 6 := by
   apply Classical.byContradiction; intro h
   unfold bT at q; rw [if_neg h] at q; omega
  rw [nN hop] at q
  have hxv : pts[a]!.x.toNat = v := by omega
  have hh := hgo
  unfold dA at hh ⊢
  unfold yF
  by_cases h1 : pts[a]!.op = 1
  ·rw [if_pos h1, if_pos h1, fC, hxv, dQ, if_pos ⟨rfl, by omega⟩]
  rw [if_neg h1] at hh ⊢
  rw [if_neg h1]
  by_cases h2 : pts[a]!.op = 2
  ·rw [if_pos h2] at hh ⊢
   rw [if_pos h2]
   split at hh
   ·cases hh
   ·rename_i h200
    rw [if_neg h200, fC, hxv, dQ, if_pos ⟨rfl, by dsimp only; omega⟩]
  rw [if_neg h2] at hh ⊢
  rw [if_neg h2]
  by_cases h3 : pts[a]!.op = 3
  ·rw [if_pos h3, if_pos h3, fC, hxv, dQ, if_pos]
   refine ⟨rfl, ?_⟩
   split
   ·dsimp only; rw [List.length_set]; omega
   ·omega
  rw [if_neg h3] at hh ⊢
  rw [if_neg h3]
  by_cases h4 : pts[a]!.op = 4 ∨ pts[a]!.op = 5
  ·rw [if_pos h4] at hh ⊢
   rw [if_pos h4]
   split at hh
   ·rename_i hz
    rw [if_pos hz, fC, hxv, dQ, if_pos ⟨rfl, by dsimp only; omega⟩]
   ·exact (rH hh).elim
  rw [if_neg h4] at hh ⊢
  rw [if_neg h4]
  have h6 : pts[a]!.op = 6 := by omega
  rw [if_pos h6] at hh ⊢
  split at hh
  ·rename_i hz
   rw [if_pos hz, fC, hxv, dQ, if_pos ⟨rfl, by dsimp only; omega⟩]
  ·exact (rH hh).elim
 ·rw [hs v hv, if_neg q, if_neg q]
theorem JH {x : Pnt} (PA : PtA ts x) (h : x.op = 1) : (dA ts s x).1.cells = s.cells := by
 unfold dA; rw [if_pos h, oD, if_neg (fun q => by rw [PA.t1 h] at q; exact absurd q.1 (by decide))]
theorem JF {x : Pnt} (h : x.op = 2) (hgo : (dA ts s x).2 = -1) : (dA ts s x).1.cells = if ts[x.x.toNat]! = 2 ∧ s.slots[x.x.toNat]!.set = true then iL (s.cells ++ [n7 x.n]) s.slots[x.x.toNat]!.ptr else s.cells ++ [n7 x.n] := by
 unfold dA at hgo ⊢
 rw [if_neg (by omega), if_pos h] at hgo ⊢
 split at hgo
 ·cases hgo
 ·rename_i h200
  rw [if_neg h200, oD]
theorem Ju {x : Pnt} (h : x.op = 3) (hne : x.x.toNat ≠ x.y.toNat) : (dA ts s x).1.cells = if ts[x.x.toNat]! = 2 ∧ s.slots[x.x.toNat]!.set = true then iL s.cells s.slots[x.x.toNat]!.ptr else s.cells := by
 unfold dA
 rw [if_neg (by omega), if_neg (by omega), if_pos h, oD]
 split
 ·have e : (s.slots.set x.y.toNat hU)[x.x.toNat]! = s.slots[x.x.toNat]! := by rw [dQ, if_neg (fun q => hne q.1.symm)]
  dsimp only; rw [e]
 ·rfl
theorem F9 {x : Pnt} (PA : PtA ts x) (h : x.op = 4 ∨ x.op = 5) (hgo : (dA ts s x).2 = -1) : kY s.cells s.slots[x.y.toNat]!.ptr (decide (x.op = 5)) = 0 ∧ (dA ts s x).1.cells = kA s.cells s.slots[x.y.toNat]!.ptr (decide (x.op = 5)) := by
 have hxt : ts[x.x.toNat]! ≠ 2 := by
  rcases h with h4 | h4
  ·rw [(PA.t4 h4).1]; decide
  ·rw [(PA.t5 h4).1]; decide
 unfold dA at hgo ⊢
 rw [if_neg (by omega), if_neg (by omega), if_neg (by omega), if_pos h] at hgo ⊢
 split at hgo
 ·rename_i hz
  rw [if_pos hz, oD, if_neg (fun q => hxt q.1)]
  exact ⟨hz, rfl⟩
 ·exact (rH hgo).elim
theorem EZ {x : Pnt} (PA : PtA ts x) (h : x.op = 6) (hgo : (dA ts s x).2 = -1) : cK s.cells s.slots[x.y.toNat]!.ptr false = 0 ∧ (dA ts s x).1.cells = dU s.cells s.slots[x.y.toNat]!.ptr false := by
 have hxt : ts[x.x.toNat]! ≠ 2 := by rw [(PA.t6 h).1]; decide
 unfold dA at hgo ⊢
 rw [if_neg (by omega), if_neg (by omega), if_neg (by omega), if_neg (by omega), if_pos h] at hgo ⊢
 split at hgo
 ·rename_i hz
  rw [if_pos hz, oD, if_neg (fun q => hxt q.1)]
  exact ⟨hz, rfl⟩
 ·exact (rH hgo).elim
theorem JD {x : Pnt} (h : x.op = 7) (hgo : (dA ts s x).2 = -1) : oO s.cells s.slots[x.x.toNat]!.ptr s.slots[x.y.toNat]!.num = 0 ∧ (dA ts s x).1.cells = nT s.cells s.slots[x.x.toNat]!.ptr s.slots[x.y.toNat]!.num := by
 unfold dA at hgo ⊢
 rw [if_neg (by omega), if_neg (by omega), if_neg (by omega), if_neg (by omega), if_neg (by omega), if_pos h] at hgo ⊢
 exact ⟨LY hgo, rfl⟩
theorem Js {x : Pnt} (h : x.op = 8) (hgo : (dA ts s x).2 = -1) : cK s.cells s.slots[x.x.toNat]!.ptr true = 0 ∧ (dA ts s x).1.cells = iL s.cells s.slots[x.x.toNat]!.ptr := by
 unfold dA at hgo ⊢
 rw [if_neg (by omega), if_neg (by omega), if_neg (by omega), if_neg (by omega), if_neg (by omega), if_neg (by omega), if_pos h] at hgo ⊢
 exact ⟨LY hgo, rfl⟩
theorem Gk {x : Pnt} (h : 9 ≤ x.op) (h11 : x.op ≠ 11) : dA ts s x = (s, -1) := by
 unfold dA
 rw [if_neg (by omega), if_neg (by omega), if_neg (by omega), if_neg (by omega), if_neg (by omega), if_neg (by omega), if_neg (by omega), if_neg h11]
theorem RfI.step (w : WG ts pts) (A : WA ts pts) (he : e8 pts a k) (h11 : pts[a]!.op ≠ 11) (B : Bs ts N s) (V : Vs ts pts a s) (R : RfI ts (fun v => Nd ts pts (a, v)) (Ln ts pts a) s.slots s.cells) (hC : ∀ L, ¬ Cf ts pts a L) (hu : dI ts s pts[a]! = false) (hgo : (dA ts s pts[a]!).2 = -1) :
  RfI ts (fun v => Nd ts pts (k, v)) (Ln ts pts k) (dA ts s pts[a]!).1.slots (dA ts s pts[a]!).1.cells := by
 have ha := he.1
 have hT : ∀ v, v < ts.length → ts[v]! ≤ 4 := fun v hv => (w.ty v hv).2
 have PA := A.a a ha
 have hx := w.x a ha
 have hyb := w.y a ha
 have hop := w.op a ha
 have hs := w.doY A ha B.w.k.l hu h11 hgo
 have hmm : OkM (dA ts s pts[a]!).1.cells := (B.w.do PA h11 (fun h => ⟨hx.1, hx.2 h⟩) hop.1 (fun h1 h2 => ⟨hyb.1, hyb.2 h1 h2⟩) hu).k.m
 have hP : ∀ v, Kp ts pts a v → Nd ts pts (a, v) := fun v h => h.nd w
 have R0 : RfI ts (Kp ts pts a) (Ln ts pts a) s.slots s.cells := R.mono hP
 have hxn : ((pts[a]!.x.toNat : Nat) : Int) = pts[a]!.x := by omega
 have hyn : ((pts[a]!.y.toNat : Nat) : Int) = pts[a]!.y := by omega
 have hno : 7 ≤ pts[a]!.op → ∀ v : Nat, bT pts[a]! = (v : Int) → v < ts.length → ts[v]! = 1 := fun h v e => by rw [Gw h] at e; omega
 by_cases h1 : pts[a]!.op = 1
 ·rw [JH PA h1] at hmm ⊢
  refine RfI.fin1 he hmm hs R0 fun v q hv => ?_
  rw [nN (by omega)] at q
  rw [show v = pts[a]!.x.toNat by omega]; exact PA.t1 h1
 by_cases h2 : pts[a]!.op = 2
 ·have hxl : pts[a]!.x.toNat < ts.length := by have := hx.2 (by omega); omega
  have e2 := PA.t2 (.inl h2)
  have hset : bT pts[a]! = ((pts[a]!.x.toNat : Nat) : Int) := by rw [nN (by omega)]; omega
  have hv2 : ∀ v : Nat, bT pts[a]! = (v : Int) → v = pts[a]!.x.toNat := fun v e => by omega
  have R1 := R0.nw (fun v q1 q2 q3 => by have := B.f v q1 q2 q3; unfold gV; omega) (n7 pts[a]!.n)
  have h200 : s.cells.length ≠ 200 := fun q => by
   unfold dA at hgo; rw [if_neg h1, if_pos h2, if_pos q] at hgo; cases hgo
  have hm1 := B.w.k.m.nw (PA.n (.inr h2)) (by have := B.w.k.m.l; omega)
  have R2 := R1.put V B hm1 (B.w.h.nw _) (by rw [List.length_append]; omega) (fun c hc => by rw [nU hc]) hC hxl hset
  rw [JF h2 hgo] at hmm ⊢
  refine RfI.fin he hmm hs R2 (fun v e hv h3 => ?_) (fun v u e hv hul h3 => ?_) (fun v u e hv hul h3 hut hkp hv3 hv4 hce => ?_)
  ·rw [hv2 v e] at h3; omega
  ·rw [hv2 v e] at h3; omega
  ·exfalso
   have e1 := hs u hul
   rw [if_pos e] at e1
   have e3 : yF s pts[a]! = ⟨true, 0, ⟨s.cells.length, 0⟩⟩ := by unfold yF; rw [if_neg h1, if_pos h2]
   have := B.f v hv h3 hv3
   unfold gV at hce
   rw [hv4, e1, e3] at hce
   dsimp only at hce; omega
 by_cases h3 : pts[a]!.op = 3
 ·have hxl : pts[a]!.x.toNat < ts.length := by have := hx.2 (by omega); omega
  have hyl : pts[a]!.y.toNat < ts.length := by have := hyb.2 (by omega) (by omega); omega
  obtain ⟨et, hne⟩ := PA.t3 h3
  have hset : bT pts[a]! = ((pts[a]!.x.toNat : Nat) : Int) := by rw [nN (by omega)]; omega
  have hv2 : ∀ v : Nat, bT pts[a]! = (v : Int) → v = pts[a]!.x.toNat := fun v e => by omega
  have huse : cC ts pts[a]! (pts[a]!.y.toNat : Nat) ≠ 0 := FJ h3 hyn
  have R2 := R0.put V B B.w.k.m B.w.h (Nat.le_refl _) (fun _ _ => rfl) hC hxl hset
  have ey : yF s pts[a]! = s.slots[pts[a]!.y.toNat]! := by unfold yF; rw [if_neg h1, if_neg h2, if_pos h3]
  have new : ∀ v : Nat, bT pts[a]! = (v : Int) → v < ts.length → gV (dA ts s pts[a]!).1.slots v = gV s.slots pts[a]!.y.toNat ∧ jL ts (dA ts s pts[a]!).1.slots v = jL ts s.slots pts[a]!.y.toNat := fun v e hv => by
   have e1 := hs v hv
   rw [if_pos e, ey] at e1
   unfold gV jL
   rw [e1, hv2 v e, et]
   exact ⟨rfl, rfl⟩
  have ec := Ju (ts := ts) (s := s) h3 (fun q => hne (by omega))
  rw [ec] at hmm ⊢
  refine RfI.fin he hmm hs R2 (fun v e hv h4 => ?_) (fun v u e hv hul h4 hut hu1 hu2 hu3 hu4 hce hsub => ?_) (fun v u e hv hul h4 hut hkp hv3 hv4 hce hsub => ?_)
  ·obtain ⟨n1, n2⟩ := new v e hv
   rw [hv2 v e] at h4
   rw [n1, n2, if_neg (fun q => by omega)]
   obtain ⟨u1, u2, u3, u4, u5⟩ := R.use w B ha hu hyl (by omega) huse
   exact ⟨u4, u5⟩
  ·obtain ⟨n1, n2⟩ := new v e hv
   have h4' := h4
   rw [hv2 v e] at h4'
   obtain ⟨u1, u2, u3, u4, u5⟩ := R.use w B ha hu hyl (by omega) huse
   rw [if_neg (fun q => by omega), n1, n2] at hsub
   have htu : jL ts (dA ts s pts[a]!).1.slots u = jL ts s.slots u := by unfold jL; rw [hu4]
   have hcu : gV (dA ts s pts[a]!).1.slots u = gV s.slots u := by unfold gV; rw [hu4]
   rw [htu] at hsub
   obtain ⟨L, l1, l2, l3, l4⟩ := R.c pts[a]!.y.toNat u hyl hul (by omega) hut u1 hu3 (.base ⟨ha, hyl, huse⟩) (by rw [← n1, ← hcu]; exact hce) hsub
   refine ⟨L, .step l1 ⟨rfl, he, .inr ⟨e, hyn, .inr h3⟩⟩, .step l2 ⟨rfl, he, ?_, ?_⟩, l3, fun h => l4 ?_⟩
   ·rw [l3]; exact hu2
   ·rw [l3]; exact hu1
   ·rw [hv2 v e] at h; omega
  ·obtain ⟨n1, n2⟩ := new u e hul
   have hut' := hut
   rw [hv2 u e] at hut'
   have htv : jL ts (dA ts s pts[a]!).1.slots v = jL ts s.slots v := by unfold jL; rw [hv4]
   have hcv : gV (dA ts s pts[a]!).1.slots v = gV s.slots v := by unfold gV; rw [hv4]
   rw [n2, htv, hcv] at hsub
   have hset' := iS hu hyl huse
   have hl := R2.c v pts[a]!.y.toNat hv hyl h4 (by omega) hv3 hset' hkp (by rw [← hcv, ← n1]; exact hce) hsub
   exact pV hC (.inr (.inr (.inr (.inl ⟨h3, rZ.2 (by omega), hyn.symm, rfl⟩)))) v hkp hl (.inl rfl)
 by_cases h4 : pts[a]!.op = 4 ∨ pts[a]!.op = 5
 ·obtain ⟨hk, ec⟩ := F9 PA h4 hgo
  rw [ec]
  refine RfI.loan w A he B R hC hu ?_ hs hk ?_
  ·rcases h4 with h | h
   ·exact .inl ⟨h, by rw [h]; rfl⟩
   ·exact .inr ⟨h, by rw [h]; rfl⟩
  ·unfold yF; rw [if_neg h1, if_neg h2, if_neg h3, if_pos h4]
 by_cases h6 : pts[a]!.op = 6
 ·obtain ⟨hk, ec⟩ := EZ PA h6 hgo
  have hyl : pts[a]!.y.toNat < ts.length := by have := hyb.2 (by omega) (by omega); omega
  have huse : cC ts pts[a]! (pts[a]!.y.toNat : Nat) ≠ 0 := rG (by omega) hyn
  have hty := (PA.t6 h6).2
  obtain ⟨u1, u2, u3, u4, u5⟩ := R.use w B ha hu hyl hty huse
  rw [ec] at hmm ⊢
  refine RfI.fin1 he hmm hs (R.tch hT B.w.k.m B.sm hP hyl hty u1 hk u5 (fun q => by cases q) (pV hC (.inl ⟨.inr h6, hyn.symm, rfl⟩))) fun v q hv => ?_
  rw [nN (by omega)] at q
  rw [show v = pts[a]!.x.toNat by omega]; exact (PA.t6 h6).1
 by_cases h7 : pts[a]!.op = 7
 ·obtain ⟨hk, ec⟩ := JD h7 hgo
  have hxl : pts[a]!.x.toNat < ts.length := by have := hx.2 (by omega); omega
  have huse : cC ts pts[a]! (pts[a]!.x.toNat : Nat) ≠ 0 := Jw h7 hxn
  have hty := (PA.t7 h7).1
  obtain ⟨u1, u2, u3, u4, u5⟩ := R.use w B ha hu hxl (by omega) huse
  rw [ec] at hmm ⊢
  refine RfI.fin1 he hmm hs ((R.tch hT B.w.k.m B.sm hP hxl (by omega) u1 (E7 hk) u5 (fun _ => by omega) (pV hC (.inr (.inr (.inl ⟨.inl h7, hxn.symm, rfl⟩))))).cong (L5 hk)) (hno (by omega))
 by_cases h8 : pts[a]!.op = 8
 ·obtain ⟨hk, ec⟩ := Js h8 hgo
  have hxl : pts[a]!.x.toNat < ts.length := by have := hx.2 (by omega); omega
  have huse : cC ts pts[a]! (pts[a]!.x.toNat : Nat) ≠ 0 := JC h8 hxn
  have hset := iS hu hxl huse
  have hty := PA.t2 (.inr h8)
  rw [ec] at hmm ⊢
  refine RfI.fin1 he hmm hs (R.fr B.w.h hP (fun v q1 q2 q3 => (B.f v q1 q2 q3).2.2.1) hxl hty hset hk (B.w.o _ hxl hty hset).2.2.1 fun v hv hg => ?_) (hno (by omega))
  exact pV hC (.inr (.inr (.inl ⟨.inr h8, hxn.symm, rfl⟩))) v hv hg (.inl rfl)
 ·have e := Gk (ts := ts) (s := s) (x := pts[a]!) (by omega) h11
  rw [e] at hmm hs ⊢
  exact RfI.fin1 he hmm hs R0 (hno (by omega))
end
end Go.AL

namespace Go.AL
structure Mo (m m' : List Cl) : Prop where
 l : m.length ≤ m'.length
 n : ∀ c, c < m.length → m[c]!.next ≤ m'[c]!.next
theorem Mo.refl (m : List Cl) : Mo m m := ⟨Nat.le_refl _, fun _ _ => Int.le_refl _⟩
theorem Mo.trans {a b c : List Cl} (h : Mo a b) (h' : Mo b c) : Mo a c := ⟨Nat.le_trans h.l h'.l, fun i hi => Int.le_trans (h.n i hi) (h'.n i (Nat.lt_of_lt_of_le hi h.l))⟩
theorem Mo.set {m : List Cl} {k : Nat} {c : Cl} (h : m[k]!.next ≤ c.next) : Mo m (m.set k c) := by
 refine ⟨by rw [List.length_set]; exact Nat.le_refl _, fun i hi => ?_⟩
 rw [dQ]
 split
 ·rename_i q; rw [← q.1]; exact h
 ·exact Int.le_refl _
theorem Mo.app (m : List Cl) (z : Cl) : Mo m (m ++ [z]) := ⟨by rw [List.length_append]; omega, fun i hi => by rw [nU hi]; exact Int.le_refl _⟩
theorem Mo.tch (m : List Cl) (x : Pt) (wr : Bool) : Mo m (dU m x wr) := by
 unfold dU; split
 ·exact Mo.set (Int.le_refl _)
 ·exact Mo.refl _
theorem Mo.fr (m : List Cl) (x : Pt) : Mo m (iL m x) := by
 unfold iL; split
 ·exact Mo.set (Int.le_refl _)
 ·exact Mo.refl _
theorem Mo.wr (m : List Cl) (x : Pt) (v : Int) : Mo m (nT m x v) := by
 unfold nT; split
 ·exact Mo.set (Int.le_refl _)
 ·exact Mo.refl _
theorem Mo.ln (m : List Cl) (x : Pt) (u : Bool) : Mo m (kA m x u) := by
 unfold kA; split
 ·refine Mo.set ?_
  show m[x.cell.toNat]!.next ≤ m[x.cell.toNat]!.next + 1
  omega
 ·exact Mo.refl _
section
variable {ts : List Int} {pts : List Pnt} {N : Int} {a k : Nat} {s : Mc}
theorem Ms (w : WG ts pts) (A : WA ts pts) (ha : a < pts.length) (h11 : pts[a]!.op ≠ 11) (hN : 1 ≤ N) (h : ShM N s.cells) (hgo : (dA ts s pts[a]!).2 = -1) : ShM (N + 1) (dA ts s pts[a]!).1.cells ∧ Mo s.cells (dA ts s pts[a]!).1.cells := by
 have PA := A.a a ha
 have hop := w.op a ha
 by_cases h1 : pts[a]!.op = 1
 ·rw [JH PA h1]; exact ⟨h.mono (by omega), Mo.refl _⟩
 by_cases h2 : pts[a]!.op = 2
 ·have h' := h.nw hN pts[a]!.n
  rw [JF h2 hgo]
  split
  ·exact ⟨(h'.fr _).mono (by omega), (Mo.app _ _).trans (Mo.fr _ _)⟩
  ·exact ⟨h'.mono (by omega), Mo.app _ _⟩
 by_cases h3 : pts[a]!.op = 3
 ·have hx := w.x a ha
  have hyb := w.y a ha
  have hne := (PA.t3 h3).2
  rw [Ju h3 (fun q => hne (by omega))]
  split
  ·exact ⟨(h.fr _).mono (by omega), Mo.fr _ _⟩
  ·exact ⟨h.mono (by omega), Mo.refl _⟩
 by_cases h4 : pts[a]!.op = 4 ∨ pts[a]!.op = 5
 ·rw [(F9 PA h4 hgo).2]; exact ⟨h.ln _ _, Mo.ln _ _ _⟩
 by_cases h6 : pts[a]!.op = 6
 ·rw [(EZ PA h6 hgo).2]; exact ⟨(h.tch _ _).mono (by omega), Mo.tch _ _ _⟩
 by_cases h7 : pts[a]!.op = 7
 ·rw [(JD h7 hgo).2]; exact ⟨(h.wr _ _).mono (by omega), Mo.wr _ _ _⟩
 by_cases h8 : pts[a]!.op = 8
 ·rw [(Js h8 hgo).2]; exact ⟨(h.fr _).mono (by omega), Mo.fr _ _⟩
 ·rw [Gk (by omega) h11]; exact ⟨h.mono (by omega), Mo.refl _⟩
theorem Bs.step (w : WG ts pts) (A : WA ts pts) (ha : a < pts.length) (h11 : pts[a]!.op ≠ 11) (hN : 1 ≤ N) (B : Bs ts N s) (hu : dI ts s pts[a]! = false) (hgo : (dA ts s pts[a]!).2 = -1) : Bs ts (N + 1) (dA ts s pts[a]!).1 := by
 have PA := A.a a ha
 have hx := w.x a ha
 have hyb := w.y a ha
 have hop := w.op a ha
 have hs := w.doY A ha B.w.k.l hu h11 hgo
 obtain ⟨g1, g2⟩ := Ms w A ha h11 hN B.sm hgo
 have hxn : ((pts[a]!.x.toNat : Nat) : Int) = pts[a]!.x := by omega
 have hyn : ((pts[a]!.y.toNat : Nat) : Int) = pts[a]!.y := by omega
 have hv2 : ∀ v : Nat, bT pts[a]! = (v : Int) → (1 ≤ pts[a]!.op ∧ pts[a]!.op ≤ 6) ∧ v = pts[a]!.x.toNat := fun v e => by
  by_cases q : 7 ≤ pts[a]!.op
  ·rw [Gw q] at e; omega
  ·rw [nN (by omega)] at e; omega
 have old : ∀ v, v < ts.length → (dA ts s pts[a]!).1.slots[v]!.set = true → bT pts[a]! ≠ (v : Int) → cC ts pts[a]! v ≠ 2 ∧ (dA ts s pts[a]!).1.slots[v]! = s.slots[v]! := fun v hv h1 h2 => by
  have e := hs v hv
  rw [if_neg h2] at e
  by_cases q : cC ts pts[a]! v = 2
  ·rw [if_pos q] at e; rw [e] at h1; cases h1
  ·rw [if_neg q] at e; exact ⟨q, e⟩
 have oldf : ∀ v, v < ts.length → 3 ≤ ts[v]! → s.slots[v]!.set = true → 0 ≤ s.slots[v]!.ptr.cell ∧ s.slots[v]!.ptr.cell < (dA ts s pts[a]!).1.cells.length ∧ 1 ≤ s.slots[v]!.ptr.tag ∧ s.slots[v]!.ptr.tag < (dA ts s pts[a]!).1.cells[gV s.slots v]!.next := fun v h1 h2 h3 => by
  obtain ⟨f1, f2, f3, f4⟩ := B.f v h1 h2 h3
  have := g2.l
  have h5 := g2.n (gV s.slots v) (by unfold gV; omega)
  exact ⟨f1, by omega, f3, by omega⟩
 -- a new reference
 have newf : ∀ v : Nat, bT pts[a]! = (v : Int) → v < ts.length → 3 ≤ ts[v]! → (pts[a]!.op = 3 ∧ yF s pts[a]! = s.slots[pts[a]!.y.toNat]! ∧ pts[a]!.y.toNat < ts.length ∧ ts[pts[a]!.y.toNat]! = ts[v]! ∧ s.slots[pts[a]!.y.toNat]!.set = true) ∨
   (∃ c : Nat, c < s.cells.length ∧ (yF s pts[a]!).ptr = ⟨(c : Int), s.cells[c]!.next⟩ ∧ s.cells[c]!.next + 1 ≤ (dA ts s pts[a]!).1.cells[c]!.next) := fun v e hv h3 => by
  obtain ⟨o1, o2⟩ := hv2 v e
  by_cases h1 : pts[a]!.op = 1
  ·have := PA.t1 h1; rw [← o2] at this; omega
  by_cases h2 : pts[a]!.op = 2
  ·have := PA.t2 (.inl h2); rw [← o2] at this; omega
  by_cases h3' : pts[a]!.op = 3
  ·have hyl : pts[a]!.y.toNat < ts.length := by have := hyb.2 (by omega) (by omega); omega
   refine .inl ⟨h3', by unfold yF; rw [if_neg h1, if_neg h2, if_pos h3'], hyl, ?_, iS hu hyl (FJ h3' hyn)⟩
   rw [o2]; exact (PA.t3 h3').1.symm
  by_cases h4 : pts[a]!.op = 4 ∨ pts[a]!.op = 5
  ·obtain ⟨hk, ec⟩ := F9 PA h4 hgo
   have hx0 := eT (lX hk)
   refine .inr ⟨s.slots[pts[a]!.y.toNat]!.ptr.cell.toNat, hx0.2.2, ?_, ?_⟩
   ·unfold yF; rw [if_neg h1, if_neg h2, if_neg h3', if_pos h4]
    dsimp only
    unfold oB; rw [if_pos hk, Int.toNat_of_nonneg hx0.1]
   ·rw [ec, CO hk, if_pos rfl]
    show _ ≤ (jE _ _ _).next + 1
    exact Int.le_refl _
  ·have h6 : pts[a]!.op = 6 := by omega
   have := (PA.t6 h6).1; rw [← o2] at this; omega
 refine ⟨B.w.do PA h11 (fun h => ⟨hx.1, hx.2 h⟩) hop.1 (fun h1 h2 => ⟨hyb.1, hyb.2 h1 h2⟩) hu, fun v hv ht => ?_, g1, fun v hv h3 hset => ?_, fun v u hv hul h4 h4' hset hset' hce htg => ?_⟩
 ·rw [hs v hv]
  by_cases q : bT pts[a]! = (v : Int)
  ·rw [if_pos q]
   obtain ⟨o1, o2⟩ := hv2 v q
   unfold yF
   by_cases h1 : pts[a]!.op = 1
   ·rw [if_pos h1]; exact PA.n (.inl h1)
   rw [if_neg h1]
   by_cases h2 : pts[a]!.op = 2
   ·have := PA.t2 (.inl h2); rw [← o2] at this; omega
   rw [if_neg h2]
   by_cases h3 : pts[a]!.op = 3
   ·rw [if_pos h3]
    have hyl : pts[a]!.y.toNat < ts.length := by have := hyb.2 (by omega) (by omega); omega
    have := (PA.t3 h3).1
    rw [← o2, ht] at this
    exact B.i _ hyl this.symm
   rw [if_neg h3]
   by_cases h4 : pts[a]!.op = 4 ∨ pts[a]!.op = 5
   ·rcases h4 with h | h
    ·have := (PA.t4 h).1; rw [← o2] at this; omega
    ·have := (PA.t5 h).1; rw [← o2] at this; omega
   rw [if_neg h4]
   have h6 : pts[a]!.op = 6 := by omega
   have hk := (EZ PA h6 hgo).1
   dsimp only
   unfold nL; rw [if_pos hk]
   exact (B.w.k.m.at (eT hk).2.2).v
  ·rw [if_neg q]
   split
   ·exact ⟨by decide, by decide⟩
   ·exact B.i v hv ht
 ·by_cases q : bT pts[a]! = (v : Int)
  ·have e := hs v hv
   rw [if_pos q] at e
   unfold gV
   rw [e]
   rcases newf v q hv h3 with ⟨n1, n2, n3, n4, n5⟩ | ⟨c, n1, n2, n3⟩
   ·rw [n2]; exact oldf _ n3 (by omega) n5
   ·rw [n2]
    have := g2.l
    have h5 := (B.w.k.m.at n1).n
    exact ⟨by dsimp only; omega, by dsimp only; omega, h5.1, by show s.cells[c]!.next < (dA ts s pts[a]!).1.cells[c]!.next; omega⟩
  ·obtain ⟨_, e⟩ := old v hv hset q
   unfold gV
   rw [e] at hset ⊢
   exact oldf v hv h3 hset
 ·have fresh : ∀ (v u : Nat), bT pts[a]! = (v : Int) → v < ts.length → u < ts.length → ts[v]! = 4 → ts[u]! = 4 → bT pts[a]! ≠ (u : Int) → (dA ts s pts[a]!).1.slots[u]!.set = true →
    gV (dA ts s pts[a]!).1.slots v = gV (dA ts s pts[a]!).1.slots u → (dA ts s pts[a]!).1.slots[v]!.ptr.tag = (dA ts s pts[a]!).1.slots[u]!.ptr.tag → False := fun v u e hv hul h4 h4' ne hset hce htg => by
   have e1 := hs v hv
   rw [if_pos e] at e1
   obtain ⟨n0, e2⟩ := old u hul hset ne
   unfold gV at hce
   rw [e1, e2] at hce htg
   rw [e2] at hset
   rcases newf v e hv (by omega) with ⟨n1, n2, n3, n4, n5⟩ | ⟨c, n1, n2, n3⟩
   ·rw [n2] at hce htg
    have := B.d _ u n3 hul (by omega) h4' n5 hset hce htg
    rw [← this] at n0
    exact n0 (Lq n1 hyn (.inr (by omega)))
   ·rw [n2] at hce htg
    have f := (B.f u hul (by omega) hset)
    dsimp only at hce htg
    have e3 : gV s.slots u = c := by unfold gV; omega
    rw [e3] at f
    omega
  by_cases q : bT pts[a]! = (v : Int)
  ·by_cases q' : bT pts[a]! = (u : Int)
   ·omega
   ·exact (fresh v u q hv hul h4 h4' q' hset' hce htg).elim
  ·by_cases q' : bT pts[a]! = (u : Int)
   ·exact (fresh u v q' hul hv h4' h4 q hset hce.symm htg.symm).elim
   ·obtain ⟨_, e⟩ := old v hv hset q
    obtain ⟨_, e'⟩ := old u hul hset' q'
    unfold gV at hce
    rw [e] at hset hce htg
    rw [e'] at hset' hce htg
    exact B.d v u hv hul h4 h4' hset hset' hce htg
theorem IV (w : WG ts pts) (A : WA ts pts) (ha : a < pts.length) (h11 : pts[a]!.op ≠ 11) (hN : N ≤ 198) (B : Bs ts N s) (R : RfI ts (fun v => Nd ts pts (a, v)) (Ln ts pts a) s.slots s.cells) (hu : dI ts s pts[a]! = false) : (dA ts s pts[a]!).2 = -1 ∨ (dA ts s pts[a]!).2 = 1 := by
 have PA := A.a a ha
 have hx := w.x a ha
 have hyb := w.y a ha
 have hop := w.op a ha
 have hxn : ((pts[a]!.x.toNat : Nat) : Int) = pts[a]!.x := by omega
 have hyn : ((pts[a]!.y.toNat : Nat) : Int) = pts[a]!.y := by omega
 by_cases h9 : 9 ≤ pts[a]!.op
 ·rw [Gk h9 h11]; exact .inl rfl
 have hxl : pts[a]!.x.toNat < ts.length := by have := hx.2 (by omega); omega
 unfold dA
 by_cases h1 : pts[a]!.op = 1
 ·rw [if_pos h1]; exact .inl (B.w.put0 (by rw [PA.t1 h1]; decide) _).2
 rw [if_neg h1]
 by_cases h2 : pts[a]!.op = 2
 ·rw [if_pos h2]
  have ht := PA.t2 (.inl h2)
  by_cases h200 : s.cells.length = 200
  ·rw [if_pos h200]; exact .inr rfl
  ·rw [if_neg h200]
   exact .inl ((B.w.new (PA.n (.inr h2)) h200 s.read).putB (v := pts[a]!.x.toNat) hxl ht _ rfl rfl).2
 rw [if_neg h2]
 by_cases h3 : pts[a]!.op = 3
 ·rw [if_pos h3]
  have hyl : pts[a]!.y.toNat < ts.length := by have := hyb.2 (by omega) (by omega); omega
  obtain ⟨ht, hne⟩ := PA.t3 h3
  have hys := iS hu hyl (FJ h3 hyn)
  by_cases q2 : ts[pts[a]!.y.toNat]! = 2
  ·rw [if_pos (rZ.2 (.inl q2))]
   have g := B.w.give hyl q2 hys
   obtain ⟨b1, b2, b3, b4⟩ := B.w.o _ hyl q2 hys
   refine .inl (g.putB (v := pts[a]!.x.toNat) hxl (by rw [ht]; exact q2) _ hys ?_).2
   generalize s.slots[pts[a]!.y.toNat]! = z at b1 b3
   obtain ⟨zs, zn, zc, zt⟩ := z
   dsimp only at b1 b3 ⊢
   rw [b3, Int.toNat_of_nonneg b1]
  ·split
   ·exact .inl ((B.w.clr (v := pts[a]!.y.toNat) q2).put0 (by rw [ht]; exact q2) _).2
   ·exact .inl (B.w.put0 (by rw [ht]; exact q2) _).2
 rw [if_neg h3]
 by_cases h4 : pts[a]!.op = 4 ∨ pts[a]!.op = 5
 ·rw [if_pos h4]
  have hyl : pts[a]!.y.toNat < ts.length := by have := hyb.2 (by omega) (by omega); omega
  have huse : cC ts pts[a]! (pts[a]!.y.toNat : Nat) ≠ 0 := rG (by omega) hyn
  have hty : 2 ≤ ts[pts[a]!.y.toNat]! ∧ (pts[a]!.op = 5 → ts[pts[a]!.y.toNat]! ≠ 3) := by
   rcases h4 with h | h
   ·exact ⟨(PA.t4 h).2.2, fun q => by omega⟩
   ·have := (PA.t5 h).2.2; exact ⟨by omega, fun _ => by omega⟩
  have hxt : ts[pts[a]!.x.toNat]! ≠ 2 := by
   rcases h4 with h4 | h4
   ·rw [(PA.t4 h4).1]; decide
   ·rw [(PA.t5 h4).1]; decide
  have hk : cK s.cells s.slots[pts[a]!.y.toNat]!.ptr (decide (pts[a]!.op = 5)) = 0 := R.code w B ha hu hyl hty.1 huse (fun q => hty.2 (by simpa using q))
  have hsh := (B.sm.at (eT hk).2.2).tch s.slots[pts[a]!.y.toNat]!.ptr (decide (pts[a]!.op = 5))
  have hl : kY s.cells s.slots[pts[a]!.y.toNat]!.ptr (decide (pts[a]!.op = 5)) = 0 := by
   unfold kY; rw [if_pos hk, if_neg]
   have h5 := hsh.l
   have h6 := hsh.n
   unfold BH
   omega
  rw [if_pos hl]
  exact .inl ((B.w.cells (B.w.k.m.ln _ _) (B.w.h.ln B.w.k.m _ _) (Cx _ _ _) (fun c hc => Fl _ _ _ c hc) _).put0 hxt _).2
 rw [if_neg h4]
 by_cases h6 : pts[a]!.op = 6
 ·rw [if_pos h6]
  have hyl : pts[a]!.y.toNat < ts.length := by have := hyb.2 (by omega) (by omega); omega
  have hxt : ts[pts[a]!.x.toNat]! ≠ 2 := by rw [(PA.t6 h6).1]; decide
  have hk : cK s.cells s.slots[pts[a]!.y.toNat]!.ptr false = 0 := R.code w B ha hu hyl (PA.t6 h6).2 (rG (by omega) hyn) (fun q => by cases q)
  rw [if_pos hk]
  exact .inl ((B.w.cells (B.w.k.m.tch _ _) (B.w.h.tch B.w.k.m _ _) (mA _ _ _) (fun c hc => C8 _ _ _ c hc) _).put0 hxt _).2
 rw [if_neg h6]
 by_cases h7 : pts[a]!.op = 7
 ·rw [if_pos h7]
  have hyl : pts[a]!.y.toNat < ts.length := by have := hyb.2 (by omega) (by omega); omega
  obtain ⟨ht, ht'⟩ := PA.t7 h7
  have hk : cK s.cells s.slots[pts[a]!.x.toNat]!.ptr true = 0 := R.code w B ha hu hxl (by omega) (Jw h7 hxn) (fun _ => by omega)
  refine .inl ?_
  show kH _ = -1
  unfold kH oO; rw [if_pos (B.i _ hyl ht'), if_pos hk]
 rw [if_neg h7]
 have h8 : pts[a]!.op = 8 := by omega
 rw [if_pos h8]
 have hset := iS hu hxl (JC h8 hxn)
 refine .inl ?_
 show kH _ = -1
 unfold kH; rw [if_pos (B.w.k0 hxl (PA.t2 (.inr h8)) hset true)]
theorem F0 (w : WG ts pts) (A : WA ts pts) (I : Nat → Nat → Mc → Prop)
  (hI : ∀ n a s k, a < pts.length → pts[a]!.op ≠ 11 → e8 pts a k → I (n + 1) a s → dI ts s pts[a]! = false → (dA ts s pts[a]!).2 = -1 → I n k (dA ts s pts[a]!).1) :
  ∀ n a cs s last, a < pts.length → I n a s → Jy ts pts (fun a s => ∃ n, I n a s) (iK ts pts (eJ pts n a cs).1 s last) := by
 intro n
 induction n with
 | zero =>
  intro a cs s last ha hs
  by_cases h11 : pts[a]!.op = 11
  ·have e : (eJ pts 0 a cs).1 = [a] := by unfold eJ; rw [if_pos h11]
   rw [e]; exact o8 ha ⟨_, hs⟩ h11
  ·have e : (eJ pts 0 a cs).1 = [] := by rw [eJ, if_neg h11]
   rw [e]; exact .inl rfl
 | succ n ih =>
  intro a cs s last ha hs
  by_cases h11 : pts[a]!.op = 11
  ·have e : (eJ pts (n + 1) a cs).1 = [a] := by unfold eJ; rw [if_pos h11]
   rw [e]; exact o8 ha ⟨_, hs⟩ h11
  ·have e : (eJ pts (n + 1) a cs).1 = a :: (eJ pts n (iI pts a cs).1 (iI pts a cs).2).1 := by rw [eJ, if_neg h11]
   have he := sD w A ha h11 cs
   rw [e]
   exact yT ha ⟨_, hs⟩ fun h1 h2 => ih _ _ _ _ (gG w he) (hI n a s _ ha h11 he hs h1 h2)
def Rt (pts : List Pnt) (c b : Nat) : Prop := Clo (fun b => e8 pts c b) (fun a b => e8 pts a b) b
structure Jv (ts : List Int) (pts : List Pnt) (n a : Nat) (s : Mc) : Prop where
 b : ∃ N : Int, 1 ≤ N ∧ N + n ≤ 198 ∧ Bs ts N s
 v : Vs ts pts a s
 r : (∃ c L, Cf ts pts c L ∧ Rt pts c a) ∨ RfI ts (fun v => Nd ts pts (a, v)) (Ln ts pts a) s.slots s.cells
theorem Jv.start {n : Nat} (hn : n ≤ 197) : Jv ts pts n 0 (mc0 ts.length) := by
 have e : ∀ v, v < ts.length → (mc0 ts.length).slots[v]! = hU := fun v hv => by
  show (List.replicate ts.length hU)[v]! = hU
  rw [cT _ _ (by simpa using hv)]; simp
 refine ⟨⟨1, by omega, by omega, Own.start ts, fun v hv _ => ?_, fun c hc => ?_, fun v hv _ h => ?_, fun v u hv hul _ _ h => ?_⟩, Vs.start, .inr ⟨fun v hv _ h => ?_, fun v u hv hul _ _ h => ?_⟩⟩
 ·rw [e v hv]; exact ⟨by decide, by decide⟩
 ·have : c ∈ ([] : List Cl) := hc
  cases this
 all_goals (rw [e v hv] at h; cases h)
theorem FF (w : WG ts pts) (A : WA ts pts) (cs : List Int) (n : Nat) (hn : n ≤ 197) (h : (eR ts pts cs n).2.1 = 3 ∨ (eR ts pts cs n).2.1 = 4) : ∃ c L, Cf ts pts c L ∧ Rt pts c (eR ts pts cs n).2.2 := by
 have ho := F0 w A (Jv ts pts) (fun n a s k ha h11 he hJ hu hgo => by
  obtain ⟨⟨N, hN1, hN2, B⟩, V, R⟩ := hJ
  refine ⟨⟨N + 1, by omega, by omega, B.step w A ha h11 hN1 hu hgo⟩, V.step w A a s k ha h11 he hu hgo, ?_⟩
  rcases R with ⟨c, L, h1, h2⟩ | R
  ·exact .inl ⟨c, L, h1, .step h2 he⟩
  ·by_cases hC : ∃ L, Cf ts pts a L
   ·obtain ⟨L, hL⟩ := hC
    exact .inl ⟨a, L, hL, .base he⟩
   ·exact .inr (R.step w A he h11 B V (fun L hL => hC ⟨L, hL⟩) hu hgo)) n 0 cs (mc0 ts.length) 0 w.p0 (Jv.start hn)
 change Jy ts pts _ (eR ts pts cs n) at ho
 rcases ho with ho | ⟨s', h0, ⟨m, J⟩, ⟨h3, _⟩ | ⟨h3, h4, h5, h6⟩⟩
 ·omega
 ·omega
 ·rcases J.r with hr | R
  ·exact hr
  ·exfalso
   obtain ⟨N, hN1, hN2, B⟩ := J.b
   by_cases q : pts[(eR ts pts cs n).2.2]!.op = 11
   ·rw [sR q, (Own.fin ts.length 0 s' B.w (by omega) (fun u hu => by omega)).1] at h6; omega
   ·rcases IV w A h0 q (by omega) B R h3 with e | e
    ·exact h4 e
    ·omega
end
end Go.AL
