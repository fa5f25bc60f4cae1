/-
 A part of the proofs over this program: rules and contracts of its functions (the rules).
-/
import Derived.Test.YtahdccneecdmmaaGreatQ5A07
import Derived.Laws.IdiomCopy
set_option linter.unusedVariables false
set_option linter.unusedSimpArgs false
namespace Go.AL
section
variable {ts : List Int} {P Q : List Pnt} {s t : Mc}
def vl (m : List Cl) (j : Nat) : Int := m[j]!.val
theorem GN {m : List Cl} {k j : Nat} {c : Cl} : vl (m.set k c) j = if k = j ∧ k < m.length then c.val else vl m j := by
 unfold vl; rw [aR]
 by_cases q : k = j ∧ k < m.length
 ·rw [if_pos q, if_pos ⟨q.1, by omega⟩]
 ·rw [if_neg q, if_neg (fun z => q ⟨z.1, by omega⟩)]
theorem yI {m : List Cl} {k : Nat} {c : Cl} (h : c.val = m[k]!.val) (j : Nat) : vl (m.set k c) j = vl m j := by
 rw [GN]; split
 ·rename_i q; rw [h, q.1]; rfl
 ·rfl
theorem Nx (m : List Cl) (x : Pt) (wr : Bool) (j : Nat) : vl (j9 m x wr) j = vl m j := by
 unfold j9; split
 ·exact yI (by rfl) j
 ·rfl
theorem Hn (m : List Cl) (x : Pt) (j : Nat) : vl (kQ m x) j = vl m j := by
 unfold kQ; split
 ·exact yI (by rfl) j
 ·rfl
theorem Oq (m : List Cl) (x : Pt) (b : Bool) (j : Nat) : vl (vD m x b) j = vl m j := by
 unfold vD; split
 ·exact yI (by rfl) j
 ·rfl
theorem PU {m : List Cl} {x : Pt} {v : Int} (h : zQ m x v = 0) : bJ m x true = 0 := by
 unfold zQ at h; split at h
 ·exact h
 ·cases h
theorem O1 {m : List Cl} {x : Pt} {v : Int} (h : zQ m x v = 0) (j : Nat) : vl (yX m x v) j = if x.cell.toNat = j then v else vl m j := by
 have hk := (iF (PU h)).2.2
 unfold yX
 rw [if_pos h, GN]
 by_cases q : x.cell.toNat = j
 ·rw [if_pos ⟨q, hk⟩, if_pos q]
 ·rw [if_neg (fun z => q z.1), if_neg q]
theorem NN {m : List Cl} {n : Int} {j : Nat} (h : j ≤ m.length) : vl (m ++ [r8 n]) j = if j = m.length then n else vl m j := by
 unfold vl
 by_cases q : j = m.length
 ·rw [if_pos q, q, CI]; rfl
 ·rw [if_neg q, xS (by omega)]
theorem Cq {x : Pnt} (A : PtA ts x) (hop : 1 ≤ x.op) (hx : x.op = 3 → x.x.toNat ≠ x.y.toNat) (h11 : x.op ≠ 11) (hgo : (cD ts s x).2 = -1) :
  (cD ts s x).1.cells.length = s.cells.length + (if x.op = 2 then 1 else 0) ∧
  ∀ j, j < (cD ts s x).1.cells.length → vl (cD ts s x).1.cells j = if x.op = 2 ∧ j = s.cells.length then x.n else if x.op = 7 ∧ s.slots[x.x.toNat]!.ptr.cell.toNat = j then s.slots[x.y.toNat]!.num else vl s.cells j := by
 have same : ∀ m : List Cl, x.op ≠ 2 → x.op ≠ 7 → (cD ts s x).1.cells = m → m.length = s.cells.length → (∀ j, vl m j = vl s.cells j) → (cD ts s x).1.cells.length = s.cells.length + (if x.op = 2 then 1 else 0) ∧
  ∀ j, j < (cD ts s x).1.cells.length → vl (cD ts s x).1.cells j = if x.op = 2 ∧ j = s.cells.length then x.n else if x.op = 7 ∧ s.slots[x.x.toNat]!.ptr.cell.toNat = j then s.slots[x.y.toNat]!.num else vl s.cells j := by
  intro m h2 h7 e el ev
  rw [e]
  refine ⟨by rw [if_neg h2, el]; rfl, fun j _ => ?_⟩
  rw [if_neg (fun q => h2 q.1), if_neg (fun q => h7 q.1), ev]
 by_cases h1 : x.op = 1
 ·exact same _ (by omega) (by omega) (OK A h1) rfl (fun _ => rfl)
 by_cases h2 : x.op = 2
 ·rw [OA h2 hgo]
  have key : ∀ m : List Cl, m.length = s.cells.length + 1 → (∀ j, vl m j = vl (s.cells ++ [r8 x.n]) j) → m.length = s.cells.length + (if x.op = 2 then 1 else 0) ∧
   ∀ j, j < m.length → vl m j = if x.op = 2 ∧ j = s.cells.length then x.n else if x.op = 7 ∧ s.slots[x.x.toNat]!.ptr.cell.toNat = j then s.slots[x.y.toNat]!.num else vl s.cells j := by
   intro m e1 e2
   refine ⟨by rw [if_pos h2, e1], fun j hj => ?_⟩
   rw [e2, NN (by omega)]
   by_cases q : j = s.cells.length
   ·rw [if_pos q, if_pos ⟨h2, q⟩]
   ·rw [if_neg q, if_neg (fun z => q z.2), if_neg (fun z => by omega)]
  by_cases q : ts[x.x.toNat]! = 2 ∧ s.slots[x.x.toNat]!.set = true
  ·rw [if_pos q]; exact key (kQ (s.cells ++ [r8 x.n]) s.slots[x.x.toNat]!.ptr) (by rw [nE, List.length_append, List.length_singleton]) (fun j => Hn _ _ j)
  ·rw [if_neg q]; exact key (s.cells ++ [r8 x.n]) (by rw [List.length_append, List.length_singleton]) (fun j => rfl)
 by_cases h3 : x.op = 3
 ·refine same _ (by omega) (by omega) (Oz h3 (hx h3)) ?_ ?_
  ·split
   ·exact nE _ _
   ·rfl
  ·intro j; split
   ·exact Hn _ _ j
   ·rfl
 by_cases h4 : x.op = 4 ∨ x.op = 5
 ·exact same _ (by omega) (by omega) (Ix A h4 hgo).2 (Es _ _ _) (Oq _ _ _)
 by_cases h6 : x.op = 6
 ·exact same _ (by omega) (by omega) (zV A h6 hgo).2 (u6 _ _ _) (Nx _ _ _)
 by_cases h7 : x.op = 7
 ·obtain ⟨e1, e2⟩ := OM h7 hgo
  rw [e2]
  refine ⟨by rw [DK, if_neg h2]; rfl, fun j _ => ?_⟩
  rw [if_neg (fun q => h2 q.1), O1 e1]
  by_cases q : s.slots[x.x.toNat]!.ptr.cell.toNat = j
  ·rw [if_pos q, if_pos ⟨h7, q⟩]
  ·rw [if_neg q, if_neg (fun z => q z.2)]
 by_cases h8 : x.op = 8
 ·exact same _ (by omega) (by omega) (Ot h8 hgo).2 (nE _ _) (Hn _ _)
 ·exact same s.cells (by omega) (by omega) (by rw [GG (by omega) h11]) rfl (fun _ => rfl)
theorem GV {x : Pnt} (h11 : x.op ≠ 11) (hgo : (cD ts s x).2 = -1) : (cD ts s x).1.read = if x.op = 6 then s.read ++ [zT s.cells s.slots[x.y.toNat]!.ptr] else s.read := by
 unfold cD at hgo ⊢
 by_cases h1 : x.op = 1
 ·rw [if_pos h1, e6, if_neg (by omega)]
 rw [if_neg h1] at hgo ⊢
 by_cases h2 : x.op = 2
 ·rw [if_pos h2] at hgo ⊢
  rw [if_neg (show ¬ x.op = 6 by omega)]
  split at hgo
  ·cases hgo
  ·rename_i q; rw [if_neg q, e6]
 rw [if_neg h2] at hgo ⊢
 by_cases h3 : x.op = 3
 ·rw [if_pos h3, e6, if_neg (show ¬ x.op = 6 by omega)]
  split <;> rfl
 rw [if_neg h3] at hgo ⊢
 by_cases h4 : x.op = 4 ∨ x.op = 5
 ·rw [if_pos h4] at hgo ⊢
  rw [if_neg (show ¬ x.op = 6 by omega)]
  split at hgo
  ·rename_i q; rw [if_pos q, e6]
  ·exact (m9 hgo).elim
 rw [if_neg h4] at hgo ⊢
 by_cases h6 : x.op = 6
 ·rw [if_pos h6] at hgo ⊢
  rw [if_pos h6]
  split at hgo
  ·rename_i q; rw [if_pos q, e6]
  ·exact (m9 hgo).elim
 rw [if_neg h6, if_neg h6]
 by_cases h7 : x.op = 7
 ·rw [if_pos h7]
 rw [if_neg h7]
 by_cases h8 : x.op = 8
 ·rw [if_pos h8]
 rw [if_neg h8, if_neg h11]
structure VE (ts : List Int) (π : Nat → Nat) (F : Nat → Prop) (r : Prop) (s t : Mc) : Prop where
 l : s.slots.length = ts.length ∧ t.slots.length = ts.length
 n : t.cells.length = s.cells.length
 c : ∀ j, j < s.cells.length → vl t.cells (π j) = vl s.cells j
 i : ∀ i j, π i = π j → i = j
 p : ∀ j, s.cells.length ≤ j → π j = j
 v : ∀ v, v < ts.length → F v → t.slots[v]!.set = s.slots[v]!.set ∧ t.slots[v]!.num = s.slots[v]!.num ∧ (2 ≤ ts[v]! → s.slots[v]!.set = true → t.slots[v]!.ptr.cell.toNat = π s.slots[v]!.ptr.cell.toNat)
 z : ∀ v, v < ts.length → ts[v]! = 1 → s.slots[v]!.ptr = ⟨0, 0⟩ ∧ t.slots[v]!.ptr = ⟨0, 0⟩
 r : r → t.read = s.read
theorem VE.mono {π : Nat → Nat} {F F' : Nat → Prop} {r : Prop} (h : VE ts π F r s t) (hF : ∀ v, F' v → F v) : VE ts π F' r s t := ⟨h.l, h.n, h.c, h.i, h.p, fun v hv q => h.v v hv (hF v q), h.z, h.r⟩
def Iz (ts : List Int) (s : Mc) : Prop := ∀ v, v < ts.length → ts[v]! = 1 → s.slots[v]!.ptr = ⟨0, 0⟩
theorem Iz.start : Iz ts (mc0 ts.length) := fun v hv _ => by
 show ((List.replicate ts.length lQ)[v]!).ptr = _
 rw [aZ _ _ (by simpa using hv)]; simp [lQ]
theorem VE.refl (h : Iz ts s) (hl : s.slots.length = ts.length) (F : Nat → Prop) (r : Prop) : VE ts (fun j => j) F r s s :=
 ⟨⟨hl, hl⟩, rfl, fun _ _ => rfl, fun _ _ e => e, fun _ _ => rfl, fun _ _ _ => ⟨rfl, rfl, fun _ _ => rfl⟩, fun v hv h1 => ⟨h v hv h1, h v hv h1⟩, fun _ => rfl⟩
theorem M1 (h : Iz ts s) {x : Pnt} (A : PtA ts x) {v : Nat} (hop : 1 ≤ x.op ∧ x.op ≤ 6) (hxv : x.x = (v : Int)) (hy : 3 ≤ x.op → 0 ≤ x.y ∧ x.y < ts.length) (h1 : ts[v]! = 1) : (yF s x).ptr = ⟨0, 0⟩ := by
 have hv : x.x.toNat = v := by omega
 have t2 := A.t2
 have t3 := A.t3
 have t4 := A.t4
 have t5 := A.t5
 rw [hv, h1] at t2 t3 t4 t5
 unfold yF
 by_cases c1 : x.op = 1
 ·rw [if_pos c1]
 rw [if_neg c1]
 by_cases c2 : x.op = 2
 ·have := t2 (.inl c2); omega
 rw [if_neg c2]
 by_cases c3 : x.op = 3
 ·rw [if_pos c3]
  have := hy (by omega)
  exact h _ (by omega) (t3 c3).1.symm
 rw [if_neg c3]
 by_cases c4 : x.op = 4 ∨ x.op = 5
 ·exfalso
  rcases c4 with c4 | c4
  ·have := (t4 c4).1; omega
  ·have := (t5 c4).1; omega
 rw [if_neg c4]
theorem Iz.step (w : WG ts P) (A : WA ts P) {a : Nat} (ha : a < P.length) (hl : s.slots.length = ts.length) (h : Iz ts s) (hu : bV ts s P[a]! = false) (h11 : P[a]!.op ≠ 11) (hgo : (cD ts s P[a]!).2 = -1) : Iz ts (cD ts s P[a]!).1 := by
 intro v hv h1
 rw [w.doY A ha hl hu h11 hgo v hv]
 by_cases q : aN P[a]! = (v : Int)
 ·rw [if_pos q]
  have hop : 1 ≤ P[a]!.op ∧ P[a]!.op ≤ 6 := by
   apply Classical.byContradiction; intro hh
   unfold aN at q; rw [if_neg hh] at q; omega
  rw [Cs hop] at q
  exact M1 h (A.a a ha) hop q (fun h3 => ⟨(w.y a ha).1, (w.y a ha).2 h3 (by omega)⟩) h1
 ·rw [if_neg q]
  split
  ·rfl
  ·exact h v hv h1
end
end Go.AL
namespace Go.AL
section
variable {ts : List Int} {P Q : List Pnt} {s t : Mc}
theorem D9 {m : List Cl} {x : Pt} (h : bJ m x false = 0) : zT m x = vl m x.cell.toNat := by unfold zT; rw [if_pos h]; rfl
theorem VE.lt {π : Nat → Nat} {F : Nat → Prop} {r : Prop} (h : VE ts π F r s t) {j : Nat} (hj : j < s.cells.length) : π j < s.cells.length := by
 apply Classical.byContradiction; intro q
 have := h.i _ _ (h.p (π j) (by omega))
 omega
theorem VE.yF {π : Nat → Nat} {F : Nat → Prop} {r : Prop} (h : VE ts π F r s t) (w : WG ts P) (A : WA ts P) {a : Nat} (ha : a < P.length) (hu : bV ts s P[a]! = false) (hgo : (cD ts s P[a]!).2 = -1) (hgo' : (cD ts t P[a]!).2 = -1)
  (hF : ∀ v, v < ts.length → aT ts P[a]! v ≠ 0 → F v) {v : Nat} (q : aN P[a]! = (v : Int)) :
  (yF t P[a]!).set = (yF s P[a]!).set ∧ (yF t P[a]!).num = (yF s P[a]!).num ∧ (2 ≤ ts[v]! → (yF s P[a]!).set = true → (yF t P[a]!).ptr.cell.toNat = π (yF s P[a]!).ptr.cell.toNat) := by
 have hop : 1 ≤ P[a]!.op ∧ P[a]!.op ≤ 6 := by
  apply Classical.byContradiction; intro hh
  unfold aN at q; rw [if_neg hh] at q; omega
 rw [Cs hop] at q
 have PA := A.a a ha
 have hy := w.y a ha
 have hv' : P[a]!.x.toNat = v := by omega
 have t1 := PA.t1
 have t3 := PA.t3
 have t4 := PA.t4
 have t5 := PA.t5
 have t6 := PA.t6
 rw [hv'] at t1 t3 t4 t5 t6
 unfold Go.AL.yF
 by_cases c1 : P[a]!.op = 1
 ·rw [if_pos c1, if_pos c1]
  exact ⟨rfl, rfl, fun h2 => by have := t1 c1; omega⟩
 rw [if_neg c1, if_neg c1]
 by_cases c2 : P[a]!.op = 2
 ·rw [if_pos c2, if_pos c2]
  refine ⟨rfl, rfl, fun _ _ => ?_⟩
  dsimp only
  rw [h.n, Int.toNat_natCast, h.p _ (Nat.le_refl _)]
 rw [if_neg c2, if_neg c2]
 have hyb : 0 ≤ P[a]!.y ∧ P[a]!.y < ts.length := ⟨hy.1, hy.2 (by omega) (by omega)⟩
 have hyn : ((P[a]!.y.toNat : Nat) : Int) = P[a]!.y := by omega
 have hyl : P[a]!.y.toNat < ts.length := by omega
 by_cases c3 : P[a]!.op = 3
 ·rw [if_pos c3, if_pos c3]
  have hf := hF _ hyl (Pb c3 hyn)
  have hh := h.v _ hyl hf
  refine ⟨hh.1, hh.2.1, fun h2 hs => hh.2.2 ?_ hs⟩
  rw [← (t3 c3).1]; exact h2
 rw [if_neg c3, if_neg c3]
 have hus : aT ts P[a]! (P[a]!.y.toNat : Nat) ≠ 0 := Di (by omega) hyn
 have hf := hF _ hyl hus
 have hset := kX hu hyl hus
 have hh := h.v _ hyl hf
 by_cases c4 : P[a]!.op = 4 ∨ P[a]!.op = 5
 ·rw [if_pos c4, if_pos c4]
  refine ⟨rfl, rfl, fun _ _ => ?_⟩
  dsimp only
  unfold Gw
  rw [if_pos (Ix PA c4 hgo).1, if_pos (Ix PA c4 hgo').1]
  refine hh.2.2 ?_ hset
  rcases c4 with c4 | c4
  ·exact (t4 c4).2.2
  ·have := (t5 c4).2.2; omega
 rw [if_neg c4, if_neg c4]
 have c6 : P[a]!.op = 6 := by omega
 have k1 := (zV PA c6 hgo).1
 have k2 := (zV PA c6 hgo').1
 refine ⟨rfl, ?_, fun h2 => by have := (t6 c6).1; omega⟩
 dsimp only
 rw [D9 k1, D9 k2, hh.2.2 (t6 c6).2 hset, h.c _ (iF k1).2.2]
theorem VE.step {π : Nat → Nat} {F : Nat → Prop} {r : Prop} (h : VE ts π F r s t) (w : WG ts P) (A : WA ts P) {a : Nat} (ha : a < P.length) (hu : bV ts s P[a]! = false) (hu' : bV ts t P[a]! = false) (h11 : P[a]!.op ≠ 11)
  (hgo : (cD ts s P[a]!).2 = -1) (hgo' : (cD ts t P[a]!).2 = -1) (hF : ∀ v, v < ts.length → aT ts P[a]! v ≠ 0 → F v) :
  VE ts π (fun v => F v ∨ aN P[a]! = (v : Int)) r (cD ts s P[a]!).1 (cD ts t P[a]!).1 := by
 have PA := A.a a ha
 have hx := w.x a ha
 have hy := w.y a ha
 have hop := w.op a ha
 have ne3 : P[a]!.op = 3 → P[a]!.x.toNat ≠ P[a]!.y.toNat := fun c q => by
  have := (PA.t3 c).2; omega
 obtain ⟨e1, e2⟩ := Cq (s := s) PA hop.1 ne3 h11 hgo
 obtain ⟨e1', e2'⟩ := Cq (s := t) PA hop.1 ne3 h11 hgo'
 have hn := h.n
 refine ⟨⟨by rw [pZ]; exact h.l.1, by rw [pZ]; exact h.l.2⟩, by rw [e1, e1', hn], fun j hj => ?_, h.i, fun j hj => h.p j (by omega), fun v hv hf => ?_, fun v hv h1 => ?_, fun hr => ?_⟩
 ·rw [e2 j hj]
  rw [e1] at hj
  by_cases q : P[a]!.op = 2 ∧ j = s.cells.length
  ·have hp := h.p j (by omega)
   rw [if_pos q, hp, e2' j (by rw [e1', if_pos q.1]; omega), if_pos ⟨q.1, by omega⟩]
  ·have hjl : j < s.cells.length := by
    by_cases q2 : P[a]!.op = 2
    ·rw [if_pos q2] at hj
     have : j ≠ s.cells.length := fun z => q ⟨q2, z⟩
     omega
    ·rw [if_neg q2] at hj; omega
   have hpj := h.lt hjl
   rw [if_neg q, e2' (π j) (by rw [e1']; omega), if_neg (fun z => by omega)]
   by_cases c7 : P[a]!.op = 7
   ·have hxl : P[a]!.x.toNat < ts.length := by have := hx.2 (by omega); omega
    have hyl : P[a]!.y.toNat < ts.length := by have := hy.2 (by omega) (by omega); omega
    have ux : aT ts P[a]! (P[a]!.x.toNat : Nat) ≠ 0 := Pk c7 (by omega)
    have uy : aT ts P[a]! (P[a]!.y.toNat : Nat) ≠ 0 := by
     unfold aT; rw [if_neg (by omega), if_neg (by omega), if_pos c7]
     split
     ·decide
     ·rw [if_pos (by omega)]; decide
    have vx := (h.v _ hxl (hF _ hxl ux)).2.2 (by rcases (PA.t7 c7).1 with z | z <;> omega) (kX hu hxl ux)
    have vy := (h.v _ hyl (hF _ hyl uy)).2.1
    by_cases z : s.slots[P[a]!.x.toNat]!.ptr.cell.toNat = j
    ·rw [if_pos ⟨c7, by rw [vx, z]⟩, if_pos ⟨c7, z⟩, vy]
    ·rw [if_neg (fun y => z (h.i _ _ (by rw [← vx]; exact y.2))), if_neg (fun y => z y.2), h.c j hjl]
   ·rw [if_neg (fun z => c7 z.1), if_neg (fun z => c7 z.1), h.c j hjl]
 ·rw [w.doY A ha h.l.1 hu h11 hgo v hv, w.doY A ha h.l.2 hu' h11 hgo' v hv]
  by_cases q : aN P[a]! = (v : Int)
  ·rw [if_pos q, if_pos q]
   exact h.yF w A ha hu hgo hgo' hF q
  ·rw [if_neg q, if_neg q]
   by_cases q2 : aT ts P[a]! v = 2
   ·rw [if_pos q2, if_pos q2]
    exact ⟨rfl, rfl, fun _ z => by cases z⟩
   ·rw [if_neg q2, if_neg q2]
    exact h.v v hv (hf.resolve_right q)
 ·exact ⟨Iz.step w A ha h.l.1 (fun v hv h1 => (h.z v hv h1).1) hu h11 hgo v hv h1, Iz.step w A ha h.l.2 (fun v hv h1 => (h.z v hv h1).2) hu' h11 hgo' v hv h1⟩
 ·rw [GV h11 hgo, GV h11 hgo']
  by_cases c6 : P[a]!.op = 6
  ·rw [if_pos c6, if_pos c6, h.r hr]
   have hyl : P[a]!.y.toNat < ts.length := by have := hy.2 (by omega) (by omega); omega
   have uy : aT ts P[a]! (P[a]!.y.toNat : Nat) ≠ 0 := Di (by omega) (by omega)
   have k1 := (zV PA c6 hgo).1
   have k2 := (zV PA c6 hgo').1
   rw [D9 k1, D9 k2, (h.v _ hyl (hF _ hyl uy)).2.2 (PA.t6 c6).2 (kX hu hyl uy), h.c _ (iF k1).2.2]
  ·rw [if_neg c6, if_neg c6]; exact h.r hr
theorem jU {n i : Nat} {cs : List Int} {l : Nat} (h11 : P[i]!.op = 11) (h : (nM ts P n i cs s l).2.1 = 0) : (nM ts P n i cs s l).1 = (cM ts ts.length 0 s).1 ∧ (cM ts ts.length 0 s).2 = 0 := by
 rw [Kx h11, PQ] at h ⊢
 by_cases q : bV ts s P[i]! = true
 ·rw [if_pos q] at h; cases h
 ·rw [if_neg q] at h ⊢
  by_cases q2 : (cD ts s P[i]!).2 = -1
  ·rw [if_pos q2] at h; cases h
  ·rw [if_neg q2] at h ⊢
   rw [BM h11] at h ⊢
   exact ⟨rfl, h⟩
theorem yH {n i : Nat} {cs : List Int} {l : Nat} (h11 : P[i]!.op ≠ 11) (h : (nM ts P n i cs s l).2.1 = 0) : ∃ n', n = n' + 1 ∧ bV ts s P[i]! = false ∧ (cD ts s P[i]!).2 = -1 ∧ nM ts P n i cs s l = nM ts P n' (dX P i cs).1 (dX P i cs).2 (cD ts s P[i]!).1 i := by
 cases n with
 | zero => rw [xD h11] at h; cases h
 | succ n =>
  rw [NH h11] at h ⊢
  by_cases q : bV ts s P[i]! = true
  ·rw [if_pos q] at h; cases h
  ·rw [if_neg q] at h ⊢
   by_cases q2 : (cD ts s P[i]!).2 = -1
   ·rw [if_pos q2]; exact ⟨n, rfl, by simpa using q, q2, rfl⟩
   ·rw [if_neg q2] at h
    dsimp only at h
    rcases G3 (ts := ts) (s := s) h11 with e | e | e | e
    ·exact absurd e q2
    all_goals (rw [e] at h; cases h)
theorem DI {i k : Nat} {cs : List Int} (h : P[i]!.next = [(k : Int)]) : dX P i cs = (k, cs) := by unfold dX; rw [h]; rfl
structure Bis (ts : List Int) (P Q : List Pnt) (R : Nat → Nat → Nat → Mc → Mc → Prop) : Prop where
 h : ∀ n i j s t, R n i j s t → (P[i]!.op = 11 ∧ Q[j]!.op = 11) ∨
  (P[i]!.op ≠ 11 ∧ ∃ k : Nat, P[i]!.next = [(k : Int)] ∧ ∀ n', n = n' + 1 → bV ts s P[i]! = false → (cD ts s P[i]!).2 = -1 → R n' k j (cD ts s P[i]!).1 t) ∨
  (Q[j]!.op ≠ 11 ∧ ∃ k : Nat, Q[j]!.next = [(k : Int)] ∧ (bV ts t Q[j]! = false → (cD ts t Q[j]!).2 = -1 → R n i k s (cD ts t Q[j]!).1)) ∨
  (P[i]!.op ≠ 11 ∧ Q[j]!.op ≠ 11 ∧ ∀ n' cs, n = n' + 1 → bV ts s P[i]! = false → (cD ts s P[i]!).2 = -1 → bV ts t Q[j]! = false → (cD ts t Q[j]!).2 = -1 →
   (dX P i cs).2 = (dX Q j cs).2 ∧ R n' (dX P i cs).1 (dX Q j cs).1 (cD ts s P[i]!).1 (cD ts t Q[j]!).1)
theorem Bis.run {R : Nat → Nat → Nat → Mc → Mc → Prop} (H : Bis ts P Q R) : ∀ N n m, n + m ≤ N → ∀ i j cs s t l l', R n i j s t → (nM ts P n i cs s l).2.1 = 0 → (nM ts Q m j cs t l').2.1 = 0 →
  ∃ n' i' j' s' t', R n' i' j' s' t' ∧ P[i']!.op = 11 ∧ (nM ts P n i cs s l).1 = (cM ts ts.length 0 s').1 ∧ (cM ts ts.length 0 s').2 = 0 ∧ (nM ts Q m j cs t l').1 = (cM ts ts.length 0 t').1 ∧ (cM ts ts.length 0 t').2 = 0 := by
 intro N
 induction N with
 | zero =>
  intro n m hN i j cs s t l l' hR h1 h2
  have hn : n = 0 := by omega
  have hm : m = 0 := by omega
  subst hn hm
  rcases H.h _ _ _ _ _ hR with ⟨a, b⟩ | ⟨a, _⟩ | ⟨a, _⟩ | ⟨a, _⟩
  ·exact ⟨_, _, _, _, _, hR, a, (jU a h1).1, (jU a h1).2, (jU b h2).1, (jU b h2).2⟩
  ·rw [xD a] at h1; cases h1
  ·rw [xD a] at h2; cases h2
  ·rw [xD a] at h1; cases h1
 | succ N IH =>
  intro n m hN i j cs s t l l' hR h1 h2
  rcases H.h _ _ _ _ _ hR with ⟨a, b⟩ | ⟨a, k, b, c⟩ | ⟨a, k, b, c⟩ | ⟨a, b, c⟩
  ·exact ⟨_, _, _, _, _, hR, a, (jU a h1).1, (jU a h1).2, (jU b h2).1, (jU b h2).2⟩
  ·obtain ⟨n', rfl, p1, p2, p3⟩ := yH a h1
   rw [DI b] at p3
   rw [p3] at h1 ⊢
   exact IH n' m (by omega) k j cs _ t _ l' (c n' rfl p1 p2) h1 h2
  ·obtain ⟨m', rfl, p1, p2, p3⟩ := yH a h2
   rw [DI b] at p3
   rw [p3] at h2 ⊢
   exact IH n m' (by omega) i k cs s _ l _ (c p1 p2) h1 h2
  ·obtain ⟨n', rfl, p1, p2, p3⟩ := yH a h1
   obtain ⟨m', rfl, q1, q2, q3⟩ := yH b h2
   obtain ⟨c1, c2⟩ := c n' cs rfl p1 p2 q1 q2
   rw [p3] at h1 ⊢
   rw [q3, ← c1] at h2 ⊢
   exact IH n' m' (by omega) _ _ _ _ _ _ _ c2 h1 h2
end
end Go.AL
namespace Go.AL
theorem CW {s : Stmt} (h : s.op ≠ 9 ∧ s.op ≠ 10) : lP s = 1 := DZ s h.1 h.2
def O8 (s : Stmt) (at_ : Nat) : Pnt := ⟨s.op, s.x, s.y, s.n, [(at_ : Int) + 1]⟩
theorem w5 {p : Prg} {k : Nat} (hk : k < p.body.length) (hs : p.body[k]!.op ≠ 9 ∧ p.body[k]!.op ≠ 10) :
  aC p = dZ 0 (p.body.take k) ++ O8 p.body[k]! (b8 (p.body.take k)) :: (dZ (b8 (p.body.take k) + 1) (p.body.drop (k + 1)) ++ [⟨11, 0, 0, 0, []⟩]) := by
 have eb : p.body = p.body.take k ++ p.body[k]! :: p.body.drop (k + 1) := by
  have := List.take_append_drop k p.body
  rw [nW _ _ hk] at this; exact this.symm
 unfold aC
 conv => lhs; rw [eb]
 rw [lH, dZ, gP, if_neg hs.1, if_neg hs.2, CW hs, Nat.zero_add]
 simp only [List.append_assoc, List.cons_append, List.nil_append]
 rfl
structure Top (pts : List Pnt) (a : Nat) : Prop where
 n : pts[a]!.next = [(a : Int) + 1]
 l : a + 1 < pts.length
 lo : ∀ i, i < a → ∀ k ∈ pts[i]!.next, k ≤ (a : Int)
 hi : ∀ i, a < i → ∀ k ∈ pts[i]!.next, (a : Int) + 1 ≤ k
theorem Top.of {p : Prg} {k : Nat} (hk : k < p.body.length) (hs : p.body[k]!.op ≠ 9 ∧ p.body[k]!.op ≠ 10) : Top (aC p) (b8 (p.body.take k)) ∧ (aC p)[b8 (p.body.take k)]! = O8 p.body[k]! (b8 (p.body.take k)) := by
 have e := w5 hk hs
 have hA : (dZ 0 (p.body.take k)).length = b8 (p.body.take k) := bE _ _
 have hB : (dZ (b8 (p.body.take k) + 1) (p.body.drop (k + 1))).length = b8 (p.body.drop (k + 1)) := bE _ _
 have loA := qA (p.body.take k) 0
 have pR := qA (p.body.drop (k + 1)) (b8 (p.body.take k) + 1)
 generalize b8 (p.body.take k) = a at *
 rw [e]
 have get : ∀ i, (dZ 0 (p.body.take k) ++ O8 p.body[k]! a :: (dZ (a + 1) (p.body.drop (k + 1)) ++ [⟨11, 0, 0, 0, []⟩]))[i]! = if i < a then (dZ 0 (p.body.take k))[i]! else if i - a < 1 then O8 p.body[k]! a else
   if i - a - 1 < b8 (p.body.drop (k + 1)) then (dZ (a + 1) (p.body.drop (k + 1)))[i - a - 1]! else [(⟨11, 0, 0, 0, []⟩ : Pnt)][i - a - 1 - b8 (p.body.drop (k + 1))]! := fun i => by
  rw [kV hA, BP, kV hB]
 have ga := get a
 rw [if_neg (by omega), if_pos (by omega)] at ga
 refine ⟨⟨by rw [ga]; rfl, ?_, fun i hi z hz => ?_, fun i hi z hz => ?_⟩, ga⟩
 ·simp only [List.length_append, List.length_cons, List.length_nil, hA]; omega
 ·rw [get i, if_pos hi] at hz
  have := loA _ (aW _ _ (by omega)) z hz
  omega
 ·rw [get i, if_neg (by omega), if_neg (by omega)] at hz
  by_cases q : i - a - 1 < b8 (p.body.drop (k + 1))
  ·rw [if_pos q] at hz
   have := pR _ (aW _ _ (by omega)) z hz
   omega
  ·rw [if_neg q] at hz
   by_cases q2 : i - a - 1 - b8 (p.body.drop (k + 1)) < 1
   ·rw [show i - a - 1 - b8 (p.body.drop (k + 1)) = 0 by omega] at hz
    cases hz
   ·rw [getElem!_neg _ _ (by simp; omega)] at hz
    cases hz
section
variable {ts : List Int} {P Q : List Pnt} {a : Nat}
theorem Top.from (T : Top P a) {i k : Nat} (he : edge P i k) : (i < a → k ≤ a) ∧ (i = a → k = a + 1) ∧ (a < i → a + 1 ≤ k) := by
 refine ⟨fun h => ?_, fun h => ?_, fun h => ?_⟩
 ·have := T.lo i h _ he.2; omega
 ·have := he.2
  rw [h, T.n, List.mem_singleton] at this; omega
 ·have := T.hi i h _ he.2; omega
theorem Top.edge (T : Top P a) : edge P a (a + 1) := ⟨by have := T.l; omega, by rw [T.n]; simp⟩
end
end Go.AL
namespace Go.AL
structure Ins (B S : List Pnt) (a : Nat) : Prop where
 t : Top B a
 l : B.length = S.length + 1
 lo : ∀ i, i < a → S[i]! = B[i]!
 hi : ∀ i, a ≤ i → i < S.length → B[i + 1]! = D7 1 S[i]!
 hb : ∀ i, a ≤ i → i < S.length → ∀ k ∈ S[i]!.next, (a : Int) ≤ k
theorem Ins.of {p : Prg} {k : Nat} (hk : k < p.body.length) (hs : p.body[k]!.op ≠ 9 ∧ p.body[k]!.op ≠ 10) : Ins (aC p) (aC ⟨p.types, A7 k p.body⟩) (b8 (p.body.take k)) := by
 have e := w5 hk hs
 have T := (Top.of hk hs).1
 have e2 : aC ⟨p.types, A7 k p.body⟩ = dZ 0 (p.body.take k) ++ (dZ (b8 (p.body.take k)) (p.body.drop (k + 1)) ++ [⟨11, 0, 0, 0, []⟩]) := by
  unfold aC A7
  dsimp only
  rw [lH, Nat.zero_add, List.append_assoc]
 have hA : (dZ 0 (p.body.take k)).length = b8 (p.body.take k) := bE _ _
 have hB : (dZ (b8 (p.body.take k)) (p.body.drop (k + 1))).length = b8 (p.body.drop (k + 1)) := bE _ _
 have pR := qA (p.body.drop (k + 1)) (b8 (p.body.take k))
 rw [yA] at e
 generalize b8 (p.body.take k) = a at *
 generalize b8 (p.body.drop (k + 1)) = b at *
 have get : ∀ i, (aC ⟨p.types, A7 k p.body⟩)[i]! = if i < a then (dZ 0 (p.body.take k))[i]! else if i - a < b then (dZ a (p.body.drop (k + 1)))[i - a]! else [(⟨11, 0, 0, 0, []⟩ : Pnt)][i - a - b]! := fun i => by
  rw [e2, kV hA, kV hB]
 have aZ : ∀ i, (aC p)[i]! = if i < a then (dZ 0 (p.body.take k))[i]! else if i - a < 1 then O8 p.body[k]! a else if i - a - 1 < b then ((dZ a (p.body.drop (k + 1))).map (D7 1))[i - a - 1]! else [(⟨11, 0, 0, 0, []⟩ : Pnt)][i - a - 1 - b]! := fun i => by
  rw [e, kV hA, BP, kV (n := b) (by rw [List.length_map, hB])]
 have lS : (aC ⟨p.types, A7 k p.body⟩).length = a + b + 1 := by rw [e2]; simp only [List.length_append, List.length_cons, List.length_nil, hA, hB]; omega
 have lB : (aC p).length = a + b + 2 := by rw [e]; simp only [List.length_append, List.length_cons, List.length_nil, List.length_map, hA, hB]; omega
 refine ⟨T, by omega, fun i hi => ?_, fun i hi hl => ?_, fun i hi hl z hz => ?_⟩
 ·rw [get, aZ, if_pos hi, if_pos hi]
 ·rw [aZ, if_neg (by omega), if_neg (by omega), get, if_neg (show ¬ i < a by omega), show i + 1 - a - 1 = i - a by omega]
  by_cases q : i - a < b
  ·rw [if_pos q, if_pos q, Lq (by omega)]
  ·rw [if_neg q, if_neg q, show i - a - b = 0 by omega]; rfl
 ·rw [get, if_neg (by omega)] at hz
  by_cases q : i - a < b
  ·rw [if_pos q] at hz
   exact (pR _ (aW _ _ (by omega)) z hz).1
  ·rw [if_neg q, show i - a - b = 0 by omega] at hz
   cases hz
def Gt (a i : Nat) : Nat := if i < a then i else i + 1
section
variable {ts : List Int} {B S : List Pnt} {a : Nat}
theorem Ins.lt (I : Ins B S a) {i : Nat} (h : i < S.length) : Gt a i < B.length := by
 have := I.l
 unfold Gt; split <;> omega
theorem Ins.edge (I : Ins B S a) {i k : Nat} (he : edge S i k) : (i < a ∧ k = a ∧ Go.AL.edge B (Gt a i) a) ∨ Go.AL.edge B (Gt a i) (Gt a k) := by
 obtain ⟨hi, hk⟩ := he
 have hu := I.lt hi
 by_cases q : i < a
 ·rw [I.lo i q] at hk
  have hka := I.t.lo i q _ hk
  have e1 : Gt a i = i := if_pos q
  rw [e1] at hu ⊢
  by_cases q2 : k = a
  ·left
   rw [q2] at hk
   exact ⟨q, q2, hu, hk⟩
  ·right
   rw [show Gt a k = k from if_pos (by omega)]
   exact ⟨hu, hk⟩
 ·right
  have hka := I.hb i (by omega) hi _ hk
  rw [show Gt a i = i + 1 from if_neg q] at hu ⊢
  rw [show Gt a k = k + 1 from if_neg (by omega)]
  refine ⟨hu, ?_⟩
  rw [I.hi i (by omega) hi]
  unfold D7
  exact List.mem_map.2 ⟨_, hk, by omega⟩
theorem Ins.fwd (I : Ins B S a) {i k : Nat} (he : Go.AL.edge S i k) (G : Nat → Prop) (hE : ∀ m, Go.AL.edge B (Gt a i) m → G m) (ha : G a → G (a + 1)) : G (Gt a k) := by
 rcases I.edge he with ⟨h1, h2, h3⟩ | h
 ·rw [h2, show Gt a a = a + 1 from if_neg (by omega)]
  exact ha (hE a h3)
 ·exact hE _ h
variable {X : Nat}
end
end Go.AL
namespace Go.AL
section
variable {ts : List Int} {B S : List Pnt} {a : Nat}
theorem NI (w : WG ts S) (A : WA ts S) {i : Nat} (hi : i < S.length) (h11 : S[i]!.op ≠ 11) (h : B[i + 1]! = D7 1 S[i]!) (cs : List Int) : dX B (i + 1) cs = ((dX S i cs).1 + 1, (dX S i cs).2) := by
 have h0 := A.n i hi h11
 have hb : ∀ j, j < S[i]!.next.length → 0 ≤ S[i]!.next[j]! := fun j hj => (w.nx i hi _ (aW _ _ hj)).1
 have hl : B[i + 1]!.next.length = S[i]!.next.length := by rw [h]; unfold D7; dsimp only; rw [List.length_map]
 have hn : ∀ j, j < S[i]!.next.length → (B[i + 1]!.next[j]!).toNat = (S[i]!.next[j]!).toNat + 1 := fun j hj => by
  have := hb j hj
  rw [h, Ie hj]; omega
 unfold dX
 rw [hl]
 by_cases q : S[i]!.next.length = 2
 ·rw [if_pos q, if_pos q]
  cases cs with
  | nil => dsimp only; rw [hn 1 (by omega)]
  | cons c cs => dsimp only; rw [hn _ (by omega)]
 ·rw [if_neg q, if_neg q, hn 0 h0]
theorem NC {P Q : List Pnt} {i : Nat} (h : P[i]! = Q[i]!) (cs : List Int) : dX P i cs = dX Q i cs := by unfold dX; rw [h]
theorem Ins.bis {X : Nat} (I : Ins B S a) (w : WG ts B) (A : WA ts B) (w' : WG ts S) (A' : WA ts S) (h8 : B[a]!.op = 8) (hx : B[a]!.x = (X : Int)) :
  Bis ts S B (fun _ i j s t => j < B.length ∧ t.slots.length = ts.length ∧ Iz ts t ∧ ((j ≤ a ∧ i = j ∧ s = t) ∨ (a + 1 ≤ j ∧ j = i + 1 ∧ ∃ b : Prop, VE ts (fun j => j) (fun v => v ≠ X ∨ b) True s t ∧ (b ∨ t.slots[X]!.set = false)))) := by
 have hl := I.l
 have hal := I.t.l
 have a11 : B[a]!.op ≠ 11 := by omega
 have hXl : X < ts.length := by have := (w.x a (by omega)).2 (by omega); omega
 refine ⟨fun n i j s t ⟨hj, htl, hz, hR⟩ => ?_⟩
 rcases hR with ⟨h1, rfl, rfl⟩ | ⟨h1, rfl, b, hV, hb⟩
 ·by_cases q : i = a
  ·subst q
   refine .inr (.inr (.inl ⟨a11, i + 1, by rw [I.t.n]; simp, fun u1 u2 => ?_⟩))
   refine ⟨hal, by rw [pZ]; exact htl, Iz.step w A hj htl hz u1 a11 u2, .inr ⟨Nat.le_refl _, rfl, False, ?_, .inr ?_⟩⟩
   ·have dy := w.doY A hj htl u1 a11 u2
    obtain ⟨v1, v2⟩ := Cq (s := s) (A.a _ hj) (w.op i hj).1 (fun q => by omega) a11 u2
    rw [if_neg (by omega)] at v1
    refine ⟨⟨htl, by rw [pZ]; exact htl⟩, by rw [v1]; rfl, fun j hj => ?_, fun _ _ e => e, fun _ _ => rfl, fun v hv hf => ?_, fun v hv h1 => ⟨hz v hv h1, Iz.step w A hj htl hz u1 a11 u2 v hv h1⟩, fun _ => ?_⟩
    ·rw [v2 j (by omega), if_neg (fun z => by omega), if_neg (fun z => by omega)]
    ·have hvX : v ≠ X := hf.resolve_right id
     rw [dy v hv, CQ (by omega), if_neg (by omega), if_neg]
     ·exact ⟨rfl, rfl, fun _ _ => rfl⟩
     ·unfold aT
      rw [if_neg (by omega), if_neg (by omega), if_neg (by omega), if_pos h8, if_neg (by omega)]; decide
    ·rw [GV a11 u2, if_neg (by omega)]
   ·rw [w.doY A hj htl u1 a11 u2 X hXl, CQ (by omega), if_neg (by omega), if_pos]
    ·rfl
    ·unfold aT
     rw [if_neg (by omega), if_neg (by omega), if_neg (by omega), if_pos h8, if_pos (by omega)]
  ·have hia : i < a := by omega
   have e := I.lo i hia
   by_cases h11 : B[i]!.op = 11
   ·exact .inl ⟨by rw [e]; exact h11, h11⟩
   ·refine .inr (.inr (.inr ⟨by rw [e]; exact h11, h11, fun n' cs _ u1 u2 u3 u4 => ?_⟩))
    have he := oZ w A hj h11 cs
    have b1 := I.t.from he
    rw [NC e cs, e]
    exact ⟨rfl, cT w he, by rw [pZ]; exact htl, Iz.step w A hj htl hz u3 h11 u4, .inl ⟨b1.1 hia, rfl, rfl⟩⟩
 ·have hi : i < S.length := by omega
  have e := I.hi i (by omega) hi
  have hlk : Alike S[i]! B[i + 1]! := by rw [e]; exact .inl ⟨rfl, rfl, rfl, rfl⟩
  by_cases h11 : B[i + 1]!.op = 11
  ·exact .inl ⟨(AF hlk).2 h11, h11⟩
  ·have h11' : S[i]!.op ≠ 11 := fun q => h11 ((AF hlk).1 q)
   refine .inr (.inr (.inr ⟨h11', h11, fun n' cs _ u1 u2 u3 u4 => ?_⟩))
   have he := oZ w A hj h11 cs
   have b1 := I.t.from he
   have es := NI w' A' hi h11' e cs
   rw [(Ak hlk).2] at u1
   rw [(Ak hlk).1] at u2 ⊢
   have hF : ∀ v, v < ts.length → aT ts B[i + 1]! (v : Nat) ≠ 0 → v ≠ X ∨ b := fun v hv hu => by
    by_cases q : v = X
    ·subst q
     right
     rcases hb with hb | hb
     ·exact hb
     ·rw [kX u3 hv hu] at hb; cases hb
    ·exact .inl q
   have hS := hV.step w A hj u1 u3 h11 u2 u4 hF
   refine ⟨by rw [es], cT w he, by rw [pZ]; exact htl, Iz.step w A hj htl hz u3 h11 u4, .inr ⟨b1.2.2 (by omega), by rw [es], b ∨ aN B[i + 1]! = (X : Int), hS.mono fun v hv => ?_, ?_⟩⟩
   ·rcases hv with hv | hv | hv
    ·exact .inl (.inl hv)
    ·exact .inl (.inr hv)
    ·by_cases q2 : v = X
     ·subst q2; exact .inr hv
     ·exact .inl (.inl q2)
   ·rcases hb with hb | hb
    ·exact .inl (.inl hb)
    ·by_cases q : aN B[i + 1]! = (X : Int)
     ·exact .inl (.inr q)
     ·right
      rw [w.doY A hj htl u3 h11 u4 X hXl, if_neg q]
      split
      ·rfl
      ·exact hb
theorem Ins.run {X : Nat} (I : Ins B S a) (w : WG ts B) (A : WA ts B) (w' : WG ts S) (A' : WA ts S) (h8 : B[a]!.op = 8) (hx : B[a]!.x = (X : Int)) (cs : List Int) (n m : Nat) (h1 : (cQ ts S cs n).2.1 = 0) (h2 : (cQ ts B cs m).2.1 = 0) :
  (cQ ts S cs n).1.read = (cQ ts B cs m).1.read ∧ (cQ ts S cs n).1.cells.length = (cQ ts B cs m).1.cells.length := by
 obtain ⟨n', i, j, s, t, ⟨hj, hsl, hz, hR⟩, q1, q2, q3, q4, q5⟩ := (I.bis w A w' A' h8 hx).run _ n m (Nat.le_refl _) 0 0 cs (mc0 ts.length) (mc0 ts.length) 0 0
  ⟨w.p0, by simp [mc0], Iz.start, .inl ⟨Nat.zero_le _, rfl, rfl⟩⟩ h1 h2
 change (cQ ts S cs n).1 = _ at q2
 change (cQ ts B cs m).1 = _ at q4
 rw [q2, q4, lX, lX, nH, nH]
 rcases hR with ⟨_, _, rfl⟩ | ⟨_, _, b, hV, _⟩
 ·exact ⟨rfl, rfl⟩
 ·exact ⟨(hV.r trivial).symm, hV.n.symm⟩
end
end Go.AL
namespace Go.AL
theorem mB {p : Prg} (h : bB p = true) : bK p.types = true ∧ okL p.types 4 p.body = true ∧ aP p.body ≤ 30 := by
 unfold bB at h
 simp only [Bool.and_eq_true, decide_eq_true_eq] at h
 exact ⟨h.1.1, h.1.2, h.2⟩
end Go.AL
namespace Go.AL
set_option linter.unusedVariables false
section
variable {C : Ctx} {ι : Pl} {F : Nat → Prop} {H : Nat → Option (List AV)} {w : World}
theorem zH (P : Program) {w : World} {b o : Nat} {arr : Array Value} {e : TypeId} {vs : List Value} (hb : w.heap[b]? = some (.cells arr e (0, 0))) (hl : o + vs.length ≤ arr.size) (h1 : ∀ v ∈ vs, v.oneCell' = true) :
  w.setCells b o vs = w.setRow b (arr.toList.take o ++ vs ++ arr.toList.drop (o + vs.length)).toArray := by
 have a := run_storeCells_cells (P := P) b o vs 0 w (fun j hj => by
  unfold World.cell?; simp only [hb]; rw [Array.getElem?_eq_getElem (by omega)]; rfl) (fun j hj => by unfold World.frozen?; rw [hb]; simp) h1
 have c := run_storeCells_at P b o e vs 0 arr w hb (by omega) h1
 rw [a] at c
 simp only [Nat.add_zero] at c
 injection c
theorem HG.extS (P : Program) (gh : HG C ι F H w) {id off b β : Nat} {cs new : List AV} {l : List Value} {arr : Array Value} {e : TypeId} (hH : H id = some cs) (hi : ι id = some (some (b, β))) (hb : w.heap[b]? = some (.cells arr e (0, 0)))
  (hoff : off ≤ cs.length) (hl : β + off + l.length ≤ arr.size) (hn : RdL w (aJ C.X ι H) ι new l) :
  HG C ι F (dQ H id (some (cs.take off ++ new))) (w.setCells b (β + off) l) ∧ Carry w (aJ C.X ι H) ι (w.setCells b (β + off) l) (aJ C.X ι (dQ H id (some (cs.take off ++ new)))) ι ∧ ∃ arr', (w.setCells b (β + off) l).heap[b]? = some (.cells arr' e (0, 0)) ∧ arr'.size = arr.size := by
 rcases gh.obj id cs hH with ⟨q1, _⟩ | ⟨b', β', arr', el', q1, q2, q3, q4, q5, q6⟩
 ·rw [q1] at hi; cases hi
 rw [q1] at hi
 cases hi
 rw [q2] at hb
 cases hb
 have hseg := RdC.seg q2 (RdC.take off q4)
 rw [List.length_take, show min off cs.length = off from by omega] at hseg
 have hall := RdL.append hseg hn
 rw [zH P q2 hl (kO hn)]
 have hh := setRow_heap w b arr (arr.toList.take (β + off) ++ l ++ arr.toList.drop (β + off + l.length)).toArray e _ q2
 have hsz : (arr.toList.take (β + off) ++ l ++ arr.toList.drop (β + off + l.length)).toArray.size = arr.size := by simp; omega
 obtain ⟨g1, c1⟩ := gh.mut (cs := cs.take off ++ new) hH q1 hh (by rw [hsz]; simp [pQ, q2])
  (pre := arr.toList.take β) (l := (arr.toList.drop β).take off ++ l) (post := arr.toList.drop (β + off + l.length)) (by
   have e1 : arr.toList.take (β + off) = arr.toList.take β ++ (arr.toList.drop β).take off := by rw [List.take_add]
   simp only [e1, List.append_assoc]) (by simp; omega) hall (fun k hk => setRow_other w b k _ hk) rfl rfl rfl (by simp)
 exact ⟨g1, c1, _, hh, hsz⟩
theorem HG.mid (P : Program) (gh : HG C ι F H w) {id off b β : Nat} {cs new : List AV} {l : List Value} (hH : H id = some cs) (hi : ι id = some (some (b, β)))
  (hl : off + new.length ≤ cs.length) (hn : RdL w (aJ C.X ι H) ι new l) :
  HG C ι F (dQ H id (some (gI cs off new))) (w.setCells b (β + off) l) ∧ Carry w (aJ C.X ι H) ι (w.setCells b (β + off) l) (aJ C.X ι (dQ H id (some (gI cs off new)))) ι := by
 obtain ⟨w', h1, h2, h3⟩ := u5 (P := P) gh hH hi hl hn
 rcases gh.obj id cs hH with ⟨q1, _⟩ | ⟨b', β', arr', el', q1, q2, q3, q4, q5, q6⟩
 ·rw [q1] at hi; cases hi
 rw [q1] at hi
 cases hi
 have hlen := RdL.length hn
 have a := run_storeCells_cells (P := P) b (β + off) l 0 w (fun j hj => by
  unfold World.cell?; simp only [q2]; rw [Array.getElem?_eq_getElem (by omega)]; rfl) (fun j hj => by unfold World.frozen?; rw [q2]; simp) (kO hn)
 rw [Nat.add_zero] at a
 rw [h1] at a
 injection a with _ e
 rw [← e]
 exact ⟨h2, h3⟩
end
end Go.AL
