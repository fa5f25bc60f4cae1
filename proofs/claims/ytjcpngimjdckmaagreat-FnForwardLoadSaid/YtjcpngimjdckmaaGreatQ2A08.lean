/-
 A part of the proofs over this program: rules and contracts of its functions (the rules).
-/
import Derived.Test.YtjcpngimjdckmaaGreatQ2A07
set_option linter.unusedVariables false
set_option linter.unusedSimpArgs false
namespace Go.AL
structure Ins (B S : List Pnt) (a : Nat) : Prop where
 t : Top B a
 l : B.length = S.length + 1
 lo : ∀ i, i < a → S[i]! = B[i]!
 hi : ∀ i, a ≤ i → i < S.length → B[i + 1]! = DD 1 S[i]!
 hb : ∀ i, a ≤ i → i < S.length → ∀ k ∈ S[i]!.next, (a : Int) ≤ k
theorem Ins.of {p : Prg} {k : Nat} (hk : k < p.body.length) (hs : p.body[k]!.op ≠ 9 ∧ p.body[k]!.op ≠ 10) : Ins (bX p) (bX ⟨p.types, gL k p.body⟩) (dK (p.body.take k)) := by
 have e := pZ hk hs
 have T := (Top.of hk hs).1
 have e2 : bX ⟨p.types, gL k p.body⟩ = fB 0 (p.body.take k) ++ (fB (dK (p.body.take k)) (p.body.drop (k + 1)) ++ [⟨11, 0, 0, 0, []⟩]) := by
  unfold bX gL
  dsimp only
  rw [jX, Nat.zero_add, List.append_assoc]
 have hA : (fB 0 (p.body.take k)).length = dK (p.body.take k) := dD _ _
 have hB : (fB (dK (p.body.take k)) (p.body.drop (k + 1))).length = dK (p.body.drop (k + 1)) := dD _ _
 have M4 := qT (p.body.drop (k + 1)) (dK (p.body.take k))
 rw [xX] at e
 generalize dK (p.body.take k) = a at *
 generalize dK (p.body.drop (k + 1)) = b at *
 have get : ∀ i, (bX ⟨p.types, gL k p.body⟩)[i]! = if i < a then (fB 0 (p.body.take k))[i]! else if i - a < b then (fB a (p.body.drop (k + 1)))[i - a]! else [(⟨11, 0, 0, 0, []⟩ : Pnt)][i - a - b]! := fun i => by
  rw [e2, lA hA, lA hB]
 have cK : ∀ i, (bX p)[i]! = if i < a then (fB 0 (p.body.take k))[i]! else if i - a < 1 then FV p.body[k]! a else if i - a - 1 < b then ((fB a (p.body.drop (k + 1))).map (DD 1))[i - a - 1]! else [(⟨11, 0, 0, 0, []⟩ : Pnt)][i - a - 1 - b]! := fun i => by
  rw [e, lA hA, Ai, lA (n := b) (by rw [List.length_map, hB])]
 have lS : (bX ⟨p.types, gL k p.body⟩).length = a + b + 1 := by rw [e2]; simp only [List.length_append, List.length_cons, List.length_nil, hA, hB]; omega
 have lB : (bX p).length = a + b + 2 := by rw [e]; simp only [List.length_append, List.length_cons, List.length_nil, List.length_map, hA, hB]; omega
 refine ⟨T, by omega, fun i hi => ?_, fun i hi hl => ?_, fun i hi hl z hz => ?_⟩
 ·rw [get, cK, if_pos hi, if_pos hi]
 ·rw [cK, if_neg (by omega), if_neg (by omega), get, if_neg (show ¬ i < a by omega), show i + 1 - a - 1 = i - a by omega]
  by_cases q : i - a < b
  ·rw [if_pos q, if_pos q, JG (by omega)]
  ·rw [if_neg q, if_neg q, show i - a - b = 0 by omega]; rfl
 ·rw [get, if_neg (by omega)] at hz
  by_cases q : i - a < b
  ·rw [if_pos q] at hz
   exact (M4 _ (b9 _ _ (by omega)) z hz).1
  ·rw [if_neg q, show i - a - b = 0 by omega] at hz
   cases hz
def iW (a i : Nat) : Nat := if i < a then i else i + 1
section
variable {ts : List Int} {B S : List Pnt} {a : Nat}
theorem Ins.al (I : Ins B S a) {i : Nat} (h : i < S.length) : S[i]!.op = B[iW a i]!.op ∧ S[i]!.x = B[iW a i]!.x ∧ S[i]!.y = B[iW a i]!.y ∧ S[i]!.n = B[iW a i]!.n := by
 unfold iW
 by_cases q : i < a
 ·rw [if_pos q, I.lo i q]; exact ⟨rfl, rfl, rfl, rfl⟩
 ·rw [if_neg q, I.hi i (by omega) h]; exact ⟨rfl, rfl, rfl, rfl⟩
theorem Ins.alike (I : Ins B S a) {i : Nat} (h : i < S.length) : Alike S[i]! B[iW a i]! := .inl (I.al h)
theorem Ins.lt (I : Ins B S a) {i : Nat} (h : i < S.length) : iW a i < B.length := by
 have := I.l
 unfold iW; split <;> omega
theorem Ins.edge (I : Ins B S a) {i k : Nat} (he : edge S i k) : (i < a ∧ k = a ∧ Go.AL.edge B (iW a i) a) ∨ Go.AL.edge B (iW a i) (iW a k) := by
 obtain ⟨hi, hk⟩ := he
 have hu := I.lt hi
 by_cases q : i < a
 ·rw [I.lo i q] at hk
  have hka := I.t.lo i q _ hk
  have e1 : iW a i = i := if_pos q
  rw [e1] at hu ⊢
  by_cases q2 : k = a
  ·left
   rw [q2] at hk
   exact ⟨q, q2, hu, hk⟩
  ·right
   rw [show iW a k = k from if_pos (by omega)]
   exact ⟨hu, hk⟩
 ·right
  have hka := I.hb i (by omega) hi _ hk
  rw [show iW a i = i + 1 from if_neg q] at hu ⊢
  rw [show iW a k = k + 1 from if_neg (by omega)]
  refine ⟨hu, ?_⟩
  rw [I.hi i (by omega) hi]
  unfold DD
  exact List.mem_map.2 ⟨_, hk, by omega⟩
theorem Ins.fwd (I : Ins B S a) {i k : Nat} (he : Go.AL.edge S i k) (G : Nat → Prop) (hE : ∀ m, Go.AL.edge B (iW a i) m → G m) (ha : G a → G (a + 1)) : G (iW a k) := by
 rcases I.edge he with ⟨h1, h2, h3⟩ | h
 ·rw [h2, show iW a a = a + 1 from if_neg (by omega)]
  exact ha (hE a h3)
 ·exact hE _ h
structure Dead (ts : List Int) (B : List Pnt) (a X : Nat) : Prop where
 s : bD B[a]! = (X : Int)
 u : ∀ v : Nat, bQ ts B[a]! v ≠ 2
 d : ¬ Nd ts B (a + 1, X)
 x : X < ts.length
 t : ts[X]! ≠ 2
 o : B[a]!.op ≠ 2
variable {X : Nat}
theorem Dead.nd (D : Dead ts B a X) (I : Ins B S a) {i k v : Nat} (he : Go.AL.edge S i k) (hs : bD S[i]! ≠ (v : Int)) (h : Nd ts B (iW a k, v)) : Nd ts B (iW a i, v) ∧ ∃ m, Go.AL.edge B (iW a i) m ∧ Nd ts B (m, v) := by
 have hs' : bD B[iW a i]! ≠ (v : Int) := by rw [← (I.alike he.1).set]; exact hs
 rcases I.edge he with ⟨h1, h2, h3⟩ | h3
 ·rw [h2, show iW a a = a + 1 from if_neg (by omega)] at h
  have hv : v ≠ X := fun q => D.d (by rw [← q]; exact h)
  have hm : Nd ts B (a, v) := .step h ⟨rfl, I.t.edge, by dsimp only; rw [D.s]; omega⟩
  exact ⟨.step hm ⟨rfl, h3, hs'⟩, a, h3, hm⟩
 ·exact ⟨.step h ⟨rfl, h3, hs'⟩, _, h3, h⟩
theorem Dead.Nd (D : Dead ts B a X) (I : Ins B S a) {b : Nat × Nat} (h : Nd ts S b) : Go.AL.Nd ts B (iW a b.1, b.2) := by
 induction h with
 | base h =>
  obtain ⟨hi, hv, hu⟩ := h
  exact .base ⟨I.lt hi, hv, by rw [← (I.alike hi).use]; exact hu⟩
 | step _ r ih =>
  obtain ⟨r1, r2, r3⟩ := r
  rw [r1]
  exact (D.nd I r2 r3 ih).1
theorem Dead.Na (D : Dead ts B a X) (I : Ins B S a) {b : Nat × Nat} (h : Na ts S b) : Go.AL.Na ts B (iW a b.1, b.2) ∨ (b.2 = X ∧ ¬ Go.AL.Nd ts B (iW a b.1, X)) := by
 have ha : ∀ v : Nat, (Go.AL.Na ts B (a, v) ∨ (v = X ∧ ¬ Go.AL.Nd ts B (a, X))) → (Go.AL.Na ts B (a + 1, v) ∨ (v = X ∧ ¬ Go.AL.Nd ts B (a + 1, X))) := fun v h => by
  by_cases q : v = X
  ·exact .inr ⟨q, D.d⟩
  ·rcases h with h | h
   ·exact .inl (.step h ⟨rfl, I.t.edge, by dsimp only; rw [D.s]; omega⟩)
   ·exact absurd h.1 q
 induction h with
 | @base b h =>
  obtain ⟨hv, h | ⟨i, he, hu, hs⟩⟩ := h
  ·rw [h]
   by_cases q : 0 < a
   ·rw [show iW a 0 = 0 from if_pos q]; exact .inl (.base ⟨hv, .inl rfl⟩)
   ·rw [show iW a 0 = a + 1 by unfold iW; rw [if_neg q]; omega]
    exact ha b.2 (.inl (.base ⟨hv, .inl (by dsimp only; omega)⟩))
  ·refine I.fwd he (fun m => Go.AL.Na ts B (m, b.2) ∨ (b.2 = X ∧ ¬ Go.AL.Nd ts B (m, X))) (fun m hm => .inl (.base ⟨hv, .inr ⟨_, hm, ?_, ?_⟩⟩)) (ha b.2)
   ·rw [← (I.alike he.1).use]; exact hu
   ·rw [← (I.alike he.1).set]; exact hs
 | @step x y _ r ih =>
  obtain ⟨r1, r2, r3⟩ := r
  rw [r1]
  rcases ih with ih | ⟨i1, i2⟩
  ·exact I.fwd r2 (fun m => Go.AL.Na ts B (m, x.2) ∨ (x.2 = X ∧ ¬ Go.AL.Nd ts B (m, X))) (fun m hm => .inl (.step ih ⟨rfl, hm, by dsimp only; rw [← (I.alike r2.1).set]; exact r3⟩)) (ha x.2)
  ·rw [i1] at r3
   exact .inr ⟨i1, fun q => i2 (D.nd I r2 r3 q).1⟩
theorem Dead.Mb (D : Dead ts B a X) (I : Ins B S a) {b : Nat × Nat} (h : Mb ts S b) : Go.AL.Mb ts B (iW a b.1, b.2) := by
 have ha : ∀ v : Nat, Go.AL.Mb ts B (a, v) → Go.AL.Mb ts B (a + 1, v) := fun v h => .step h ⟨rfl, I.t.edge, D.u v⟩
 induction h with
 | @base b h =>
  obtain ⟨i, he, hs⟩ := h
  exact I.fwd he (fun m => Go.AL.Mb ts B (m, b.2)) (fun m hm => .base ⟨_, hm, by rw [← (I.alike he.1).set]; exact hs⟩) (ha b.2)
 | @step x y _ r ih =>
  obtain ⟨r1, r2, r3⟩ := r
  rw [r1]
  exact I.fwd r2 (fun m => Go.AL.Mb ts B (m, x.2)) (fun m hm => .step ih ⟨rfl, hm, by dsimp only; rw [← (I.alike r2.1).use]; exact r3⟩) (ha x.2)
theorem Dead.Fr (D : Dead ts B a X) (I : Ins B S a) {b : Nat × Nat × Nat} (h : yY ts S b) : yY ts B (iW a b.1, b.2.1, iW a b.2.2) ∨ (b.2.1 = X ∧ ¬ Go.AL.Nd ts B (iW a b.1, X)) := by
 have ha : ∀ v L : Nat, (yY ts B (a, v, L) ∨ (v = X ∧ ¬ Go.AL.Nd ts B (a, X))) → (yY ts B (a + 1, v, L) ∨ (v = X ∧ ¬ Go.AL.Nd ts B (a + 1, X))) := fun v L h => by
  by_cases q : v = X
  ·exact .inr ⟨q, D.d⟩
  ·rcases h with h | h
   ·exact .inl (.step h ⟨rfl, I.t.edge, .inl ⟨by dsimp only; rw [D.s]; omega, rfl, D.u v⟩⟩)
   ·exact absurd h.1 q
 induction h with
 | @base b h =>
  obtain ⟨he, hl, hs⟩ := h
  exact I.fwd he (fun m => yY ts B (m, b.2.1, iW a b.2.2) ∨ (b.2.1 = X ∧ ¬ Go.AL.Nd ts B (m, X))) (fun m hm => .inl (.base ⟨hm, by rw [← (I.alike he.1).ln]; exact hl, by rw [← (I.alike he.1).set]; exact hs⟩)) (ha _ _)
 | @step x y h r ih =>
  obtain ⟨r1, r2, r3⟩ := r
  rw [r1]
  rcases r3 with ⟨r4, r5, r6⟩ | ⟨r4, r5, r6⟩
  ·rw [r5] at r4 ⊢
   rcases ih with ih | ⟨i1, i2⟩
   ·exact I.fwd r2 (fun m => yY ts B (m, x.2.1, iW a x.2.2) ∨ (x.2.1 = X ∧ ¬ Go.AL.Nd ts B (m, X)))
     (fun m hm => .inl (.step ih ⟨rfl, hm, .inl ⟨by dsimp only; rw [← (I.alike r2.1).set]; exact r4, rfl, by dsimp only; rw [← (I.alike r2.1).use]; exact r6⟩⟩)) (ha _ _)
   ·rw [i1] at r4
    exact .inr ⟨i1, fun q => i2 (D.nd I r2 r4 q).1⟩
  ·have hal := I.al r2.1
   rcases ih with ih | ⟨i1, i2⟩
   ·refine I.fwd r2 (fun m => yY ts B (m, y.2.1, iW a x.2.2) ∨ (y.2.1 = X ∧ ¬ Go.AL.Nd ts B (m, X)))
     (fun m hm => .inl (.step ih ⟨rfl, hm, .inr ⟨by dsimp only; rw [← (I.alike r2.1).set]; exact r4, by dsimp only; rw [← hal.2.2.1]; exact r5, ?_⟩⟩)) (ha _ _)
    dsimp only
    rw [← (I.alike r2.1).ln, ← hal.1]; exact r6
   ·exfalso
    refine i2 (.base ⟨I.lt r2.1, D.x, ?_⟩)
    dsimp only
    rw [← (I.alike r2.1).use, ← i1]
    rcases r6 with r6 | r6
    ·exact jK (by have := DR r6.1; omega) r5
    ·exact xM r6 r5
theorem Dead.Pl (D : Dead ts B a X) (I : Ins B S a) (w : WG ts S) {b : Nat × Nat} (h : BU ts S b) : BU ts B (iW a b.1, iW a b.2) ∨ (S[b.2]!.y = (X : Int) ∧ ¬ Go.AL.Nd ts B (iW a b.1, X)) := by
 have ha : ∀ L : Nat, L < S.length → (BU ts B (a, iW a L) ∨ (S[L]!.y = (X : Int) ∧ ¬ Go.AL.Nd ts B (a, X))) → (BU ts B (a + 1, iW a L) ∨ (S[L]!.y = (X : Int) ∧ ¬ Go.AL.Nd ts B (a + 1, X))) := fun L hL h => by
  by_cases q : S[L]!.y = (X : Int)
  ·exact .inr ⟨q, D.d⟩
  ·rcases h with h | h
   ·have hy := (I.al hL).2.2.1
    have h0 := (w.y L hL).1
    have hu := D.u S[L]!.y.toNat
    rw [Int.toNat_of_nonneg h0] at hu
    exact .inl (.step h ⟨rfl, I.t.edge, by dsimp only; rw [← hy]; exact hu, by dsimp only; rw [D.s, ← hy]; exact fun z => q z.symm⟩)
   ·exact absurd h.1 q
 induction h with
 | @base b h =>
  obtain ⟨he, hl⟩ := h
  exact I.fwd he (fun m => BU ts B (m, iW a b.2) ∨ (S[b.2]!.y = (X : Int) ∧ ¬ Go.AL.Nd ts B (m, X))) (fun m hm => .inl (.base ⟨hm, by rw [← (I.alike he.1).ln]; exact hl⟩)) (ha _ he.1)
 | @step x y h r ih =>
  obtain ⟨r1, r2, r3, r4⟩ := r
  have hL := (rF h).1
  rw [r1]
  rcases ih with ih | ⟨i1, i2⟩
  ·exact I.fwd r2 (fun m => BU ts B (m, iW a x.2) ∨ (S[x.2]!.y = (X : Int) ∧ ¬ Go.AL.Nd ts B (m, X)))
    (fun m hm => .inl (.step ih ⟨rfl, hm, by dsimp only; rw [← (I.alike r2.1).use, ← (I.al hL).2.2.1]; exact r3, by dsimp only; rw [← (I.alike r2.1).set, ← (I.al hL).2.2.1]; exact r4⟩)) (ha _ hL)
  ·rw [i1] at r4
   exact .inr ⟨i1, fun q => i2 (D.nd I r2 r4 q).1⟩
theorem Dead.noI (D : Dead ts B a X) (I : Ins B S a) (w : WG ts S) (h : NoI ts B) : NoI ts S := by
 have us : ∀ i : Nat, i < S.length → bQ ts S[i]! X ≠ 0 → Go.AL.Nd ts B (iW a i, X) := fun i hi hu => .base ⟨I.lt hi, D.x, by dsimp only; rw [← (I.alike hi).use]; exact hu⟩
 refine ⟨fun i v hi hv hu hn => ?_, fun i L hi hc => ?_⟩
 ·rcases D.Na I hn with z | ⟨z1, z2⟩
  ·exact h.u _ v (I.lt hi) hv (by rw [← (I.alike hi).use]; exact hu) z
  ·dsimp only at z1 z2
   rw [z1] at hu
   exact z2 (us i hi hu)
 ·obtain ⟨v, u, wr, ⟨⟨k, k1, k2⟩, k3, k4⟩, h2, h3, h4, h5, h6⟩ := hc
  obtain ⟨e1, e2, e3, _⟩ := I.al hi
  have hL := (rF h4).1
  have hl := I.al hL
  obtain ⟨n1, n2⟩ := D.nd I k1 k3 (D.Nd I k2)
  have f3 : yY ts B (iW a i, v, iW a L) := by
   rcases D.Fr I h3 with z | ⟨z1, z2⟩
   ·exact z
   ·dsimp only at z1 z2
    rw [z1] at n1
    exact absurd n1 z2
  have f4 : BU ts B (iW a i, iW a L) := by
   rcases D.Pl I w h4 with z | ⟨z1, z2⟩
   ·exact z
   ·dsimp only at z1 z2
    refine absurd (us i hi ?_) z2
    have hu : u = X := by omega
    rw [hu] at h2
    rcases h2 with z | z | z | z | z
    ·exact jK (by omega) z.2.1.symm
    ·exact jK (by omega) z.2.1.symm
    ·rcases z.1 with q | q
     ·exact Av q z.2.1.symm
     ·exact Ho q z.2.1.symm
    ·exact xM z.1 z.2.2.1.symm
    ·exact absurd z.2.1 D.t
  refine h.c (iW a i) (iW a L) (I.lt hi) ⟨v, u, wr, ⟨n2, by rw [← (I.alike hi).set]; exact k3, by rw [← (I.alike hi).use]; exact k4⟩, ?_, f3, f4, by rw [← hl.2.2.1]; exact h5, by rw [← hl.1]; exact h6⟩
  unfold Ac at h2 ⊢
  rw [← e1, ← e2, ← e3, ← (I.alike hi).set]
  rcases h2 with z | z | z | z | ⟨z1, z2, z3, z4⟩
  ·exact .inl z
  ·exact .inr (.inl z)
  ·exact .inr (.inr (.inl z))
  ·exact .inr (.inr (.inr (.inl z)))
  ·exact .inr (.inr (.inr (.inr ⟨z1, z2, D.Mb I z3, z4⟩)))
end
end Go.AL
namespace Go.AL
section
variable {ts : List Int} {B S : List Pnt} {a : Nat}
theorem HS (w : WG ts S) (A : WA ts S) {i : Nat} (hi : i < S.length) (h11 : S[i]!.op ≠ 11) (h : B[i + 1]! = DD 1 S[i]!) (cs : List Int) : eE B (i + 1) cs = ((eE S i cs).1 + 1, (eE S i cs).2) := by
 have h0 := A.n i hi h11
 have hb : ∀ j, j < S[i]!.next.length → 0 ≤ S[i]!.next[j]! := fun j hj => (w.nx i hi _ (b9 _ _ hj)).1
 have hl : B[i + 1]!.next.length = S[i]!.next.length := by rw [h]; unfold DD; dsimp only; rw [List.length_map]
 have hn : ∀ j, j < S[i]!.next.length → (B[i + 1]!.next[j]!).toNat = (S[i]!.next[j]!).toNat + 1 := fun j hj => by
  have := hb j hj
  rw [h, Ih hj]; omega
 unfold eE
 rw [hl]
 by_cases q : S[i]!.next.length = 2
 ·rw [if_pos q, if_pos q]
  cases cs with
  | nil => dsimp only; rw [hn 1 (by omega)]
  | cons c cs => dsimp only; rw [hn _ (by omega)]
 ·rw [if_neg q, if_neg q, hn 0 h0]
theorem HJ {P Q : List Pnt} {i : Nat} (h : P[i]! = Q[i]!) (cs : List Int) : eE P i cs = eE Q i cs := by unfold eE; rw [h]
theorem Mv {x y : Sl} (h1 : y.set = x.set) (h2 : y.num = x.num) (h3 : x.ptr = ⟨0, 0⟩) (h4 : y.ptr = ⟨0, 0⟩) : x = y := by
 cases x; cases y
 simp only at h1 h2 h3 h4
 rw [h1, h2, h3, h4]
theorem Dead.bis {X : Nat} (D : Dead ts B a X) (I : Ins B S a) (w : WG ts B) (A : WA ts B) (w' : WG ts S) (A' : WA ts S) (h7 : B[a]!.op ≠ 7) :
  Bis ts B S (fun _ i j s t => i < B.length ∧ s.slots.length = ts.length ∧ Iz ts s ∧ ((i ≤ a ∧ i = j ∧ s = t) ∨ (a + 1 ≤ i ∧ i = j + 1 ∧ VE ts (fun j => j) (fun v => v ≠ X ∨ Go.AL.Nd ts B (i, X)) False s t))) := by
 have hl := I.l
 have hal := I.t.l
 have a11 : B[a]!.op ≠ 11 := fun q => by
  have := D.s
  rw [oB (by omega)] at this; omega
 refine ⟨fun n i j s t ⟨hi, hsl, hz, hR⟩ => ?_⟩
 rcases hR with ⟨h1, rfl, rfl⟩ | ⟨h1, rfl, hV⟩
 ·by_cases q : i = a
  ·subst q
   refine .inr (.inl ⟨a11, i + 1, by rw [I.t.n]; simp, fun n' _ u1 u2 => ?_⟩)
   refine ⟨hal, by rw [gH]; exact hsl, Iz.step w A hi hsl hz u1 a11 u2, .inr ⟨Nat.le_refl _, rfl, ?_⟩⟩
   have dy := w.doY A hi hsl u1 a11 u2
   have hy := w.y i hi
   have hx := w.x i hi
   obtain ⟨v1, v2⟩ := qP (s := s) (A.a _ hi) (w.op i hi).1 (fun q => by have := ((A.a _ hi).t3 q).2; omega) a11 u2
   rw [if_neg D.o] at v1
   refine ⟨⟨by rw [gH]; exact hsl, hsl⟩, by rw [v1]; rfl, fun j hj => ?_, fun _ _ e => e, fun _ _ => rfl, fun v hv hf => ?_, fun v hv h1 => ⟨Iz.step w A hi hsl hz u1 a11 u2 v hv h1, hz v hv h1⟩, fun z => z.elim⟩
   ·rw [v2 j hj, if_neg (fun z => D.o z.1), if_neg (fun z => h7 z.1)]
   ·have hvX : v ≠ X := hf.resolve_right D.d
    rw [dy v hv, D.s, if_neg (by omega), if_neg (D.u v)]
    exact ⟨rfl, rfl, fun _ _ => rfl⟩
  ·have hia : i < a := by omega
   have e := I.lo i hia
   by_cases h11 : B[i]!.op = 11
   ·exact .inl ⟨h11, by rw [e]; exact h11⟩
   ·refine .inr (.inr (.inr ⟨h11, by rw [e]; exact h11, fun n' cs _ u1 u2 u3 u4 => ?_⟩))
    have he := iL w A hi h11 cs
    have b1 := I.t.from he
    rw [HJ e cs, e]
    exact ⟨rfl, eH w he, by rw [gH]; exact hsl, Iz.step w A hi hsl hz u1 h11 u2, .inl ⟨b1.1 hia, rfl, rfl⟩⟩
 ·have hj : j < S.length := by omega
  have e := I.hi j (by omega) hj
  have hlk : Alike S[j]! B[j + 1]! := by rw [e]; exact .inl ⟨rfl, rfl, rfl, rfl⟩
  by_cases h11 : B[j + 1]!.op = 11
  ·exact .inl ⟨h11, (pP hlk).2 h11⟩
  ·have h11' : S[j]!.op ≠ 11 := fun q => h11 ((pP hlk).1 q)
   refine .inr (.inr (.inr ⟨h11, h11', fun n' cs _ u1 u2 u3 u4 => ?_⟩))
   have he := iL w A hi h11 cs
   have b1 := I.t.from he
   have es := HS w' A' hj h11' e cs
   rw [(oX hlk).2] at u3
   rw [(oX hlk).1] at u4 ⊢
   have hF : ∀ v, v < ts.length → bQ ts B[j + 1]! (v : Nat) ≠ 0 → v ≠ X ∨ Go.AL.Nd ts B (j + 1, X) := fun v hv hu => by
    by_cases q : v = X
    ·subst q; exact .inr (.base ⟨hi, hv, hu⟩)
    ·exact .inl q
   have hS := hV.step w A hi u1 u3 h11 u2 u4 hF
   refine ⟨by rw [es], eH w he, by rw [gH]; exact hsl, Iz.step w A hi hsl hz u1 h11 u2, .inr ⟨b1.2.2 (by omega), by rw [es], hS.mono fun v hv => ?_⟩⟩
   by_cases q : bD B[j + 1]! = (v : Int)
   ·exact .inr q
   ·left
    rcases hv with hv | hv
    ·exact .inl hv
    ·by_cases q2 : v = X
     ·subst q2; exact .inr (.step hv ⟨rfl, he, q⟩)
     ·exact .inl q2
theorem Dead.run {X : Nat} (D : Dead ts B a X) (I : Ins B S a) (w : WG ts B) (A : WA ts B) (w' : WG ts S) (A' : WA ts S) (h7 : B[a]!.op ≠ 7) (cs : List Int) (n m : Nat) (h1 : (dI ts B cs n).2.1 = 0) (h2 : (dI ts S cs m).2.1 = 0) (v : Nat) (hv : v < ts.length) (hX : v ≠ X) (ht : ts[v]! = 1) :
  (dI ts B cs n).1.slots[v]! = (dI ts S cs m).1.slots[v]! := by
 obtain ⟨n', i, j, s, t, ⟨hi, hsl, hz, hR⟩, q1, q2, q3, q4, q5⟩ := (D.bis I w A w' A' h7).run _ n m (Nat.le_refl _) 0 0 cs (mc0 ts.length) (mc0 ts.length) 0 0
  ⟨w.p0, by simp [mc0], Iz.start, .inl ⟨Nat.zero_le _, rfl, rfl⟩⟩ h1 h2
 change (dI ts B cs n).1 = _ at q2
 change (dI ts S cs m).1 = _ at q4
 rw [q2, q4, jM _ _ _ _ _ (by omega), jM _ _ _ _ _ (by omega)]
 rcases hR with ⟨_, _, rfl⟩ | ⟨_, _, hV⟩
 ·rfl
 ·have e1 := hV.v v hv (.inl hX)
  have e2 := hV.z v hv ht
  exact Mv e1.1 e1.2.1 e2.1 e2.2
theorem Ins.bis {X : Nat} (I : Ins B S a) (w : WG ts B) (A : WA ts B) (w' : WG ts S) (A' : WA ts S) (h8 : B[a]!.op = 8) (hx : B[a]!.x = (X : Int)) :
  Bis ts S B (fun _ i j s t => j < B.length ∧ t.slots.length = ts.length ∧ Iz ts t ∧ ((j ≤ a ∧ i = j ∧ s = t) ∨ (a + 1 ≤ j ∧ j = i + 1 ∧ ∃ b : Prop, VE ts (fun j => j) (fun v => v ≠ X ∨ b) True s t ∧ (b ∨ t.slots[X]!.set = false)))) := by
 have hl := I.l
 have hal := I.t.l
 have a11 : B[a]!.op ≠ 11 := by omega
 have hXl : X < ts.length := by have := (w.x a (by omega)).2 (by omega); omega
 refine ⟨fun n i j s t ⟨hj, htl, hz, hR⟩ => ?_⟩
 rcases hR with ⟨h1, rfl, rfl⟩ | ⟨h1, rfl, b, hV, hb⟩
 ·by_cases q : i = a
  ·subst q
   refine .inr (.inr (.inl ⟨a11, i + 1, by rw [I.t.n]; simp, fun u1 u2 => ?_⟩))
   refine ⟨hal, by rw [gH]; exact htl, Iz.step w A hj htl hz u1 a11 u2, .inr ⟨Nat.le_refl _, rfl, False, ?_, .inr ?_⟩⟩
   ·have dy := w.doY A hj htl u1 a11 u2
    obtain ⟨v1, v2⟩ := qP (s := s) (A.a _ hj) (w.op i hj).1 (fun q => by omega) a11 u2
    rw [if_neg (by omega)] at v1
    refine ⟨⟨htl, by rw [gH]; exact htl⟩, by rw [v1]; rfl, fun j hj => ?_, fun _ _ e => e, fun _ _ => rfl, fun v hv hf => ?_, fun v hv h1 => ⟨hz v hv h1, Iz.step w A hj htl hz u1 a11 u2 v hv h1⟩, fun _ => ?_⟩
    ·rw [v2 j (by omega), if_neg (fun z => by omega), if_neg (fun z => by omega)]
    ·have hvX : v ≠ X := hf.resolve_right id
     rw [dy v hv, oB (by omega), if_neg (by omega), if_neg]
     ·exact ⟨rfl, rfl, fun _ _ => rfl⟩
     ·unfold bQ
      rw [if_neg (by omega), if_neg (by omega), if_neg (by omega), if_pos h8, if_neg (by omega)]; decide
    ·rw [Gq a11 u2, if_neg (by omega)]
   ·rw [w.doY A hj htl u1 a11 u2 X hXl, oB (by omega), if_neg (by omega), if_pos]
    ·rfl
    ·unfold bQ
     rw [if_neg (by omega), if_neg (by omega), if_neg (by omega), if_pos h8, if_pos (by omega)]
  ·have hia : i < a := by omega
   have e := I.lo i hia
   by_cases h11 : B[i]!.op = 11
   ·exact .inl ⟨by rw [e]; exact h11, h11⟩
   ·refine .inr (.inr (.inr ⟨by rw [e]; exact h11, h11, fun n' cs _ u1 u2 u3 u4 => ?_⟩))
    have he := iL w A hj h11 cs
    have b1 := I.t.from he
    rw [HJ e cs, e]
    exact ⟨rfl, eH w he, by rw [gH]; exact htl, Iz.step w A hj htl hz u3 h11 u4, .inl ⟨b1.1 hia, rfl, rfl⟩⟩
 ·have hi : i < S.length := by omega
  have e := I.hi i (by omega) hi
  have hlk : Alike S[i]! B[i + 1]! := by rw [e]; exact .inl ⟨rfl, rfl, rfl, rfl⟩
  by_cases h11 : B[i + 1]!.op = 11
  ·exact .inl ⟨(pP hlk).2 h11, h11⟩
  ·have h11' : S[i]!.op ≠ 11 := fun q => h11 ((pP hlk).1 q)
   refine .inr (.inr (.inr ⟨h11', h11, fun n' cs _ u1 u2 u3 u4 => ?_⟩))
   have he := iL w A hj h11 cs
   have b1 := I.t.from he
   have es := HS w' A' hi h11' e cs
   rw [(oX hlk).2] at u1
   rw [(oX hlk).1] at u2 ⊢
   have hF : ∀ v, v < ts.length → bQ ts B[i + 1]! (v : Nat) ≠ 0 → v ≠ X ∨ b := fun v hv hu => by
    by_cases q : v = X
    ·subst q
     right
     rcases hb with hb | hb
     ·exact hb
     ·rw [fR u3 hv hu] at hb; cases hb
    ·exact .inl q
   have hS := hV.step w A hj u1 u3 h11 u2 u4 hF
   refine ⟨by rw [es], eH w he, by rw [gH]; exact htl, Iz.step w A hj htl hz u3 h11 u4, .inr ⟨b1.2.2 (by omega), by rw [es], b ∨ bD B[i + 1]! = (X : Int), hS.mono fun v hv => ?_, ?_⟩⟩
   ·rcases hv with hv | hv | hv
    ·exact .inl (.inl hv)
    ·exact .inl (.inr hv)
    ·by_cases q2 : v = X
     ·subst q2; exact .inr hv
     ·exact .inl (.inl q2)
   ·rcases hb with hb | hb
    ·exact .inl (.inl hb)
    ·by_cases q : bD B[i + 1]! = (X : Int)
     ·exact .inl (.inr q)
     ·right
      rw [w.doY A hj htl u3 h11 u4 X hXl, if_neg q]
      split
      ·rfl
      ·exact hb
theorem Ins.run {X : Nat} (I : Ins B S a) (w : WG ts B) (A : WA ts B) (w' : WG ts S) (A' : WA ts S) (h8 : B[a]!.op = 8) (hx : B[a]!.x = (X : Int)) (cs : List Int) (n m : Nat) (h1 : (dI ts S cs n).2.1 = 0) (h2 : (dI ts B cs m).2.1 = 0) :
  (dI ts S cs n).1.read = (dI ts B cs m).1.read ∧ (dI ts S cs n).1.cells.length = (dI ts B cs m).1.cells.length := by
 obtain ⟨n', i, j, s, t, ⟨hj, hsl, hz, hR⟩, q1, q2, q3, q4, q5⟩ := (I.bis w A w' A' h8 hx).run _ n m (Nat.le_refl _) 0 0 cs (mc0 ts.length) (mc0 ts.length) 0 0
  ⟨w.p0, by simp [mc0], Iz.start, .inl ⟨Nat.zero_le _, rfl, rfl⟩⟩ h1 h2
 change (dI ts S cs n).1 = _ at q2
 change (dI ts B cs m).1 = _ at q4
 rw [q2, q4, mL, mL, kW, kW]
 rcases hR with ⟨_, _, rfl⟩ | ⟨_, _, b, hV, _⟩
 ·exact ⟨rfl, rfl⟩
 ·exact ⟨(hV.r trivial).symm, hV.n.symm⟩
end
end Go.AL
namespace Go.AL
theorem eY {p : Prg} (h : cP p = true) : cZ p.types = true ∧ okL p.types 4 p.body = true ∧ bO p.body ≤ 30 := by
 unfold cP at h
 simp only [Bool.and_eq_true, decide_eq_true_eq] at h
 exact ⟨h.1.1, h.1.2, h.2⟩
theorem FO {ts : List Int} {b : List Stmt} (h1 : cZ ts = true) (h2 : okL ts 4 b = true) (h3 : bO b ≤ 30) : cP ⟨ts, b⟩ = true := by
 unfold cP
 simp only [Bool.and_eq_true, decide_eq_true_eq]
 exact ⟨⟨h1, h2⟩, h3⟩
theorem mT {p : Prg} (h : cP p = true) {k : Nat} (hk : k < p.body.length) : oQ p.types 4 p.body[k]! = true := by
 have := (eY h).2.1
 rw [qS, List.all_eq_true] at this
 exact this _ (b9 _ _ hk)
theorem Dm {ts : List Int} {d : Nat} : ∀ {l : List Stmt} {k : Nat} {s : Stmt}, okL ts d l = true → oQ ts d s = true → okL ts d (l.set k s) = true
 | [], _, _, h, _ => by simpa using h
 | a :: l, 0, s, h, hs => by
  simp only [List.set_cons_zero, okL, Bool.and_eq_true] at h ⊢
  exact ⟨hs, h.2⟩
 | a :: l, k + 1, s, h, hs => by
  simp only [List.set_cons_succ, okL, Bool.and_eq_true] at h ⊢
  exact ⟨h.1, Dm h.2 hs⟩
theorem xP : ∀ (l : List Stmt) (k : Nat) (s : Stmt), k < l.length → bO (l.set k s) + dO l[k]! = bO l + dO s
 | a :: l, 0, s, _ => by simp [bO]; omega
 | a :: l, k + 1, s, h => by
  have := xP l k s (by simpa using h)
  have e : (a :: l)[k + 1]! = l[k]! := by rw [cK _ _ h, cK _ _ (by simpa using h)]; rfl
  rw [e]
  simp only [List.set_cons_succ, bO]
  omega
theorem Ft {p : Prg} (h : cP p = true) {k : Nat} (hk : k < p.body.length) {s : Stmt} (hs : oQ p.types 4 s = true) (hc : dO s ≤ dO p.body[k]!) : cP ⟨p.types, p.body.set k s⟩ = true := by
 obtain ⟨h1, h2, h3⟩ := eY h
 have := xP p.body k s hk
 exact FO h1 (Dm h2 hs) (by omega)
theorem Cv {ts : List Int} {s : Stmt} (h1 : s.op ≠ 9 ∧ s.op ≠ 10) (h2 : s.th = []) (h3 : s.el = []) (h : dS ts s = true) : oQ ts 4 s = true := by
 rw [o5, if_pos h1, h2, h3, h]; rfl
theorem lC {ts : List Int} {d : Nat} {s : Stmt} (h : oQ ts d s = true) (h1 : s.op ≠ 9 ∧ s.op ≠ 10) : dS ts s = true ∧ s.th = [] ∧ s.el = [] := by
 rw [o5, if_pos h1, Bool.and_eq_true, Bool.and_eq_true] at h
 exact ⟨h.2, by simpa using h.1.1, by simpa using h.1.2⟩
theorem AH {ts : List Int} {d : Nat} {s : Stmt} (h : oQ ts d s = true) (h1 : s.op ≠ 9 ∧ s.op ≠ 10) : dO s = 1 := by
 obtain ⟨_, h2, h3⟩ := lC h h1
 rw [gM, h2, h3]; rfl
theorem Jx {p : Prg} {k : Nat} (hk : k < p.body.length) {s : Stmt} (h1 : p.body[k]!.op ≠ 9 ∧ p.body[k]!.op ≠ 10) (h2 : s.op ≠ 9 ∧ s.op ≠ 10) : bX ⟨p.types, p.body.set k s⟩ = (bX p).set (dK (p.body.take k)) (FV s (dK (p.body.take k))) := by
 have e := pZ hk h1
 have hA : (fB 0 (p.body.take k)).length = dK (p.body.take k) := dD _ _
 have e2 : bX ⟨p.types, p.body.set k s⟩ = fB 0 (p.body.take k) ++ FV s (dK (p.body.take k)) :: (fB (dK (p.body.take k) + 1) (p.body.drop (k + 1)) ++ [⟨11, 0, 0, 0, []⟩]) := by
  unfold bX
  dsimp only
  rw [List.set_eq_take_append_cons_drop, if_pos hk, jX, fB, gW, if_neg h2.1, if_neg h2.2, nZ h2, Nat.zero_add]
  simp only [List.append_assoc, List.cons_append, List.nil_append]
  rfl
 rw [e, e2]
 have := oY (fB 0 (p.body.take k)) (FV p.body[k]! (dK (p.body.take k))) (FV s (dK (p.body.take k))) (fB (dK (p.body.take k) + 1) (p.body.drop (k + 1)) ++ [⟨11, 0, 0, 0, []⟩])
 rw [hA] at this
 exact this.symm
def HC (a b : Stmt) : Stmt := .mk 3 b.x a.y 0 [] []
theorem jT {ts : List Int} {v : Int} (h : 0 < eD ts v) (ht : cZ ts = true) : v.toNat < ts.length ∧ ((v.toNat : Nat) : Int) = v ∧ eD ts v = ts[v.toNat]! := by
 have := (j6 ht v).1 h
 refine ⟨by omega, by omega, ?_⟩
 unfold eD; rw [if_pos this]
theorem Gx {ts : List Int} {X Y : Int} (h : eD ts X = eD ts Y ∧ 0 < eD ts X ∧ X ≠ Y) : dS ts (.mk 3 X Y 0 [] []) = true := by
 have e : dS ts (.mk 3 X Y 0 [] []) = decide (eD ts X = eD ts Y ∧ 0 < eD ts X ∧ X ≠ Y) := rfl
 rw [e]; exact decide_eq_true h
theorem Fwd.of {p : Prg} (hv : cP p = true) {k : Nat} (hk : k + 1 < p.body.length) (h7 : p.body[k]!.op = 7) (h6 : p.body[k + 1]!.op = 6) (hx : p.body[k + 1]!.y = p.body[k]!.x) (hy : p.body[k + 1]!.x ≠ p.body[k]!.y) :
  (∃ a X Y Z, Fwd p.types (bX p) (bX ⟨p.types, p.body.set (k + 1) (HC p.body[k]! p.body[k + 1]!)⟩) a X Y Z) ∧ cP ⟨p.types, p.body.set (k + 1) (HC p.body[k]! p.body[k + 1]!)⟩ = true := by
 obtain ⟨t1, t2, t3⟩ := eY hv
 have o1 := mT hv (show k < p.body.length by omega)
 have o2 := mT hv hk
 have s1 := (lC o1 ⟨by omega, by omega⟩).1
 have s2 := (lC o2 ⟨by omega, by omega⟩).1
 have c2 := AH o2 ⟨by omega, by omega⟩
 unfold dS at s1 s2
 dsimp only at s1 s2
 rw [if_neg (by omega), if_neg (by omega)] at s1 s2
 have n1 : ¬ p.body[k]!.n ≠ 0 := fun q => by rw [if_pos q] at s1; cases s1
 have n2 : ¬ p.body[k + 1]!.n ≠ 0 := fun q => by rw [if_pos q] at s2; cases s2
 rw [if_neg n1] at s1
 rw [if_neg n2] at s2
 rw [if_neg (by omega), if_neg (by omega), if_neg (by omega), if_neg (by omega), if_pos h7, decide_eq_true_eq] at s1
 rw [if_neg (by omega), if_neg (by omega), if_neg (by omega), if_pos h6, decide_eq_true_eq] at s2
 obtain ⟨x1, x2, x3⟩ := jT (v := p.body[k]!.x) (by omega) t1
 obtain ⟨y1, y2, y3⟩ := jT (v := p.body[k]!.y) (by omega) t1
 obtain ⟨z1, z2, z3⟩ := jT (v := p.body[k + 1]!.x) (by omega) t1
 have T1 := Top.of (show k < p.body.length by omega) (show p.body[k]!.op ≠ 9 ∧ p.body[k]!.op ≠ 10 by omega)
 have T2 := Top.of hk (show p.body[k + 1]!.op ≠ 9 ∧ p.body[k + 1]!.op ≠ 10 by omega)
 have en : dK (p.body.take (k + 1)) = dK (p.body.take k) + 1 := by rw [fW _ _ (by omega), nZ ⟨by omega, by omega⟩]
 have e := Jx hk (s := HC p.body[k]! p.body[k + 1]!) (show p.body[k + 1]!.op ≠ 9 ∧ p.body[k + 1]!.op ≠ 10 by omega) ⟨by show (3 : Int) ≠ 9; decide, by show (3 : Int) ≠ 10; decide⟩
 rw [en] at T2 e
 refine ⟨⟨dK (p.body.take k), p.body[k]!.x.toNat, p.body[k]!.y.toNat, p.body[k + 1]!.x.toNat, ?_⟩, Ft hv hk ?_ ?_⟩
 ·have hl := T2.1.l
  have g2 : ((bX p).set (dK (p.body.take k) + 1) (FV (HC p.body[k]! p.body[k + 1]!) (dK (p.body.take k) + 1)))[dK (p.body.take k) + 1]! = FV (HC p.body[k]! p.body[k + 1]!) (dK (p.body.take k) + 1) := by
   rw [c8, if_pos ⟨rfl, by omega⟩]
  rw [e]
  refine ⟨T1.1, T2.1, ?_, ?_, ?_, fun i hi => ?_, by rw [List.length_set], x1, y1, z1, by omega, by omega, by omega, fun q => hy (by omega)⟩
  ·rw [T1.2]; exact ⟨h7, x2.symm, y2.symm⟩
  ·rw [T2.2]; exact ⟨h6, z2.symm, by show p.body[k + 1]!.y = _; rw [hx]; exact x2.symm⟩
  ·rw [g2, T2.2]; exact ⟨rfl, z2.symm, y2.symm, rfl⟩
  ·rw [c8, if_neg (fun q => hi q.1.symm)]
 ·refine Cv ⟨by show (3 : Int) ≠ 9; decide, by show (3 : Int) ≠ 10; decide⟩ rfl rfl ?_
  exact Gx ⟨by omega, by omega, hy⟩
 ·rw [c2]; exact Nat.le_refl _
end Go.AL
namespace Go.AL
theorem cH : (∀ a b : Bool, ((a && b) = true) = (a = true ∧ b = true)) ∧ (∀ a b : Bool, ((a && b) = false) ↔ (a = false ∨ b = false)) ∧ (∀ a b : Bool, ((a || b) = true) = (a = true ∨ b = true)) ∧ (∀ a b : Bool, ((a || b) = false) ↔ (a = false ∧ b = false)) ∧
  (∀ (p : Prop) [Decidable p], (decide p = true) = p) ∧ (∀ (p : Prop) [Decidable p], (decide p = false) ↔ ¬ p) ∧ (∀ a : Bool, ((!a) = true) ↔ a = false) ∧ (∀ a : Bool, ((!a) = false) ↔ a = true) ∧ ((!true) = false) ∧ ((!false) = true) ∧ (∀ a b : Int, ¬ a < b ↔ b ≤ a) ∧ (∀ a b : Int, ¬ a ≤ b ↔ b < a) :=
 ⟨fun a b => Bool.and_eq_true a b, fun a b => Bool.and_eq_false_iff, fun a b => Bool.or_eq_true a b, fun a b => Bool.or_eq_false_iff, fun p _ => by simp, fun p _ => decide_eq_false_iff_not, fun a => by simp, fun a => by simp, rfl, rfl, fun _ _ => Int.not_lt, fun _ _ => Int.not_le⟩
theorem gN : (∀ {α : Type} (a b : List α), (a ++ b).length = a.length + b.length) ∧ (∀ {α : Type} (a : α) (b : List α), (a :: b).length = b.length + 1) ∧ (∀ {α : Type}, ([] : List α).length = 0) ∧ (∀ {α : Type} (a : List α) (i : Nat) (x : α), (a.set i x).length = a.length) ∧ (∀ {α : Type} (i : Nat) (a : List α), (a.take i).length = min i a.length) ∧
  (∀ {α β : Type} (f : α → β) (a : List α), (a.map f).length = a.length) ∧ (∀ {α : Type} (n : Nat) (a : α), (List.replicate n a).length = n) ∧ (∀ (l : List Stmt) (b : Nat), (fB b l).length = dK l) ∧ (∀ n : Nat, n * 1 = n) ∧ (∀ n : Nat, 0 + n = n) ∧ (∀ n : Nat, n + 0 = n) :=
 ⟨fun _ _ => List.length_append, fun _ _ => rfl, rfl, fun _ _ _ => List.length_set, fun _ _ => List.length_take, fun _ _ => List.length_map _, fun _ _ => List.length_replicate, dD, Nat.mul_one, Nat.zero_add, Nat.add_zero⟩
theorem dV {α : Type} {p q r : α → Prop} (x : α) (h3 : r x) (h1 : p x) (h2 : q x) : ∃ x, p x ∧ q x ∧ r x := ⟨x, h1, h2, h3⟩
end Go.AL
