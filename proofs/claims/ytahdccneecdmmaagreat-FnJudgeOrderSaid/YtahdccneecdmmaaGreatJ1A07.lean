/-
 A part of the proofs over this program: rules and contracts of its functions (the rules).
-/
import Derived.Test.YtahdccneecdmmaaGreatJ1A06
import Derived.MapKept
import Derived.Orders
set_option linter.unusedVariables false
set_option linter.unusedSimpArgs false
namespace Go.AL
def tI (R : List (List Bool)) (b : Bnd) : List (List Bool) :=
 if 0 ≤ b.loan then R.set b.var.toNat (R[b.var.toNat]!.set b.loan.toNat true) else R.set b.var.toNat (gI R[b.var.toNat]! R[b.src.toNat]!)
def Ib (L : List Bnd) (R : List (List Bool)) : Nat → List (List Bool)
 | 0 => R
 | k + 1 => L.foldl tI (Ib L R k)
structure SRr (ts : List Int) (pts : List Pnt) (R : List (List Bool)) : Prop where
 l : R.length = ts.length
 r : ∀ v, v < ts.length → R[v]!.length = pts.length
 s : ∀ v, v < ts.length → ∀ l, l < pts.length → R[v]![l]! = true → Rg ts pts (v, l)
def y7 (nt l : Nat) (R : List (List Bool)) : Nat := lA (fun v => if R[v]![l]! = true then 1 else 0) nt
def PV (l : Nat) (R : List (List Bool)) (b : Bnd) : Prop := (b.loan = (l : Int) → R[b.var.toNat]![l]! = true) ∧ (0 ≤ b.src → R[b.src.toNat]![l]! = true → R[b.var.toNat]![l]! = true)
theorem SRr.rep (ts : List Int) (pts : List Pnt) : SRr ts pts (List.replicate ts.length (List.replicate pts.length false)) := by
 refine ⟨by simp, fun v hv => by rw [cY _ _ _ hv]; simp, fun v hv l hl h => ?_⟩
 rw [cY _ _ _ hv, cY _ _ _ hl] at h; cases h
theorem Ic {ts : List Int} {pts : List Pnt} {R : List (List Bool)} (S : SRr ts pts R) {l : Nat} (hl : l < pts.length) (hC : ∀ b ∈ kM ts pts pts.length, PV l R b) : ∀ v, v < ts.length → (R[v]![l]! = true ↔ Rg ts pts (v, l)) := fun v hv => by
 refine ⟨S.s v hv l hl, fun h => ?_⟩
 have key : ∀ a : Nat × Nat, Rg ts pts a → a.2 = l → R[a.1]![l]! = true := by
  intro a ha
  induction ha with
  | @base a h =>
   intro e
   obtain ⟨b, hb, h1, h2⟩ := h
   have := (hC b hb).1 (by omega)
   rwa [show b.var.toNat = a.1 by omega] at this
  | @step a c _ r ih =>
   intro e
   obtain ⟨e1, b, hb, h1, h2⟩ := r
   have := (hC b hb).2 (by omega) (by rw [show b.src.toNat = a.1 by omega]; exact ih (by omega))
   rwa [show b.var.toNat = c.1 by omega] at this
 exact key (v, l) h rfl
section
variable {ts : List Int} {pts : List Pnt} (w : WG ts pts) (t : WT ts pts)
include w t
theorem N9 {R : List (List Bool)} (S : SRr ts pts R) {b : Bnd} (hb : b ∈ kM ts pts pts.length) :
  SRr ts pts (tI R b) ∧ (∀ v, v < ts.length → ∀ l, l < pts.length → R[v]![l]! = true → (tI R b)[v]![l]! = true) ∧
  ∀ l, l < pts.length → ((∀ v, v < ts.length → (tI R b)[v]![l]! = R[v]![l]!) ∧ PV l R b) ∨ y7 ts.length l R < y7 ts.length l (tI R b) := by
 have ok := pK w t hb
 have hv := ok.v
 have hl := S.l
 have hvl : b.var.toNat < ts.length := by omega
 have hrl := S.r _ hvl
 -- the new row, bit by bit
 obtain ⟨row, e, hlen, hbit⟩ : ∃ row, tI R b = R.set b.var.toNat row ∧ row.length = pts.length ∧ ∀ l, l < pts.length → (row[l]! = true ↔ (R[b.var.toNat]![l]! = true ∨ b.loan = (l : Int) ∨ (0 ≤ b.src ∧ R[b.src.toNat]![l]! = true))) := by
  unfold tI
  rcases ok.k with ⟨h1, h2, h3⟩ | ⟨h1, h2, h3, _⟩
  ·rw [if_pos h1]
   refine ⟨_, rfl, by rw [List.length_set]; exact hrl, fun l hl => ?_⟩
   rw [aZ]
   by_cases q : b.loan.toNat = l
   ·rw [if_pos ⟨q, by omega⟩]; exact ⟨fun _ => .inr (.inl (by omega)), fun _ => rfl⟩
   ·rw [if_neg (by omega)]
    exact ⟨.inl, fun h => by rcases h with h | h | h; exact h; omega; omega⟩
  ·rw [if_neg (by omega)]
   have hsl := S.r b.src.toNat (by omega)
   refine ⟨_, rfl, by rw [fS]; exact hrl, fun l hl => ?_⟩
   rw [eY _ _ _ (by omega), decide_eq_true (by omega : l < R[b.src.toNat]!.length), Bool.true_and, Bool.or_eq_true]
   exact ⟨fun h => h.elim .inl (fun h => .inr (.inr ⟨h2, h⟩)), fun h => by rcases h with h | h | h; exact .inl h; omega; exact .inr h.2⟩
 have hget : ∀ v, (tI R b)[v]! = if v = b.var.toNat then row else R[v]! := fun v => by
  rw [e, aZ]
  by_cases q : b.var.toNat = v
  ·rw [if_pos ⟨q, by omega⟩, if_pos q.symm]
  ·rw [if_neg (by omega), if_neg (fun h => q h.symm)]
 have hmono : ∀ v, v < ts.length → ∀ l, l < pts.length → R[v]![l]! = true → (tI R b)[v]![l]! = true := fun v _ l hl h => by
  rw [hget]; split
  ·rename_i q; subst q; exact (hbit l hl).2 (.inl h)
  ·exact h
 refine ⟨⟨by rw [e, List.length_set]; exact hl, fun v hv => ?_, fun v hv l hl h => ?_⟩, hmono, fun l hl => ?_⟩
 ·rw [hget]; split
  ·exact hlen
  ·exact S.r v hv
 ·rw [hget] at h; split at h
  ·rename_i q; subst q
   rcases (hbit l hl).1 h with h | h | ⟨h1, h2⟩
   ·exact S.s _ hv l hl h
   ·exact .base ⟨b, hb, by dsimp only; omega, h⟩
   ·have hk : b.src.toNat < ts.length := by rcases ok.k with h | h <;> omega
    exact .step (a := (b.src.toNat, l)) (S.s _ hk l hl h2) ⟨rfl, b, hb, by dsimp only; omega, by dsimp only; omega⟩
  ·exact S.s v hv l hl h
 ·by_cases hc : R[b.var.toNat]![l]! = row[l]!
  ·refine .inl ⟨fun v hv => ?_, fun h => ?_, fun h1 h2 => ?_⟩
   ·rw [hget]; split
    ·rename_i q; subst q; exact hc.symm
    ·rfl
   ·rw [hc]; exact (hbit l hl).2 (.inr (.inl h))
   ·rw [hc]; exact (hbit l hl).2 (.inr (.inr ⟨h1, h2⟩))
  ·refine .inr (nL _ (fun v hv => ?_) ⟨b.var.toNat, hvl, ?_⟩)
   ·have := hmono v hv l hl
    by_cases q : R[v]![l]! = true
    ·rw [if_pos q, if_pos (this q)]; exact Nat.le_refl _
    ·rw [if_neg q]; exact Nat.zero_le _
   ·have h0 : R[b.var.toNat]![l]! ≠ true := fun h => hc (by rw [h, (hbit l hl).2 (.inl h)])
    have h1 : row[l]! = true := by
     cases q : row[l]! with
     | true => rfl
     | false => exfalso; cases q2 : R[b.var.toNat]![l]! with
      | true => exact h0 q2
      | false => exact hc (by rw [q, q2])
    have h2 := hget b.var.toNat
    rw [if_pos rfl] at h2
    rw [if_neg h0, h2, if_pos h1]; exact Nat.one_pos
theorem qP : ∀ (L : List Bnd), (∀ b ∈ L, b ∈ kM ts pts pts.length) → ∀ R, SRr ts pts R →
  SRr ts pts (L.foldl tI R) ∧ (∀ v, v < ts.length → ∀ l, l < pts.length → R[v]![l]! = true → (L.foldl tI R)[v]![l]! = true) ∧
  ∀ l, l < pts.length → ((∀ v, v < ts.length → (L.foldl tI R)[v]![l]! = R[v]![l]!) ∧ ∀ b ∈ L, PV l R b) ∨ y7 ts.length l R < y7 ts.length l (L.foldl tI R)
 | [], _, R, S => ⟨S, fun _ _ _ _ h => h, fun l hl => .inl ⟨fun _ _ => rfl, by simp⟩⟩
 | b :: L, hL, R, S => by
  obtain ⟨S1, m1, c1⟩ := N9 w t S (hL b List.mem_cons_self)
  obtain ⟨S2, m2, c2⟩ := qP L (fun x hx => hL x (List.mem_cons_of_mem _ hx)) (tI R b) S1
  rw [List.foldl_cons]
  refine ⟨S2, fun v hv l hl h => m2 v hv l hl (m1 v hv l hl h), fun l hl => ?_⟩
  have le : ∀ {R R' : List (List Bool)}, (∀ v, v < ts.length → R[v]![l]! = true → R'[v]![l]! = true) → y7 ts.length l R ≤ y7 ts.length l R' := fun {R R'} h => sumF_le _ fun v hv => by
   by_cases q : R[v]![l]! = true
   ·rw [if_pos q, if_pos (h v hv q)]; exact Nat.le_refl _
   ·rw [if_neg q]; exact Nat.zero_le _
  rcases c1 l hl with ⟨d1, d2⟩ | d
  ·rcases c2 l hl with ⟨e1, e2⟩ | e
   ·refine .inl ⟨fun v hv => by rw [e1 v hv, d1 v hv], fun x hx => ?_⟩
    rcases List.mem_cons.1 hx with rfl | hx
    ·exact d2
    ·have ok := pK w t (hL x (List.mem_cons_of_mem _ hx))
     have hv := ok.v
     have h3 := e2 x hx
     refine ⟨fun h => by rw [← d1 _ (by omega)]; exact h3.1 h, fun h1 h2 => ?_⟩
     have hk : x.src.toNat < ts.length := by rcases ok.k with h | h <;> omega
     rw [← d1 _ (by omega)]
     exact h3.2 h1 (by rw [d1 _ hk]; exact h2)
   ·have := le (R := R) (R' := tI R b) (fun v hv h => m1 v hv l hl h)
    exact .inr (by omega)
  ·have := le (R := tI R b) (R' := L.foldl tI (tI R b)) (fun v hv h => m2 v hv l hl h)
   exact .inr (by omega)
theorem qJ (R0 : List (List Bool)) (S0 : SRr ts pts R0) : ∀ k, SRr ts pts (Ib (kM ts pts pts.length) R0 k) ∧ ∀ l, l < pts.length →
  ((∀ v, v < ts.length → ((Ib (kM ts pts pts.length) R0 k)[v]![l]! = true ↔ Rg ts pts (v, l))) ∨ k ≤ y7 ts.length l (Ib (kM ts pts pts.length) R0 k))
 | 0 => ⟨S0, fun l _ => .inr (Nat.zero_le _)⟩
 | k + 1 => by
  obtain ⟨S, h⟩ := qJ R0 S0 k
  obtain ⟨S2, m2, c2⟩ := qP w t _ (fun b hb => hb) _ S
  refine ⟨S2, fun l hl => ?_⟩
  have hup : (∀ v, v < ts.length → ((Ib (kM ts pts pts.length) R0 k)[v]![l]! = true ↔ Rg ts pts (v, l))) → ∀ v, v < ts.length → ((Ib (kM ts pts pts.length) R0 (k + 1))[v]![l]! = true ↔ Rg ts pts (v, l)) := fun g v hv =>
   ⟨S2.s v hv l hl, fun hr => m2 v hv l hl ((g v hv).2 hr)⟩
  rcases c2 l hl with ⟨_, hC⟩ | hgrow
  ·exact .inl (hup (Ic S hl hC))
  ·rcases h l hl with g | g
   ·exact .inl (hup g)
   ·exact .inr (by show k + 1 ≤ y7 ts.length l ((kM ts pts pts.length).foldl tI (Ib (kM ts pts pts.length) R0 k)); omega)
def Bg (nt n : Nat) (A : List Nat) : List (List Bool) := (List.range nt).map fun (v : Nat) => (List.range n).map fun (l : Nat) => A[v]!.testBit l
theorem CX (R0 : List (List Bool)) (S0 : SRr ts pts R0) {A : List Nat} (hA : GoodG ts pts A) : Ib (kM ts pts pts.length) R0 (ts.length + 1) = Bg ts.length pts.length A := by
 obtain ⟨S, h⟩ := qJ w t R0 S0 (ts.length + 1)
 have htl := w.tl
 refine bT (by rw [S.l]; simp [Bg]) fun v hv => ?_
 rw [S.l] at hv
 unfold Bg
 rw [a6 _ _ _ hv]
 refine bT (by rw [S.r v hv]; simp) fun l hl => ?_
 rw [S.r v hv] at hl
 rw [a6 _ _ _ hl, Bool.eq_iff_iff, hA.2 v (by omega) l]
 have hcnt : y7 ts.length l (Ib (kM ts pts pts.length) R0 (ts.length + 1)) ≤ ts.length := by
  have := sumF_le (f := fun v => if (Ib (kM ts pts pts.length) R0 (ts.length + 1))[v]![l]! = true then 1 else 0) (g := fun _ => 1) ts.length (fun i _ => by split <;> omega)
  rw [vI] at this
  exact this
 rcases h l hl with g | g
 ·exact g v hv
 ·omega
end
end Go.AL
namespace Go.AL
def nT (n : Nat) (A : List Nat) : List Nat := (List.replicate n A).flatten
theorem pX (A : List Nat) (h : A.length = 6) : ∀ n, (nT n A).length = n * 6
 | 0 => rfl
 | n + 1 => by unfold nT; rw [List.replicate_succ, List.flatten_cons, List.length_append]; have := pX A h n; unfold nT at this; omega
theorem pQ (A : List Nat) (h : A.length = 6) : ∀ n i, i < n → cG (nT n A) i = A
 | n + 1, 0, _ => by
  unfold cG nT; rw [List.replicate_succ, List.flatten_cons, Nat.zero_mul, List.drop_zero, ← h, List.take_left]
 | n + 1, i + 1, hi => by
  have := pQ A h n i (by omega)
  unfold cG nT at this ⊢
  rw [List.replicate_succ, List.flatten_cons, show (i + 1) * 6 = A.length + i * 6 by omega, List.drop_append, List.drop_eq_nil_of_le (by omega), List.nil_append, show A.length + i * 6 - A.length = i * 6 by omega]
  exact this
def v8 (p : Prg) (f : Flows p.types (aB p)) (A : List Nat) : List Iss := iN p.types (aB p) f.Aa f.Am f.Al (nT (aB p).length A) f.Ap (aB p).length
section
variable {ts : List Int} {pts : List Pnt}
theorem O5 {l : Nat} (hl : l < pts.length) (h : b0 pts[l]! = true) : (⟨pts[l]!.x, l, -1⟩ : Bnd) ∈ kM ts pts pts.length :=
 zO.2 ⟨l, hl, by unfold JE; rw [if_pos h]; simp⟩
theorem O6 {i : Nat} (hi : i < pts.length) (h : (b0 pts[i]! = true ∨ pts[i]!.op = 3) ∧ eR ts[pts[i]!.y.toNat]! = true) : (⟨pts[i]!.x, -1, pts[i]!.y⟩ : Bnd) ∈ kM ts pts pts.length :=
 zO.2 ⟨i, hi, by unfold JE; rw [if_pos h]; simp⟩
theorem B6 {x : Pnt} (h : b0 x = true ∨ x.op = 3) : aQ x = x.x := by
 unfold aQ
 rw [if_pos]
 rcases h with h | h
 ·have := fV h; omega
 ·omega
theorem OJ (w : WG ts pts) (t : WT ts pts) {a : Nat × Nat × Nat} (h : GB ts pts a) : eR ts[a.2.1]! = true ∧ Rg ts pts (a.2.1, a.2.2) := by
 induction h with
 | @base a h =>
  obtain ⟨e, h1, h2⟩ := h
  rw [B6 (.inl h1)] at h2
  have h3 := (t.ln _ e.1 (fV h1)).1
  rw [show pts[a.2.2]!.x.toNat = a.2.1 by omega] at h3
  exact ⟨h3, .base ⟨_, O5 e.1 h1, h2, rfl⟩⟩
 | @step a b _ r ih =>
  obtain ⟨e, e1, h⟩ := r
  rcases h with ⟨_, h2, _⟩ | ⟨h1, h2, h3⟩
  ·rw [h2, e]; exact ih
  ·have hk : b0 pts[a.1]! = true ∨ pts[a.1]!.op = 3 := h3.imp (·.1) id
   rw [B6 hk] at h1
   have hy : pts[a.1]!.y.toNat = a.2.1 := by omega
   have hx : pts[a.1]!.x.toNat = b.2.1 := by omega
   have href : eR ts[pts[a.1]!.y.toNat]! = true := by rw [hy]; exact ih.1
   refine ⟨?_, .step (a := (a.2.1, a.2.2)) ih.2 ⟨e, _, O6 e1.1 ⟨hk, href⟩, h2.symm, h1⟩⟩
   rcases hk with hk | hk
   ·have h4 := (t.ln _ e1.1 (fV hk)).1; rw [hx] at h4; exact h4
   ·have h4 := (t.mv _ e1.1 hk).1; rw [hx] at h4; rw [h4]; exact href
theorem L4 {x : Pnt} {live : Nat} {f g : List Nat} (h : ∀ v : Nat, ∀ l, f[v]!.testBit l = true → g[v]!.testBit l = true) {l : Nat} (hl : (lQ ts x live f).testBit l = true) : (lQ ts x live g).testBit l = true := by
 unfold lQ at hl ⊢
 rw [dU] at hl ⊢
 rcases hl with h1 | ⟨z, hz, h1⟩
 ·exact .inl h1
 ·exact .inr ⟨_, hz, h _ l h1⟩
theorem KN (w : WG ts pts) (f : Flows ts pts) {Af' : List Nat} {i : Nat} (h : ∀ v : Nat, ∀ l, (cG f.Af i)[v]!.testBit l = true → (cG Af' i)[v]!.testBit l = true) {l : Nat} (hl : (uK ts pts f.Am f.Al f.Af f.Ap i).testBit l = true) : (uK ts pts f.Am f.Al Af' f.Ap i).testBit l = true := by
 have b := f.bnd w
 have hpl := w.pl
 have hs : ∀ K : Nat, Sm (K &&& f.Ap[i]!) := fun K => j6 (n := pts.length) (by omega) (Nat.and_lt_two_pow _ (b.bP i))
 unfold uK at hl ⊢
 rw [gH _ _ _ (hs _)] at hl ⊢
 rcases hl with hl | ⟨c, hc, h1, h2⟩
 ·exact .inl hl
 ·refine .inr ⟨c, hc, ?_, h2⟩
  rw [Nat.testBit_and, Bool.and_eq_true] at h1 ⊢
  exact ⟨L4 h h1.1, h1.2⟩
theorem H4 (w : WG ts pts) (t : WT ts pts) (f : Flows ts pts) {A : List Nat} (hA : GoodG ts pts A) {i : Nat} (hi : i < pts.length) (v l : Nat) (h : (cG f.Af i)[v]!.testBit l = true) : (cG (nT pts.length A) i)[v]!.testBit l = true := by
 rw [pQ A hA.1 _ i hi]
 by_cases hv : v < 6
 ·rw [dX f.gf.1 hi hv] at h
  exact (hA.2 v hv l).2 (OJ w t ((f.gf.2 i v hi hv l).1 h)).2
 ·rw [getElem!_neg _ v (by rw [eF f.gf.1 hi]; exact hv)] at h; simp at h
theorem KS (w : WG ts pts) (t : WT ts pts) (f : Flows ts pts) {A : List Nat} (hA : GoodG ts pts A) (x : Iss) (hx : x ∈ f.iss) : x ∈ iN ts pts f.Aa f.Am f.Al (nT pts.length A) f.Ap pts.length := by
 unfold Flows.iss iN at hx
 unfold iN
 obtain ⟨i, hi, h⟩ := List.mem_flatMap.1 hx
 have hin := List.mem_range.1 hi
 refine List.mem_flatMap.2 ⟨i, hi, ?_⟩
 unfold zF at h ⊢
 rcases List.mem_append.1 h with h | h
 ·exact List.mem_append.2 (.inl h)
 ·obtain ⟨z, hz, rfl⟩ := List.mem_map.1 h
  obtain ⟨l, h1, h2, rfl⟩ := b9.1 hz
  exact List.mem_append.2 (.inr (List.mem_map.2 ⟨_, b9.2 ⟨l, h1, KN w f (H4 w t f hA hin) h2, rfl⟩, rfl⟩))
end
end Go.AL
namespace Go.AL
theorem KL (nt n : Nat) (A Ap : List Nat) (hA : A.length = 6) (hnt : nt ≤ 6) {i : Nat} (hi : i < n) : (eZ nt n (nT n A) Ap i).1 = Bg nt n A := by
 unfold eZ Bg
 dsimp only
 refine List.map_congr_left fun v hv => List.map_congr_left fun l hl => ?_
 have hv := List.mem_range.1 hv
 rw [← dX (pX A hA n) hi (by omega : v < 6), pQ A hA n i hi]
theorem J8 (nt n : Nat) (A : List Nat) : (Bg nt n A).length = nt := by simp [Bg]
theorem KY (nt n : Nat) (A : List Nat) {v : Nat} (hv : v < nt) : (Bg nt n A)[v]!.length = n := by
 unfold Bg; rw [a6 _ _ _ hv]; simp
end Go.AL
namespace Go.AL
open Go.RowKit
set_option linter.unusedVariables false
set_option linter.unusedSimpArgs false
theorem Le.fset2 {ts : List (Nat × AV)} {hs hs' : List (Nat × Option (List AV))} {n : Nat} {z0 : Lo} {k j : Nat} {r : List Bool} {R : List (List Bool)} (hF : FamR R (R.set k r) hs hs') (hk : k < R.length) (hj : j < R.length) (hkj : k ≠ j) :
  Le ⟨ts, (j + aV, some (flat cB R[j]!)) :: (k + aV, some (flat cB r)) :: hs, n, z0⟩ ⟨ts, hs', n, z0⟩ := by
 refine Le.of (fun _ _ h => h) (fun i cs h => ?_) (Nat.le_refl _) rfl
 have h' : aT hs' i = some cs := h
 show aT ((j + aV, some (flat cB R[j]!)) :: (k + aV, some (flat cB r)) :: hs) i = some cs
 rcases Nat.lt_or_ge i aV with hi | hi
 ·rw [cS, if_neg (by omega), cS, if_neg (by omega), hF.low i hi]; exact h'
 ·obtain ⟨q, rfl⟩ : ∃ q, i = q + aV := ⟨i - aV, by omega⟩
  rw [hF.symm.fam] at h'
  split at h'
  ·rename_i hq
   rw [List.length_set] at hq
   rw [AN] at h'
   rw [cS]
   by_cases e : q = j
   ·subst e
    rw [if_neg (fun q => hkj q.1)] at h'; rw [if_pos rfl]; exact h'
   ·rw [if_neg (by omega), cS]
    by_cases e2 : q = k
    ·subst e2; rw [if_pos ⟨rfl, hk⟩] at h'; rw [if_pos rfl]; exact h'
    ·rw [if_neg (fun z => e2 z.1.symm)] at h'
     rw [if_neg (by omega), hF.get hq]; exact h'
  ·cases h'
theorem Pk {j k : Nat} (h : k ≠ j) : distinct [k + aV, j + aV] = true := by
 have : Nat.beq (k + aV) (j + aV) = false := by
  cases h2 : Nat.beq (k + aV) (j + aV) with
  | false => rfl
  | true => have := Nat.eq_of_beq_eq_true h2; omega
 simp only [distinct, List.all_cons, List.all_nil, this]; rfl
end Go.AL
namespace Go.AL
open Go.RowKit
set_option linter.unusedVariables false
set_option linter.unusedSimpArgs false
section
variable {P : Program} {C : Ctx} {ι : Pl} {T : Nat → Option AV} {F : Nat → Prop} {H : Nat → Option (List AV)} {a : Act} {w : World} {o : Oper}
theorem Bj {bad : Nat → Prop} {zs : List Value} (h : zs.all (·.oneCell') = true) : ∀ n, RdL w bad ι (List.replicate n (zs.map AV.v)).flatten (List.replicate n zs).flatten
 | 0 => by simp [RdL]
 | n + 1 => by
  rw [List.replicate_succ, List.replicate_succ, List.flatten_cons, List.flatten_cons]
  exact RdL.append (tM h) (Bj h n)
theorem Hq (gh : HG C ι F H w) {t el : TypeId} {x : Operand} {id off n e : Nat} {cs : List AV} {zs : List Value}
  (ho : o.op = .call ⟨.builtin .clear, #[x], #[t]⟩) (hx : Rd w (aM C.X ι H) ι (.own id off n e) (a.eval x)) (hd : o.dst = none)
  (ht : mZ P t = some el) (he : fZ P el = some e) (hz : pN P el = some zs) (hze : zs.length = e)
  (hH : H id = some cs) (h0 : 0 < n) (hl : off + n * e ≤ cs.length) :
  Ef P C ι F H a w o (.tup []) (eS H id (some (g6 cs off (List.replicate n (zs.map AV.v)).flatten))) := by
 obtain ⟨i, z, h1, h2, h3, h4⟩ := qM hz
 have hu := kH ht
 have hsz := zI he h1
 simp only [Rd] at hx
 rcases hx with ⟨_, rfl, _⟩ | ⟨b, β, c, p1, p2, p3, p4⟩
 ·omega
 have hlen : ((List.replicate n (zs.map AV.v)).flatten).length = n * e := by
  rw [List.length_flatten]; simp [hze]
 obtain ⟨w', q1, q2, q3⟩ := Bz (P := P) gh hH p1 (off := off) (new := (List.replicate n (zs.map AV.v)).flatten) (by rw [hlen]; exact hl) (Bj h4 n)
 have hr : (Builtin.clear_ #[t] o.type #[a.eval x]).run P w = .ok (.tuple #[]) w' := by
  rw [p2]
  cases n with
  | zero => omega
  | succ n =>
   have hzc : (Builtin.zeroCells z.cells (n + 1)).toList = (List.replicate (n + 1) zs).flatten := by rw [vF, h3]
   simp [Builtin.clear_, cC hu, zeroValue, typeInfo, h1, h2, hzc, q1]
 refine ⟨.value (.tuple #[]), .tuple #[], ι, w', ?_, .inl ⟨rfl, ?_⟩, q2, q3⟩
 ·simp [execOp, ho, resolve, invoke, builtin, hr]
 ·simp only [Rd]; exact ⟨[], rfl, by simp [RdV]⟩
end
section
variable {P : Program} {N : Nat} {Q : Exit → AS → Prop} {all : Array Oper} {rest : List Oper} {ts : List (Nat × AV)} {hs : List (Nat × Option (List AV))} {n : Nat} {z0 : Lo} {md : Md}
variable {d : Nat} {ty : TypeId} {pos : String} {af : Array Edge}
theorem Jt {t el id off m e : Nat} {x : Operand} {cs cs' : List AV} {zs : List Value} [ht : SlT P t el] [he : SzT P el e] [hz : ZrT P el zs]
  (hx : ev (lk ts) x = some (.own id off m e)) (hze : zs.length = e) (h0 : 0 < m) (hH : aT hs id = some cs) (hl : off + m * e ≤ cs.length)
  (hcs : g6 cs off (List.replicate m (zs.map AV.v)).flatten = cs') {md' : Md} [hmd : MdA md (rO x ++ [.inr id]) [.inr id] md'] (kk : RW P N all Q md' rest ⟨ts, (id, some cs') :: hs, n, z0⟩) :
  RW P N all Q md (⟨none, .call ⟨.builtin .clear, #[x], #[t]⟩, ty, pos, af, none⟩ :: rest) ⟨ts, hs, n, z0⟩ := by
 subst hcs
 exact En (rs := rO x ++ [.inr id]) (ws := [(id, some (g6 cs off (List.replicate m (zs.map AV.v)).flatten))]) (n' := n) (out := .tup []) rfl (fun _ h => by cases h) (Nat.le_refl n) (.inl rfl)
  (fun C ι F T H a w ag hF g gh => DZ (Hq gh rfl (bZ g (ag.l.ev.trans hx)) rfl ht.pf he.pf hz.pf hze ((ag.r.h id (by simp)).trans hH) h0 hl)) (by
   show RW P N all Q (md.add (rO x ++ [.inr id]) [.inr id]) rest ⟨ts, (id, some (g6 cs off (List.replicate m (zs.map AV.v)).flatten)) :: hs, n, z0⟩
   rw [hmd.pf]; exact kk)
end
end Go.AL
namespace Go.AL
open Go.RowKit
set_option linter.unusedVariables false
set_option linter.unusedSimpArgs false
section
variable {P : Program} {N : Nat} {Q : Exit → AS → Prop} {all : Array Oper} {rest : List Oper} {ts : List (Nat × AV)} {hs : List (Nat × Option (List AV))} {n : Nat} {z0 : Lo} {md : Md}
variable {d : Nat} {ty : TypeId} {pos : String} {af : Array Edge}
theorem x7 (w : World) (t el : TypeId) (hu : P.underlying t = some (.slice el)) (a : Option Addr) (m c : Nat) : (binOp .eql t (.slice a m c) (.slice none 0 0)).run P w = .ok (.bool a.isNone) w := by
 have h0 : ∀ d : Nat, (Op.equalIn (d + 1) t (.slice a m c) (.slice none 0 0)).run P w = .ok a.isNone w := fun d => by
  cases a <;> simp [Op.equalIn, cC hu]
 have h := h0 9999
 simp only [binOp]
 simp [Op.equal, Op.maxDepth, h]
theorem BQ {t t' el : TypeId} {x : Operand} {m : Nat} {cs : List AV} [ht : SlT P t el] (hx : ev (lk ts) x = some (.imm m cs)) (hN : Nat.blt d N = true)
  (kk : ∀ b : Bool, (b = true → m = 0) → RW P N all Q .txt rest ⟨(d, .v (.bool b)) :: ts, hs, n, z0⟩) : RW P N all Q .txt (⟨some d, .binOp .eql t x (.const (.slice none 0 0)) t', ty, pos, af, none⟩ :: rest) ⟨ts, hs, n, z0⟩ := by
 rintro C a w hCN ⟨h0, ι, g, gh⟩
 refine wpList_plain rfl (fun K hK => ?_)
 have h1 := bZ g hx
 simp only [Rd] at h1
 obtain ⟨a', c, h2, h3⟩ := h1
 have hu := kH ht.pf
 have hb : a'.isNone = true → m = 0 := fun hn => by
  rcases h3 with h3 | ⟨b, o, _, rfl, _⟩
  ·exact h3
  ·cases hn
 have hg : (eqGuard .eql t x (.const (.slice none 0 0)) (.slice a' m c) (.slice none 0 0)).run P w = .ok () w := by simp [eqGuard]
 have hr : (execOp a.eval ⟨some d, .binOp .eql t x (.const (.slice none 0 0)) t', ty, pos, af, none⟩).run P w = .ok (.value (.bool a'.isNone)) w := by
  have e2 : a.eval (.const (.slice none 0 0)) = .slice none 0 0 := rfl
  simp only [execOp, h2, e2, Sem.run_bind, hg, Result.andThen_ok, x7 w t el hu, Sem.run_pure]
 simp only [Oper.wp, hr, Oper.upon]
 refine hK _ _ (kk a'.isNone hb C _ _ hCN ⟨h0, ι, ?_, gh⟩)
 show TG C ι (lk ((d, AV.v (.bool a'.isNone)) :: ts)) _ _ _
 rw [hZ]
 exact g.put (by have := dE hN; omega) (by simp [Rd])
end
theorem D3 {α : Type} {f : α → List AV} {e : Nat} [h : FlT f e] {hs : List (Nat × Option (List AV))} {xs : List α} {i k n : Nat} (hH : aT hs i = some (flat f xs)) (hn : n = xs.length - k) : sCells (aT hs) e (qD (.own i (0 + k * e) n e)) = some (n, flat f (xs.drop k)) := by
 show ((aT hs i).bind fun cs => if n * e ≤ (cs.drop (0 + k * e)).length then some (n, (cs.drop (0 + k * e)).take (n * e)) else none) = _
 rw [hH, Option.bind_some, Nat.zero_add]
 have h1 : (flat f xs).length = xs.length * e := aJ f xs
 have h3 : (flat f xs).drop (k * e) = flat f (xs.drop k) := by
  have h4 : flat f xs = flat f (xs.take k) ++ flat f (xs.drop k) := by rw [cQ, List.take_append_drop]
  have h5 : (flat f (xs.take k)).length = (xs.take k).length * e := aJ f _
  by_cases hk : k ≤ xs.length
  ·rw [h4, ← show (flat f (xs.take k)).length = k * e from by rw [h5, List.length_take]; congr 1; omega, List.drop_left]
  ·rw [List.drop_of_length_le (by rw [h1]; exact Nat.mul_le_mul_right _ (by omega)), List.drop_of_length_le (by omega)]; rfl
 rw [h3]
 have h2 : (flat f (xs.drop k)).length = (xs.length - k) * e := by rw [aJ f (e := e), List.length_drop]
 rw [h2, hn, if_pos (Nat.le_refl _), List.take_of_length_le (by rw [h2]; exact Nat.le_refl _)]
theorem qF {T : Nat → Option AV} {x : Operand} {dd : Nat} {k : IntKind} {m : Int} {h : Nat} (hx : ev T x = some (.v (.int k m))) (e : m = (h : Int)) : gW T (some x) dd = some h := by
 simp only [gW, hx]; rw [if_pos (by omega)]; congr 1; omega
end Go.AL
namespace Go.AL
structure Tg where
 id : Int
 uq : Bool
 deriving Inhabited, DecidableEq
structure Cl where
 val : Int
 alive : Bool
 next : Int
 stk : List Tg
 deriving Inhabited, DecidableEq
structure Pt where
 cell : Int
 tag : Int
 deriving Inhabited, DecidableEq
structure Sl where
 set : Bool
 num : Int
 ptr : Pt
 deriving Inhabited, DecidableEq
def cH (t : Tg) : List AV := [iv t.id, bv t.uq]
def bO (c : Cl) : List AV := [iv c.val, bv c.alive, iv c.next, sl cH c.stk]
def dH (s : Sl) : List AV := [bv s.set, iv s.num, iv s.ptr.cell, iv s.ptr.tag]
instance : FlT cH 2 := ⟨fun _ => rfl⟩
instance : FlT bO 4 := ⟨fun _ => rfl⟩
instance : FlT dH 4 := ⟨fun _ => rfl⟩
instance : FE cH (fun t => [iv t.id, bv t.uq]) := ⟨fun _ => rfl⟩
instance : FE bO (fun c => [iv c.val, bv c.alive, iv c.next, sl cH c.stk]) := ⟨fun _ => rfl⟩
instance : FE dH (fun s => [bv s.set, iv s.num, iv s.ptr.cell, iv s.ptr.tag]) := ⟨fun _ => rfl⟩
instance (t : Tg) : Pur (cH t) := ⟨rfl⟩
instance (c : Cl) : Pur (bO c) := ⟨by show (true && (true && (true && ((sl cH c.stk).pur && true)))) = true; rw [a8]; rfl⟩
instance (s : Sl) : Pur (dH s) := ⟨rfl⟩
abbrev P9 (t : Tg) : AV := .agg [iv t.id, bv t.uq]
abbrev Qg (c : Cl) : AV := .agg [iv c.val, bv c.alive, iv c.next, sl cH c.stk]
abbrev nB (p : Pt) : AV := .agg [iv p.cell, iv p.tag]
abbrev Jz (s : Sl) : AV := .agg [bv s.set, iv s.num, iv s.ptr.cell, iv s.ptr.tag]
structure OkC (c : Cl) : Prop where
 v : 0 ≤ c.val ∧ c.val ≤ 9
 n : 1 ≤ c.next ∧ c.next ≤ 1000
 l : 1 ≤ c.stk.length ∧ c.stk.length ≤ 200
 u : c.stk[0]!.uq = true
 i : ∀ t ∈ c.stk, 0 ≤ t.id ∧ t.id < c.next
 d : (c.stk.map (·.id)).Nodup
structure OkM (m : List Cl) : Prop where
 l : m.length ≤ 200
 c : ∀ c ∈ m, OkC c
def cM (stk : List Tg) (id : Int) : Int := match stk.findIdx? (fun t => decide (t.id = id)) with | some k => k | none => -1
theorem fC (stk : List Tg) (id : Int) : -1 ≤ cM stk id ∧ cM stk id < stk.length := by
 unfold cM
 split
 ·rename_i k h
  obtain ⟨h1, _⟩ := List.findIdx?_eq_some_iff_getElem.1 h
  omega
 ·omega
theorem LO {stk : List Tg} {id : Int} (h : 0 ≤ cM stk id) : stk[(cM stk id).toNat]!.id = id := by
 unfold cM at h ⊢
 split
 ·rename_i k hk
  obtain ⟨h1, h2, _⟩ := List.findIdx?_eq_some_iff_getElem.1 hk
  rw [Int.toNat_natCast, bE _ _ h1]
  simpa using h2
 ·rename_i hk; rw [hk] at h; dsimp only at h; omega
theorem qL {stk : List Tg} {id : Int} : cM stk id < 0 ↔ ∀ t ∈ stk, t.id ≠ id := by
 unfold cM
 split
 ·rename_i k hk
  obtain ⟨h1, h2, _⟩ := List.findIdx?_eq_some_iff_getElem.1 hk
  refine ⟨fun h => by omega, fun h => ?_⟩
  exact absurd (by simpa using h2) (h _ (List.getElem_mem h1))
 ·rename_i hk
  rw [List.findIdx?_eq_none_iff] at hk
  exact ⟨fun _ t ht => by simpa using hk t ht, fun _ => by omega⟩
def gY (stk : List Tg) (k : Nat) (wr : Bool) : List Tg := if wr = true then stk.take (k + 1) else stk.take (k + 1) ++ (stk.drop (k + 1)).filter (fun t => !t.uq)
def bF (m : List Cl) (x : Pt) (wr : Bool) : Int :=
 if ¬ (0 ≤ x.cell ∧ x.cell < m.length) then 4
 else if m[x.cell.toNat]!.alive = false then 1
 else if cM m[x.cell.toNat]!.stk x.tag < 0 then 2
 else if wr = true ∧ m[x.cell.toNat]!.stk[(cM m[x.cell.toNat]!.stk x.tag).toNat]!.uq = false then 3
 else 0
def uZ (c : Cl) (x : Pt) (wr : Bool) : Cl := { c with stk := gY c.stk (cM c.stk x.tag).toNat wr }
def dZ (m : List Cl) (x : Pt) (wr : Bool) : List Cl := if bF m x wr = 0 then m.set x.cell.toNat (uZ m[x.cell.toNat]! x wr) else m
def pP (m : List Cl) (x : Pt) : Int := if bF m x false = 0 then m[x.cell.toNat]!.val else 0
def x6 (m : List Cl) (x : Pt) (v : Int) : Int := if 0 ≤ v ∧ v ≤ 9 then bF m x true else 4
def Ax (m : List Cl) (x : Pt) (v : Int) : List Cl := if x6 m x v = 0 then m.set x.cell.toNat { uZ m[x.cell.toNat]! x true with val := v } else m
def lV (m : List Cl) (x : Pt) : List Cl := if bF m x true = 0 then m.set x.cell.toNat { uZ m[x.cell.toNat]! x true with alive := false } else m
def FU (c : Cl) : Prop := c.stk.length = 200 ∨ c.next = 1000
instance (c : Cl) : Decidable (FU c) := by unfold FU; infer_instance
def mD (m : List Cl) (x : Pt) (u : Bool) : Int := if bF m x u = 0 then (if FU (uZ m[x.cell.toNat]! x u) then 4 else 0) else bF m x u
def psh (c : Cl) (u : Bool) : Cl := { c with stk := c.stk ++ [⟨c.next, u⟩], next := c.next + 1 }
def n3 (m : List Cl) (x : Pt) (u : Bool) : List Cl := if mD m x u = 0 then m.set x.cell.toNat (psh (uZ m[x.cell.toNat]! x u) u) else m
def sB (m : List Cl) (x : Pt) (u : Bool) : Pt := if mD m x u = 0 then ⟨x.cell, m[x.cell.toNat]!.next⟩ else ⟨0, 0⟩
def vY (v : Int) : Cl := ⟨v, true, 1, [⟨0, true⟩]⟩
theorem tchS_sub {stk : List Tg} {k : Nat} {wr : Bool} : (gY stk k wr).Sublist stk := by
 unfold gY
 split
 ·exact List.take_sublist _ _
 ·have h := List.Sublist.append (List.Sublist.refl (stk.take (k + 1))) (List.filter_sublist (l := stk.drop (k + 1)) (p := fun t => !t.uq))
  rwa [List.take_append_drop] at h
theorem F5 {stk : List Tg} {k : Nat} {wr : Bool} (h : 0 < stk.length) : (gY stk k wr)[0]! = stk[0]! ∧ 0 < (gY stk k wr).length := by
 cases stk with
 | nil => simp at h
 | cons a l =>
  unfold gY
  split <;> simp
theorem OkC.tch {c : Cl} (h : OkC c) (x : Pt) (wr : Bool) : OkC (uZ c x wr) := by
 have hs := tchS_sub (stk := c.stk) (k := (cM c.stk x.tag).toNat) (wr := wr)
 have hh := F5 (k := (cM c.stk x.tag).toNat) (wr := wr) (stk := c.stk) (by have := h.l; omega)
 refine ⟨h.v, h.n, ⟨hh.2, Nat.le_trans hs.length_le h.l.2⟩, ?_, fun t ht => h.i t (hs.subset ht), (hs.map _).nodup h.d⟩
 show (gY c.stk (cM c.stk x.tag).toNat wr)[0]!.uq = true
 rw [hh.1]; exact h.u
theorem OkC.psh {c : Cl} (h : OkC c) (u : Bool) (hf : ¬ FU c) : OkC (psh c u) := by
 have hl := h.l
 have hn := h.n
 unfold FU at hf
 refine ⟨h.v, by show 1 ≤ c.next + 1 ∧ c.next + 1 ≤ 1000; omega, by show 1 ≤ (c.stk ++ [_]).length ∧ (c.stk ++ [_]).length ≤ 200; rw [List.length_append, List.length_singleton]; omega, ?_, fun t ht => ?_, ?_⟩
 ·show (c.stk ++ [_])[0]!.uq = true
  have h1 := h.u
  rw [bE _ _ (by omega)] at h1
  rw [bE _ _ (by rw [List.length_append]; omega), List.getElem_append_left (by omega)]; exact h1
 ·rcases List.mem_append.1 ht with ht | ht
  ·have := h.i t ht; show 0 ≤ t.id ∧ t.id < c.next + 1; omega
  ·rw [List.mem_singleton] at ht; subst ht; show 0 ≤ c.next ∧ c.next < c.next + 1; omega
 ·show ((c.stk ++ [_]).map _).Nodup
  rw [List.map_append, List.nodup_append]
  refine ⟨h.d, by simp, fun a ha b hb => ?_⟩
  simp only [List.map_cons, List.map_nil, List.mem_singleton] at hb
  obtain ⟨t, ht, rfl⟩ := List.mem_map.1 ha
  have := h.i t ht
  omega
theorem OkC.nw {v : Int} (h : 0 ≤ v ∧ v ≤ 9) : OkC (vY v) := ⟨h, ⟨by show (1 : Int) ≤ 1; decide, by show (1 : Int) ≤ 1000; decide⟩, ⟨by show 1 ≤ 1; decide, by show 1 ≤ 200; decide⟩, rfl, by simp [vY], by simp [vY]⟩
theorem OkM.set {m : List Cl} (h : OkM m) {k : Nat} {c : Cl} (hc : OkC c) : OkM (m.set k c) :=
 ⟨by rw [List.length_set]; exact h.l, fun x hx => (List.mem_or_eq_of_mem_set hx).elim (h.c x) (fun e => e ▸ hc)⟩
theorem OkM.at {m : List Cl} (h : OkM m) {k : Nat} (hk : k < m.length) : OkC m[k]! := h.c _ (aY _ _ hk)
theorem dR {m : List Cl} {x : Pt} {wr : Bool} (h : bF m x wr ≠ 4) : 0 ≤ x.cell ∧ x.cell < m.length ∧ x.cell.toNat < m.length := by
 unfold bF at h
 split at h
 ·exact absurd rfl h
 ·omega
theorem zM {m : List Cl} {x : Pt} {wr : Bool} (h : bF m x wr = 0) : 0 ≤ x.cell ∧ x.cell < m.length ∧ x.cell.toNat < m.length := dR (by rw [h]; decide)
theorem OkM.tch {m : List Cl} (h : OkM m) (x : Pt) (wr : Bool) : OkM (dZ m x wr) := by
 unfold dZ; split
 ·rename_i hk; exact h.set ((h.at (zM hk).2.2).tch x wr)
 ·exact h
theorem OkM.wr {m : List Cl} (h : OkM m) (x : Pt) (v : Int) : OkM (Ax m x v) := by
 unfold Ax
 by_cases hk : x6 m x v = 0
 ·rw [if_pos hk]
  unfold x6 at hk
  by_cases hv : 0 ≤ v ∧ v ≤ 9
  ·rw [if_pos hv] at hk
   have h1 := (h.at (zM hk).2.2).tch x true
   exact h.set ⟨hv, h1.n, h1.l, h1.u, h1.i, h1.d⟩
  ·rw [if_neg hv] at hk; cases hk
 ·rw [if_neg hk]; exact h
theorem OkM.fr {m : List Cl} (h : OkM m) (x : Pt) : OkM (lV m x) := by
 unfold lV; split
 ·rename_i hk
  have h1 := (h.at (zM hk).2.2).tch x true
  exact h.set ⟨h1.v, h1.n, h1.l, h1.u, h1.i, h1.d⟩
 ·exact h
theorem OkM.ln {m : List Cl} (h : OkM m) (x : Pt) (u : Bool) : OkM (n3 m x u) := by
 unfold n3
 by_cases hk : mD m x u = 0
 ·rw [if_pos hk]
  unfold mD at hk
  by_cases h0 : bF m x u = 0
  ·rw [if_pos h0] at hk
   by_cases hf : FU (uZ m[x.cell.toNat]! x u)
   ·rw [if_pos hf] at hk; cases hk
   ·exact h.set (((h.at (zM h0).2.2).tch x u).psh u hf)
  ·rw [if_neg h0] at hk; exact absurd hk h0
 ·rw [if_neg hk]; exact h
theorem OkM.nw {m : List Cl} (h : OkM m) {v : Int} (hv : 0 ≤ v ∧ v ≤ 9) (hl : m.length < 200) : OkM (m ++ [vY v]) :=
 ⟨by rw [List.length_append, List.length_singleton]; omega, fun c hc => (List.mem_append.1 hc).elim (h.c c) (fun h => by rw [List.mem_singleton.1 h]; exact OkC.nw hv)⟩
end Go.AL
namespace Go.AL
def iX (pts : List Pnt) (a : Nat) (cs : List Int) : Nat × List Int :=
 if pts[a]!.next.length = 2 then
  match cs with
  | [] => ((pts[a]!.next[1]!).toNat, [])
  | c :: cs => ((pts[a]!.next[(c % 2).toNat]!).toNat, cs)
 else ((pts[a]!.next[0]!).toNat, cs)
def g7 (pts : List Pnt) : Nat → Nat → List Int → List Nat × Bool
 | 0, a, _ => if pts[a]!.op = 11 then ([a], true) else ([], false)
 | n + 1, a, cs => if pts[a]!.op = 11 then ([a], true) else (a :: (g7 pts n (iX pts a cs).1 (iX pts a cs).2).1, (g7 pts n (iX pts a cs).1 (iX pts a cs).2).2)
structure Mc where
 slots : List Sl
 cells : List Cl
 read : List Int
 deriving Inhabited
def nA : Sl := ⟨false, 0, ⟨0, 0⟩⟩
def fL (k : Int) : Int := if k = 1 then 3 else 4
def oN (k : Int) : Int := if k = 0 then -1 else fL k
def cA (ts : List Int) (s : Mc) (v : Nat) (x : Sl) : Mc × Int :=
 if ts[v]! = 2 ∧ s.slots[v]!.set = true then (⟨s.slots.set v x, lV s.cells s.slots[v]!.ptr, s.read⟩, oN (bF s.cells s.slots[v]!.ptr true))
 else (⟨s.slots.set v x, s.cells, s.read⟩, -1)
def cZ (ts : List Int) (s : Mc) (x : Pnt) : Bool := (List.range ts.length).any fun v => decide (bD ts x v ≠ 0) && !s.slots[v]!.set
def c5 (ts : List Int) : Nat → Nat → Mc → Mc × Int
 | 0, _, s => (s, 0)
 | n + 1, v, s => if ts[v]! = 2 ∧ s.slots[v]!.set = true then
   (if bF s.cells s.slots[v]!.ptr true = 0 then c5 ts n (v + 1) ⟨s.slots.set v nA, lV s.cells s.slots[v]!.ptr, s.read⟩ else (⟨s.slots, lV s.cells s.slots[v]!.ptr, s.read⟩, fL (bF s.cells s.slots[v]!.ptr true)))
  else c5 ts n (v + 1) s
def dP (ts : List Int) (s : Mc) (x : Pnt) : Mc × Int :=
 if x.op = 1 then cA ts s x.x.toNat ⟨true, x.n, ⟨0, 0⟩⟩
 else if x.op = 2 then (if s.cells.length = 200 then (s, 1) else cA ts ⟨s.slots, s.cells ++ [vY x.n], s.read⟩ x.x.toNat ⟨true, 0, ⟨s.cells.length, 0⟩⟩)
 else if x.op = 3 then cA ts (if Au ts[x.y.toNat]! = true then ⟨s.slots.set x.y.toNat nA, s.cells, s.read⟩ else s) x.x.toNat s.slots[x.y.toNat]!
 else if x.op = 4 ∨ x.op = 5 then
  (if mD s.cells s.slots[x.y.toNat]!.ptr (decide (x.op = 5)) = 0 then cA ts ⟨s.slots, n3 s.cells s.slots[x.y.toNat]!.ptr (decide (x.op = 5)), s.read⟩ x.x.toNat ⟨true, 0, sB s.cells s.slots[x.y.toNat]!.ptr (decide (x.op = 5))⟩
   else (s, fL (mD s.cells s.slots[x.y.toNat]!.ptr (decide (x.op = 5)))))
 else if x.op = 6 then
  (if bF s.cells s.slots[x.y.toNat]!.ptr false = 0 then cA ts ⟨s.slots, dZ s.cells s.slots[x.y.toNat]!.ptr false, s.read ++ [pP s.cells s.slots[x.y.toNat]!.ptr]⟩ x.x.toNat ⟨true, pP s.cells s.slots[x.y.toNat]!.ptr, ⟨0, 0⟩⟩
   else (s, fL (bF s.cells s.slots[x.y.toNat]!.ptr false)))
 else if x.op = 7 then (⟨s.slots, Ax s.cells s.slots[x.x.toNat]!.ptr s.slots[x.y.toNat]!.num, s.read⟩, oN (x6 s.cells s.slots[x.x.toNat]!.ptr s.slots[x.y.toNat]!.num))
 else if x.op = 8 then (⟨s.slots.set x.x.toNat nA, lV s.cells s.slots[x.x.toNat]!.ptr, s.read⟩, oN (bF s.cells s.slots[x.x.toNat]!.ptr true))
 else if x.op = 11 then c5 ts ts.length 0 s
 else (s, -1)
def nV (ts : List Int) (pts : List Pnt) : List Nat → Mc → Nat → Mc × Int × Nat
 | [], s, last => (s, 1, last)
 | a :: l, s, _ => if cZ ts s pts[a]! = true then (s, 2, a)
  else if (dP ts s pts[a]!).2 = -1 then nV ts pts l (dP ts s pts[a]!).1 a
  else ((dP ts s pts[a]!).1, (dP ts s pts[a]!).2, a)
def mc0 (nt : Nat) : Mc := ⟨List.replicate nt nA, [], []⟩
def j1 (ts : List Int) (pts : List Pnt) (cs : List Int) (most : Nat) : Mc × Int × Nat := nV ts pts (g7 pts most 0 cs).1 (mc0 ts.length) 0
structure OkS (nt : Nat) (s : Mc) : Prop where
 m : OkM s.cells
 l : s.slots.length = nt
theorem OkS.put {ts : List Int} {nt : Nat} {s : Mc} (h : OkS nt s) (v : Nat) (x : Sl) : OkS nt (cA ts s v x).1 := by
 unfold cA; split
 ·exact ⟨h.m.fr _, by show (s.slots.set v x).length = nt; rw [List.length_set]; exact h.l⟩
 ·exact ⟨h.m, by show (s.slots.set v x).length = nt; rw [List.length_set]; exact h.l⟩
theorem OkS.fin {ts : List Int} {nt : Nat} : ∀ n v (s : Mc), OkS nt s → OkS nt (c5 ts n v s).1
 | 0, _, _, h => h
 | n + 1, v, s, h => by
  unfold c5; split
  ·split
   ·exact OkS.fin n _ _ ⟨h.m.fr _, by show (s.slots.set v nA).length = nt; rw [List.length_set]; exact h.l⟩
   ·exact ⟨h.m.fr _, h.l⟩
  ·exact OkS.fin n _ _ h
structure PtN (x : Pnt) : Prop where
 n : x.op = 2 → 0 ≤ x.n ∧ x.n ≤ 9
theorem OkS.do {ts : List Int} {nt : Nat} {s : Mc} (h : OkS nt s) {x : Pnt} (hx : PtN x) : OkS nt (dP ts s x).1 := by
 have hl : ∀ (v : Nat) (y : Sl), (s.slots.set v y).length = nt := fun v y => by rw [List.length_set]; exact h.l
 unfold dP
 split
 ·exact h.put _ _
 split
 ·rename_i h2
  split
  ·exact h
  ·rename_i h3
   refine OkS.put ?_ _ _
   exact ⟨h.m.nw (hx.n h2) (by have := h.m.l; omega), h.l⟩
 split
 ·split
  ·refine OkS.put ?_ _ _
   exact ⟨h.m, hl _ _⟩
  ·exact h.put _ _
 split
 ·split
  ·refine OkS.put ?_ _ _
   exact ⟨h.m.ln _ _, h.l⟩
  ·exact h
 split
 ·split
  ·refine OkS.put ?_ _ _
   exact ⟨h.m.tch _ _, h.l⟩
  ·exact h
 split
 ·exact ⟨h.m.wr _ _, h.l⟩
 split
 ·exact ⟨h.m.fr _, hl _ _⟩
 split
 ·exact OkS.fin _ _ _ h
 ·exact h
theorem OkS.mc0 (nt : Nat) : OkS nt (mc0 nt) := ⟨⟨by simp [Go.AL.mc0], by simp [Go.AL.mc0]⟩, by simp [Go.AL.mc0]⟩
theorem OkS.run {ts : List Int} {pts : List Pnt} {nt : Nat} (hp : ∀ a : Nat, PtN pts[a]!) : ∀ (l : List Nat) (s : Mc) (last : Nat), OkS nt s → OkS nt (nV ts pts l s last).1
 | [], _, _, h => h
 | a :: l, s, _, h => by
  unfold nV; split
  ·exact h
  ·split
   ·exact OkS.run hp l _ _ (h.do (hp a))
   ·exact h.do (hp a)
end Go.AL
namespace Go.AL
theorem Kh (k : Int) : fL k = 3 ∨ fL k = 4 := by unfold fL; split; exact .inl rfl; exact .inr rfl
theorem yV (ts : List Int) : ∀ n v (s : Mc), (c5 ts n v s).2 = 0 ∨ (c5 ts n v s).2 = 3 ∨ (c5 ts n v s).2 = 4
 | 0, _, _ => .inl rfl
 | n + 1, v, s => by
  unfold c5; split
  ·split
   ·exact yV ts n _ _
   ·exact .inr (Kh _)
  ·exact yV ts n _ _
theorem Iv {ts : List Int} {s : Mc} {x : Pnt} (h : x.op = 11) : dP ts s x = c5 ts ts.length 0 s := by
 unfold dP; simp [h]
theorem vQ (m : List Cl) (x : Pt) (b : Bool) : (dZ m x b).length = m.length := by unfold dZ; split <;> simp
end Go.AL
namespace Go.AL
structure PtA (ts : List Int) (x : Pnt) : Prop where
 n : x.op = 1 ∨ x.op = 2 → 0 ≤ x.n ∧ x.n ≤ 9
 t1 : x.op = 1 → ts[x.x.toNat]! = 1
 t2 : x.op = 2 ∨ x.op = 8 → ts[x.x.toNat]! = 2
 t3 : x.op = 3 → ts[x.x.toNat]! = ts[x.y.toNat]! ∧ x.x ≠ x.y
 t4 : x.op = 4 → ts[x.x.toNat]! = 3 ∧ x.x ≠ x.y ∧ 2 ≤ ts[x.y.toNat]!
 t5 : x.op = 5 → ts[x.x.toNat]! = 4 ∧ x.x ≠ x.y ∧ (ts[x.y.toNat]! = 2 ∨ ts[x.y.toNat]! = 4)
 t6 : x.op = 6 → ts[x.x.toNat]! = 1 ∧ 2 ≤ ts[x.y.toNat]!
 t7 : x.op = 7 → (ts[x.x.toNat]! = 2 ∨ ts[x.x.toNat]! = 4) ∧ ts[x.y.toNat]! = 1
theorem PtA.no {ts : List Int} {x : Pnt} (h : 9 ≤ x.op) : PtA ts x := ⟨fun e => by omega, fun e => by omega, fun e => by omega, fun e => by omega, fun e => by omega, fun e => by omega, fun e => by omega, fun e => by omega⟩
theorem Dl {ts : List Int} {s : Stmt} (h : dC ts s = true) : s.op ≤ 8 := by
 unfold dC at h
 dsimp only at h
 apply Classical.byContradiction
 intro e
 rw [if_neg (by omega), if_neg (by omega)] at h
 split at h
 ·cases h
 ·rw [if_neg (by omega), if_neg (by omega), if_neg (by omega), if_neg (by omega), if_neg (by omega), if_neg (by omega)] at h; cases h
theorem IX {ts : List Int} (s : Stmt) (h : dC ts s = true) : PtA ts ⟨s.op, s.x, s.y, s.n, []⟩ := by
 have g : ∀ v, 0 < fO ts v → fO ts v = ts[v.toNat]! := fun v => jI
 have gx := g s.x
 have gy := g s.y
 unfold dC at h
 dsimp only at h
 constructor <;> dsimp only <;> intro e
 case n => rcases e with e | e <;> simp [e] at h <;> omega
 case t1 => simp [e] at h; rw [← gx (by omega)]; omega
 case t2 => rcases e with e | e <;> simp [e] at h <;> (rw [← gx (by omega)]; omega)
 case t3 => simp [e] at h; rw [← gx (by omega), ← gy (by omega)]; exact ⟨h.2.1, h.2.2.2⟩
 case t4 => simp [e] at h; rw [← gx (by omega), ← gy (by omega)]; exact ⟨h.2.1, h.2.2.2, h.2.2.1⟩
 case t5 => simp [e] at h; rw [← gx (by omega), ← gy (by omega)]; exact ⟨h.2.1, h.2.2.2, h.2.2.1⟩
 case t6 => simp [e] at h; rw [← gx (by omega), ← gy (by omega)]; exact ⟨h.2.1, h.2.2⟩
 case t7 => simp [e] at h; rw [← gx (by omega), ← gy (by omega)]; exact ⟨h.2.1, h.2.2⟩
mutual
theorem OZ {ts : List Int} : ∀ (s : Stmt) (d b : Nat), rR ts d s = true → ∀ x ∈ vT b s, PtA ts x ∧ x.op ≠ 11 ∧ 0 < x.next.length
 | .mk op x y n th el, d, b, h => by
  simp only [rR] at h
  split at h
  ·rename_i hop
   simp only [Bool.and_eq_true] at h
   have hs := IX _ h.2
   have ho := Dl h.2
   simp only [Stmt.op, Stmt.x, Stmt.y, Stmt.n] at hs ho
   simp only [vT, hop.1, hop.2, if_false, List.mem_singleton]
   rintro z rfl
   exact ⟨⟨hs.n, hs.t1, hs.t2, hs.t3, hs.t4, hs.t5, hs.t6, hs.t7⟩, by dsimp only; omega, by simp⟩
  ·rename_i hop
   cases d with
   | zero => cases h
   | succ d =>
    simp only [Bool.and_eq_true, decide_eq_true_eq] at h
    obtain ⟨⟨⟨_, _⟩, h1⟩, h2⟩ := h
    by_cases h9 : op = 9
    ·subst h9
     simp only [vT, if_true, List.mem_append, List.mem_singleton]
     rintro z (((rfl | hz) | rfl) | hz)
     ·exact ⟨PtA.no (by simp), by simp, by simp⟩
     ·exact vO th d (b + 1) h1 z hz
     ·exact ⟨PtA.no (by simp), by simp, by simp⟩
     ·exact vO el d (b + 2 + dF th) h2 z hz
    ·have h10 : op = 10 := by omega
     subst h10
     simp only [vT, if_true, show ((10 : Int) = 9) = False by simp, if_false, List.mem_append, List.mem_singleton]
     rintro z ((rfl | hz) | rfl)
     ·exact ⟨PtA.no (by simp), by simp, by simp⟩
     ·exact vO th d (b + 1) h1 z hz
     ·exact ⟨PtA.no (by simp), by simp, by simp⟩
theorem vO {ts : List Int} : ∀ (l : List Stmt) (d b : Nat), okL ts d l = true → ∀ x ∈ gB b l, PtA ts x ∧ x.op ≠ 11 ∧ 0 < x.next.length
 | [], d, b, h => by simp [gB]
 | s :: l, d, b, h => by
  simp only [okL, Bool.and_eq_true] at h
  simp only [gB, List.mem_append]
  rintro x (hx | hx)
  ·exact OZ s d b h.1 x hx
  ·exact vO l d (b + oL s) h.2 x hx
end
structure WA (ts : List Int) (pts : List Pnt) : Prop where
 a : ∀ i, i < pts.length → PtA ts pts[i]!
 e : ∀ i, i < pts.length → (pts[i]!.op = 11 ↔ i + 1 = pts.length)
 n : ∀ i, i < pts.length → pts[i]!.op ≠ 11 → 0 < pts[i]!.next.length
theorem WA.of_valid {p : Prg} (h : bG p = true) : WA p.types (aB p) := by
 unfold bG at h
 simp only [Bool.and_eq_true, decide_eq_true_eq] at h
 obtain ⟨⟨_, hl⟩, _⟩ := h
 have hlen := mX p
 have hpl := bX p.body 0
 have lo : ∀ i, i + 1 < (aB p).length → (aB p)[i]! ∈ gB 0 p.body := fun i hi => by
  have h1 : i < (gB 0 p.body).length := by omega
  unfold aB
  rw [bE _ _ (by rw [List.length_append]; omega), List.getElem_append_left h1]
  exact List.getElem_mem h1
 have hi : ∀ i, i + 1 = (aB p).length → (aB p)[i]! = ⟨11, 0, 0, 0, []⟩ := fun i hi => by
  have h1 : i = (gB 0 p.body).length := by omega
  unfold aB
  rw [bE _ _ (by rw [List.length_append, List.length_singleton]; omega)]
  simp [h1]
 refine ⟨fun i h => ?_, fun i h => ⟨fun e => ?_, fun e => by rw [hi i e]⟩, fun i h ne => ?_⟩
 ·by_cases q : i + 1 < (aB p).length
  ·exact (vO p.body 4 0 hl _ (lo i q)).1
  ·rw [hi i (by omega)]; exact PtA.no (by simp)
 ·by_cases q : i + 1 < (aB p).length
  ·exact absurd e (vO p.body 4 0 hl _ (lo i q)).2.1
  ·omega
 ·by_cases q : i + 1 < (aB p).length
  ·exact (vO p.body 4 0 hl _ (lo i q)).2.2
  ·exact absurd (by rw [hi i (by omega)]) ne
end Go.AL
namespace Go.AL
theorem L5 {ts : List Int} {s : Mc} {x : Pnt} (h : cZ ts s x = false) {v : Nat} (hv : v < ts.length) (hu : bD ts x v ≠ 0) : s.slots[v]!.set = true := by
 unfold cZ at h
 rw [List.any_eq_false] at h
 have h1 := h v (List.mem_range.2 hv)
 rw [decide_eq_true hu, Bool.true_and] at h1
 simpa using h1
section
variable {ts : List Int} {pts : List Pnt}
theorem GJ (w : WG ts pts) (A : WA ts pts) {a : Nat} (ha : a < pts.length) (h11 : pts[a]!.op ≠ 11) (cs : List Int) : dQ pts a (iX pts a cs).1 := by
 have key : ∀ j : Nat, j < pts[a]!.next.length → dQ pts a (pts[a]!.next[j]!).toNat := fun j hj => by
  have hm := aY pts[a]!.next j hj
  refine ⟨ha, ?_⟩
  rw [show (((pts[a]!.next[j]!).toNat : Nat) : Int) = pts[a]!.next[j]! by have := (w.nx a ha _ hm).1; omega]
  exact hm
 have h0 := A.n a ha h11
 unfold iX
 split
 ·rename_i h2
  split
  ·exact key 1 (by omega)
  ·rename_i c cs
   exact key _ (by omega)
 ·exact key 0 h0
end
end Go.AL
namespace Go.AL
section
variable {ts : List Int} {pts : List Pnt}
theorem AR {s : Mc} {x : Pnt} (h : cZ ts s x = true) : ∃ v, v < ts.length ∧ bD ts x v ≠ 0 ∧ s.slots[v]!.set = false := by
 unfold cZ at h
 obtain ⟨v, hv, h2⟩ := List.any_eq_true.1 h
 rw [Bool.and_eq_true, decide_eq_true_eq] at h2
 exact ⟨v, List.mem_range.1 hv, h2.1, by simpa using h2.2⟩
end
end Go.AL
namespace Go.AL
theorem wT {m : List Cl} {x : Pt} {u : Bool} (h : mD m x u = 0) : bF m x u = 0 := by
 unfold mD at h
 by_cases h0 : bF m x u = 0
 ·exact h0
 ·rw [if_neg h0] at h; exact h
end Go.AL
namespace Go.AL
theorem uC (ts : List Int) : ∀ n v (s : Mc), (c5 ts n v s).1.read = s.read
 | 0, _, _ => rfl
 | n + 1, v, s => by
  unfold c5; split
  ·split
   ·exact uC ts n _ _
   ·rfl
  ·exact uC ts n _ _
theorem kT (ts : List Int) (s : Mc) (v : Nat) (x : Sl) : (cA ts s v x).1.read = s.read := by unfold cA; split <;> rfl
end Go.AL
namespace Go.AL
structure Co where
 val : Int
 alive : Bool
 next : Int
 av : AV
instance : Inhabited Co := ⟨⟨0, false, 0, .imm 0 []⟩⟩
def fD (c : Co) : List AV := [iv c.val, bv c.alive, iv c.next, c.av]
instance : FlT fD 4 := ⟨fun _ => rfl⟩
instance : FE fD (fun c => [iv c.val, bv c.alive, iv c.next, c.av]) := ⟨fun _ => rfl⟩
def rV (c : Cl) : Co := ⟨c.val, c.alive, c.next, sl cH c.stk⟩
def dG (m : List Cl) (j : Nat) (X : AV) : List Co := (m.map rV).set j { rV m[j]! with av := X }
theorem kY (m : List Cl) : flat fD (m.map rV) = flat bO m := by
 unfold flat; rw [List.flatMap_map]; rfl
theorem dB {m : List Cl} {j : Nat} {X : AV} : (dG m j X).length = m.length := by unfold dG; rw [List.length_set, List.length_map]
theorem iC {m : List Cl} {j : Nat} {X : AV} (h : j < m.length) : (dG m j X)[j]! = ⟨m[j]!.val, m[j]!.alive, m[j]!.next, X⟩ := by
 unfold dG
 rw [bE _ _ (by rw [List.length_set, List.length_map]; exact h), List.getElem_set_self]; rfl
theorem jU {m : List Cl} {j : Nat} {X : AV} (h : j < m.length) : flat fD (dG m j X) = flat bO (m.take j) ++ ([iv m[j]!.val, bv m[j]!.alive, iv m[j]!.next] ++ X :: flat bO (m.drop (j + 1))) := by
 unfold dG
 rw [List.set_eq_take_append_cons_drop, if_pos (by rw [List.length_map]; exact h), ← cQ, ← List.map_take, kY, ← List.map_drop]
 congr 1
 show fD _ ++ flat fD _ = _
 rw [kY]; rfl
theorem wR {m : List Cl} {j : Nat} {X : AV} (h : j < m.length) : flat fD (dG m j X) = (flat bO (m.take j) ++ [iv m[j]!.val, bv m[j]!.alive, iv m[j]!.next]) ++ X :: flat bO (m.drop (j + 1)) := by
 rw [jU h, List.append_assoc]
theorem A2 {m : List Cl} {j : Nat} {r : List Tg} : flat fD (dG m j (sl cH r)) = flat bO (m.set j { m[j]! with stk := r }) := by
 rw [← kY, List.map_set]; rfl
theorem yL {m : List Cl} {j : Nat} {X : AV} (h : j < m.length) : g6 (flat bO m) (0 + j * 4 + 3) [X] = flat fD (dG m j X) := by
 rw [← kY]
 have := eW (f := fD) (xs := m.map rV) (k := j) (j := 3) (new := [X]) (y := { rV m[j]! with av := X }) (by rw [List.length_map]; exact h) (by simp) (by
  have e : (m.map rV)[j]! = rV m[j]! := by rw [bE _ _ (by rw [List.length_map]; exact h), List.getElem_map, bE _ _ h]
  rw [e]; rfl)
 exact this
theorem vA {m : List Cl} {j : Nat} {X Y : AV} (h : j < m.length) : g6 (flat fD (dG m j X)) (0 + j * 4 + 3) [Y] = flat fD (dG m j Y) := by
 have e : dG m j Y = (dG m j X).set j { rV m[j]! with av := Y } := by unfold dG; rw [List.set_set]
 rw [e]
 exact eW (by rw [dB]; exact h) (by simp) (by rw [iC h]; rfl)
theorem yB {m : List Cl} {j : Nat} {X : AV} {v : Int} (h : j < m.length) : g6 (flat fD (dG m j X)) (0 + j * 4 + 2) [iv v] = flat fD (dG (m.set j { m[j]! with next := v }) j X) := by
 have e : dG (m.set j { m[j]! with next := v }) j X = (dG m j X).set j ⟨m[j]!.val, m[j]!.alive, v, X⟩ := by
  have e2 : (m.set j { m[j]! with next := v })[j]! = { m[j]! with next := v } := by rw [bE _ _ (by rw [List.length_set]; exact h), List.getElem_set_self]
  unfold dG
  rw [e2, List.map_set, List.set_set, List.set_set]; rfl
 rw [e]
 exact eW (by rw [dB]; exact h) (by simp) (by rw [iC h]; rfl)
theorem Le.cls {ts : List (Nat × AV)} {hs : List (Nat × Option (List AV))} {n : Nat} {z0 : Lo} {o q j k : Nat} {m : List Cl} {r : List Tg} (hj : aT hs o = some (flat fD (dG m j (.own q 0 k 2)))) (hq : aT hs q = some (flat cH r)) (hk : k = r.length) (hjm : j < m.length) (hoq : o ≠ q) :
  Le ⟨ts, hs, n, z0⟩ ⟨ts, (o, some (flat bO (m.set j { m[j]! with stk := r }))) :: (q, none) :: hs, n, z0⟩ := by
 subst hk
 rw [wR hjm] at hj
 have h := Le.frzC (ts := ts) (n := n) (z0 := z0) _ hj hq hoq
 rw [← A2, wR hjm]; exact h
theorem kE {ρ : Nat → Option Nat} {m : List Cl} {j k i i' : Nat} (hr : ρ i = some i') : RnL ρ (flat fD (dG m j (.own i 0 k 2))) (flat fD (dG m j (.own i' 0 k 2))) := by
 by_cases h : j < m.length
 ·rw [jU h, jU h]
  exact RnL.app (RnL.purI inferInstance) (RnL.app (RnL.purI inferInstance) (RnL.cons (RnV.own hr) (RnL.purI inferInstance)))
 ·have e : ∀ X, dG m j X = m.map rV := fun X => List.set_eq_of_length_le (by rw [List.length_map]; omega)
  rw [e, e, kY]
  exact RnL.purI inferInstance
end Go.AL
namespace Go.AL
open Go.RowKit Go.MapKept
set_option linter.unusedVariables false
set_option linter.unusedSimpArgs false
def OT (r : Nat) (ks : List Int) (w : World) : Prop := ∃ es ck, w.heap[r]? = some (.map es ck) ∧ ∀ e ∈ es.toList, ∃ k ∈ ks, e.key = .int .i64 k
structure GsM (C : Ctx) (s : AS) (r : Nat) (ks : List Int) (a : Act) (w : World) : Prop where
 g : Gs C s a w
 m : OT r ks w
 l : C.w0.heap.size ≤ r
theorem Fr.trans2 {W0 W1 : Nat → Prop} {w0 w w' : World} (h : Fr W0 w0 w) (k : Fr W1 w w') (hW : ∀ b, W1 b → W0 b ∨ w0.heap.size ≤ b) : Fr W0 w0 w' :=
 ⟨k.os.trans h.os, k.tape.trans h.tape, k.output.trans h.output, Nat.le_trans h.size k.size, fun b hb hw => by
  rw [k.block b (Nat.lt_of_lt_of_le hb h.size) (fun q => (hW b q).elim hw (fun h => by omega))]; exact h.block b hb hw, fun b => Nat.le_trans (h.bs b) (k.bs b)⟩
theorem GsM.base {C : Ctx} {s : AS} {r : Nat} {ks : List Int} {a : Act} {w : World} (h : GsM C s r ks a w) : ∃ C' : Ctx, C'.N = C.N ∧ Gs C' s a w ∧ ∀ s' a' w', Gs C' s' a' w' → GsM C s' r ks a' w' := by
 obtain ⟨⟨h0, ι, g, gh⟩, ⟨es, ck, hm, hk⟩, hl⟩ := h
 let C' : Ctx := { C with w0 := w, W0 := fun b => ∃ id cs β, aT s.hs id = some cs ∧ ι id = some (some (b, β)), xlt := fun b hb => Nat.lt_of_lt_of_le (C.xlt b hb) gh.fr.size }
 have hW : ∀ b, C'.W0 b → C.W0 b ∨ C.w0.heap.size ≤ b := by
  rintro b ⟨id, cs, β, h1, h2⟩
  rcases gh.obj id cs h1 with ⟨h3, _⟩ | ⟨b', β', arr, e, h3, h4, h5, h6, h7, h8⟩
  ·rw [h3] at h2; cases h2
  ·rw [h3] at h2; cases h2; exact h8
 have hr : ¬ C'.W0 r := by
  rintro ⟨id, cs, β, h1, h2⟩
  rcases gh.obj id cs h1 with ⟨h3, _⟩ | ⟨b', β', arr, e, h3, h4, h5, h6, h7, h8⟩
  ·rw [h3] at h2; cases h2
  ·rw [h3] at h2; cases h2; rw [hm] at h4; cases h4
 refine ⟨C', rfl, ⟨h0, ι, ⟨g.df, g.sz, g.tm⟩, ⟨fun id cs h => ?_, gh.sep, Fr.refl _ _, gh.ex, gh.fresh⟩⟩, ?_⟩
 ·rcases gh.obj id cs h with h1 | ⟨b', β', arr, e, h3, h4, h5, h6, h7, h8⟩
  ·exact .inl h1
  ·exact .inr ⟨b', β', arr, e, h3, h4, h5, h6, h7, .inl ⟨id, cs, β', h, h3⟩⟩
 ·rintro s' a' w' ⟨h0', ι', g', gh'⟩
  have f : Fr C'.W0 w w' := gh'.fr
  refine ⟨⟨h0', ι', ⟨g'.df, g'.sz, g'.tm⟩, ⟨fun id cs h => ?_, gh'.sep, gh.fr.trans2 f hW, gh'.ex, gh'.fresh⟩⟩, ⟨es, ck, by rw [f.block r (fG hm) hr]; exact hm, hk⟩, hl⟩
  rcases gh'.obj id cs h with h1 | ⟨b', β', arr, e, h3, h4, h5, h6, h7, h8⟩
  ·exact .inl h1
  ·refine .inr ⟨b', β', arr, e, h3, h4, h5, h6, h7, ?_⟩
   rcases h8 with h8 | h8
   ·exact hW _ h8
   ·exact .inr (Nat.le_trans gh.fr.size h8)
def sE (P : Program) (N : Nat) (c : Code) (Q : Exit → AS → List Int → Prop) (r : Nat) (ks : List Int) (s : AS) : Prop :=
 ∀ (C : Ctx) (a : Act) (w : World), C.N = N → GsM C s r ks a w → c.wp P (fun e a' w' => ∃ s' ks', Q e s' ks' ∧ GsM C s' r ks' a' w') a w
def GA (P : Program) (N : Nat) (all : Array Oper) (Q : Exit → AS → List Int → Prop) (r : Nat) (ks : List Int) (l : List Oper) (s : AS) : Prop :=
 ∀ (C : Ctx) (a : Act) (w : World), C.N = N → GsM C s r ks a w → wpList P all (fun e a' w' => ∃ s' ks', Q e s' ks' ∧ GsM C s' r ks' a' w') l a w
def vD (K : AS → List Int → Prop) (Q : Exit → AS → List Int → Prop) : Exit → AS → List Int → Prop
 | .normal, s, ks => K s ks
 | e, s, ks => Q e s ks
def Kc (id : Nat) (Q : Exit → AS → List Int → Prop) : Exit → AS → List Int → Prop
 | .exit i, s, ks => if i = id then Q .normal s ks else Q (.exit i) s ks
 | e, s, ks => Q e s ks
section
variable {P : Program} {N : Nat} {Q : Exit → AS → List Int → Prop} {s : AS} {r : Nat} {ks : List Int}
theorem pL {c : Code} (h : AW P N c (fun e s' => Q e s' ks) s) : sE P N c Q r ks s := by
 intro C a w hN g
 obtain ⟨C', h1, h2, h3⟩ := g.base
 exact wp_mono (h C' a w (h1.trans hN) h2) fun e a' w' ⟨s', q1, q2⟩ => ⟨s', ks, q1, h3 _ _ _ q2⟩
theorem k6 {x y : Code} (h : sE P N x (vD (fun s' ks' => sE P N y Q r ks' s') Q) r ks s) : sE P N (.seq x y) Q r ks s := by
 intro C a w hN g
 refine wp_seq (wp_mono (h C a w hN g) ?_)
 rintro e a' w' ⟨s', ks', h1, h2⟩
 cases e with
 | normal => exact h1 C a' w' hN h2
 | _ => exact ⟨s', ks', h1, h2⟩
theorem B2 {x y : Code} {c : Operand} {b : Bool} (hc : ev (lk s.ts) c = some (.v (.bool b))) (h1 : b = true → sE P N x Q r ks s) (h2 : b = false → sE P N y Q r ks s) : sE P N (.cond c x y) Q r ks s := by
 rintro C a w hN ⟨⟨h0, ι, g, gh⟩, hm, hl⟩
 have h := bZ g hc
 simp only [Rd] at h
 cases b
 ·exact wp_cond_false h (h2 rfl C a w hN ⟨⟨h0, ι, g, gh⟩, hm, hl⟩)
 ·exact wp_cond_true h (h1 rfl C a w hN ⟨⟨h0, ι, g, gh⟩, hm, hl⟩)
theorem x5 {id : Nat} {c : Code} (h : sE P N c (Kc id Q) r ks s) : sE P N (.block id c) Q r ks s := by
 intro C a w hN g
 refine wp_block (wp_mono (h C a w hN g) ?_)
 rintro e a' w' ⟨s', ks', h1, h2⟩
 cases e with
 | exit i =>
  simp only [Exit.inBlock, Kc] at h1 ⊢
  split
  ·rename_i hi; rw [if_pos hi] at h1; exact ⟨s', ks', h1, h2⟩
  ·rename_i hi; rw [if_neg hi] at h1; exact ⟨s', ks', h1, h2⟩
 | _ => exact ⟨s', ks', h1, h2⟩
theorem Bw (h : Q .normal s ks) : sE P N .skip Q r ks s := fun C a w _ g => wp_skip ⟨s, ks, h, g⟩
theorem GS {id : Nat} (h : Q (.exit id) s ks) : sE P N (.exit id) Q r ks s := fun C a w _ g => wp_exit ⟨s, ks, h, g⟩
theorem GG {σ : Type} {c : Code} (p : σ → Prop) (I : σ → AS) (J : σ → List Int) (μ : σ → Nat) (h0 : ∃ i, p i ∧ Le s (I i) ∧ J i = ks)
  (round : ∀ i, p i → sE P N c (vD (fun s' ks' => ∃ j, p j ∧ μ j < μ i ∧ Le s' (I j) ∧ J j = ks') Q) r (J i) (I i)) : sE P N (.loop c) Q r ks s := by
 intro C a w hN g
 obtain ⟨i, h1, h2, h3⟩ := h0
 subst h3
 refine wp_loop (fun a w => ∃ i, p i ∧ GsM C (I i) r (J i) a w) (fun a w => pD fun n => ∃ i, p i ∧ GsM C (I i) r (J i) a w ∧ μ i = n) ⟨i, h1, ⟨h2 C a w g.g, g.m, g.l⟩⟩ ?_
 rintro a w ⟨i0, hp0, hg0⟩
 obtain ⟨⟨i, hp, hg, hm⟩, hmin⟩ := iU (S := fun n => ∃ i, p i ∧ GsM C (I i) r (J i) a w ∧ μ i = n) ⟨_, i0, hp0, hg0, rfl⟩
 refine wp_mono (round i hp C a w hN hg) ?_
 rintro e a' w' ⟨s', ks', h3, h4⟩
 cases e with
 | normal =>
  obtain ⟨j, q1, q2, q3, rfl⟩ := h3
  have h5 : GsM C (I j) r (J j) a' w' := ⟨q3 C a' w' h4.g, h4.m, h4.l⟩
  refine ⟨⟨j, q1, h5⟩, ?_⟩
  have := (iU (S := fun n => ∃ i, p i ∧ GsM C (I i) r (J i) a' w' ∧ μ i = n) ⟨_, j, q1, h5, rfl⟩).2 (μ j) ⟨j, q1, h5, rfl⟩
  omega
 | _ => exact ⟨s', ks', h3, h4⟩
theorem E9 {σ : Type} {c : Code} {ts : List (Nat × AV)} {hs : List (Nat × Option (List AV))} {n : Nat} {z0 : Lo} (kl : List Nat) (kt : List (Nat × AV)) (js : List Nat) (kh : List (Nat × Option (List AV)))
  (ot : σ → List (Nat × AV)) (oh : σ → List (Nat × Option (List AV))) (J : σ → List Int) (p : σ → Prop) (μ : σ → Nat) (i0 : σ) (h0 : p i0) (hJ : J i0 = ks) (hk : oQ kl ts = kt) (hj : qV js hs = kh)
  (h1 : o8 ts (ot i0)) (h2 : nU hs (oh i0))
  (round : ∀ i, p i → sE P N c (vD (fun s' ks' => ∃ j, p j ∧ μ j < μ i ∧ Le s' ⟨ot j ++ kt, oh j ++ kh, n, z0⟩ ∧ J j = ks') Q) r (J i) ⟨ot i ++ kt, oh i ++ kh, n, z0⟩) :
  sE P N (.loop c) Q r ks ⟨ts, hs, n, z0⟩ := by
 subst hk hj
 exact GG p (fun i => ⟨ot i ++ oQ kl ts, oh i ++ qV js hs, n, z0⟩) J μ ⟨i0, h0, Le.lit (l8 h1 (mA kl)) (mL h2 (p8 js)) (Nat.le_refl _), hJ⟩ round
theorem tO {id : Nat} {l : List Oper} (h : GA P N l.toArray Q r ks l s) : sE P N (.region id l.toArray false) Q r ks s :=
 fun C a w hN g => wp_region_lit (h C a w hN g)
variable {all : Array Oper}
theorem MU {o : Oper} {a : Act} {w : World} {K K' : Act → World → Prop} {Q1 Q2 : Exit → Act → World → Prop} (h : ∀ a w, K a w → K' a w) (hq : ∀ e a w, Q1 e a w → e = .normal)
  (hh : o.wp P a w K Q1) : o.wp P a w K' Q2 := by
 have hL : ¬ LetsOut Q1 := fun ⟨a, w, q⟩ => by cases hq _ _ _ q
 unfold Oper.wp at *
 generalize (execOp a.eval o).run P w = z at *
 cases z with
 | ok n w' =>
  cases n <;> simp only [Oper.upon] at hh ⊢ <;>
   first
    | exact h _ _ hh
    | exact Calls.mono hh (fun e w'' he => by cases e <;> first | exact h _ _ he | (cases hq _ _ _ he) | exact absurd he hL)
    | exact Rows.mono hh (fun _ _ he => h _ _ he)
 | halt x w' => cases x <;> simp only [Oper.upon] at hh ⊢ <;> (cases hq _ _ _ hh)
theorem jS {Q1 Q2 : Exit → Act → World → Prop} {l2 : List Oper} (k : ∀ e a w, Q1 e a w → e = .normal ∧ wpList P all Q2 l2 a w) : ∀ (l1 : List Oper) (a : Act) (w : World), wpList P all Q1 l1 a w → wpList P all Q2 (l1 ++ l2) a w
 | [], a, w, h => (k _ _ _ h).2
 | o :: l1, a, w, h => by
  have hL : ¬ LetsOut Q1 := fun ⟨a, w, q⟩ => by cases (k _ _ _ q).1
  rw [List.cons_append]
  unfold wpList at h ⊢
  split
  ·rename_i hw
   rw [if_pos hw] at h
   rcases h with h | ⟨_, h⟩
   ·exact .inl (MU (fun a w => jS k l1 a w) (fun e a w q => (k e a w q).1) h)
   ·exact absurd h hL
  ·rename_i hw; rw [if_neg hw] at h; exact jS k l1 _ _ h
theorem BB {l1 l2 : List Oper} (h : RW P N all (fun e s' => e = .normal ∧ GA P N all Q r ks l2 s') .txt l1 s) : GA P N all Q r ks (l1 ++ l2) s := by
 intro C a w hN g
 obtain ⟨C', h1, h2, h3⟩ := g.base
 exact jS (fun e a' w' ⟨s', ⟨q1, q2⟩, q3⟩ => ⟨q1, q2 C a' w' hN (h3 _ _ _ q3)⟩) l1 a w (h C' a w (h1.trans hN) h2)
theorem K7 (h : Q .normal s ks) : GA P N all Q r ks [] s := fun C a w _ g => wpList_nil ⟨s, ks, h, g⟩
variable {rest : List Oper} {ts : List (Nat × AV)} {hs : List (Nat × Option (List AV))} {n : Nat} {z0 : Lo} {d : Nat} {ty : TypeId} {pos : String} {af : Array Edge}
theorem EZ {dst : Option Tmp} {op : Op} {j e : Nat} {want b : Bool} (hj : (all[j]?).bind (·.dst) = some e) (hb : lk s.ts e = some (.v (.bool b))) (hw : b = want) (h : GA P N all Q r ks (⟨dst, op, ty, pos, af, none⟩ :: rest) s) :
  GA P N all Q r ks (⟨dst, op, ty, pos, af, some (j, want)⟩ :: rest) s := by
 subst hw
 intro C a w hN g
 have h' := h C a w hN g
 obtain ⟨⟨h0, ι, g, gh⟩, hm, hl⟩ := g
 have hyl : yielded all a.tmps j = some b := by
  obtain ⟨y, hy, hr⟩ := g.tm e _ hb
  simp only [Rd] at hr
  subst hr
  simp [yielded, hj, hy]
 unfold wpList at h' ⊢
 simp only [Region.wanted, hyl, if_true, beq_self_eq_true] at h' ⊢
 exact h'
theorem rP {w : World} {mt kt et : TypeId} {es : Array MapEntry} {ck : Nat} {a : Int} (hu : P.underlying mt = some (.map kt et)) (hk : P.underlying kt = some (.int .i64)) (hz : (P.info? et).bind (·.zero) = some (.bool false))
  (hb : w.heap[r]? = some (.map es ck)) (hn : ∀ e ∈ es.toList, ∃ k, k ≠ a ∧ e.key = .int .i64 k) : (Instr.lookup mt (.map (some r)) (.int .i64 a) false).run P w = .ok (.bool false) w ∧ Instr.findNow (.int .i64) (.int .i64 a) es.toList 0 = some none := by
 have hkey : IsKey (.int .i64) (.int .i64 a) := by simp [IsKey]
 have hf : Instr.findNow (.int .i64) (.int .i64 a) es.toList 0 = some none := by
  rcases findNow_spec hkey es.toList 0 (fun x hx => by obtain ⟨k, _, h2⟩ := hn x hx; rw [h2]; simp [IsKey]) with ⟨h, _⟩ | ⟨j, e, _, h2, h3⟩
  ·exact h
  ·obtain ⟨k, h4, h5⟩ := hn e (List.mem_of_getElem? h2)
   rw [h5] at h3; cases h3; exact absurd rfl h4
 refine ⟨?_, hf⟩
 cases hi : P.info? et with
 | none => rw [hi] at hz; cases hz
 | some i =>
  rw [hi] at hz
  have hz2 : i.zero = some (.bool false) := hz
  simp [Instr.lookup, cC hu, Go.MapKept.run_getObj_map hb, run_checkKey hk hkey, run_findKey hk hf, zeroValue, typeInfo, hi, hz2, Result.andThen]
theorem CB {mt kt et : TypeId} {x y : Operand} {a : Int} (hu : P.underlying mt = some (.map kt et)) (hk : P.underlying kt = some (.int .i64)) (hz : (P.info? et).bind (·.zero) = some (.bool false))
  (hx : ev (lk ts) x = some (.v (.map (some r)))) (hy : ev (lk ts) y = some (.v (.int .i64 a))) (ha : a ∉ ks) (hN : Nat.blt d N = true) (kk : GA P N all Q r ks rest ⟨(d, .v (.bool false)) :: ts, hs, n, z0⟩) :
  GA P N all Q r ks (⟨some d, .lookup mt x y false, ty, pos, af, none⟩ :: rest) ⟨ts, hs, n, z0⟩ := by
 rintro C ac w hCN ⟨⟨h0, ι, g, gh⟩, ⟨es, ck, hm, hkk⟩, hl⟩
 refine wpList_plain rfl (fun K hK => ?_)
 have e1 := bZ g hx
 have e2 := bZ g hy
 simp only [Rd] at e1 e2
 have hr := (rP (P := P) hu hk hz hm (a := a) (fun e he => by obtain ⟨k, h1, h2⟩ := hkk e he; exact ⟨k, fun q => ha (q ▸ h1), h2⟩)).1
 have hop : (execOp ac.eval ⟨some d, .lookup mt x y false, ty, pos, af, none⟩).run P w = .ok (.value (.bool false)) w := by
  simp [execOp, e1, e2, hr]
 simp only [Oper.wp, hop, Oper.upon]
 refine hK _ _ (kk C _ _ hCN ⟨⟨h0, ι, ?_, gh⟩, ⟨es, ck, hm, hkk⟩, hl⟩)
 show TG C ι (lk ((d, _) :: ts)) _ _ _
 rw [hZ]
 exact g.put (by have := dE hN; omega) (by simp [Rd])
theorem DC {mt kt et : TypeId} {x y z : Operand} {a : Int} (hu : P.underlying mt = some (.map kt et)) (hk : P.underlying kt = some (.int .i64)) (hz : (P.info? et).bind (·.zero) = some (.bool false))
  (hx : ev (lk ts) x = some (.v (.map (some r)))) (hy : ev (lk ts) y = some (.v (.int .i64 a))) (ha : a ∉ ks) (kk : GA P N all Q r (ks ++ [a]) rest ⟨ts, hs, n, z0⟩) :
  GA P N all Q r ks (⟨none, .mapUpdate mt x y z, ty, pos, af, none⟩ :: rest) ⟨ts, hs, n, z0⟩ := by
 rintro C ac w hCN ⟨⟨h0, ι, g, gh⟩, ⟨es, ck, hm, hkk⟩, hl⟩
 refine wpList_plain rfl (fun K hK => ?_)
 have e1 := bZ g hx
 have e2 := bZ g hy
 simp only [Rd] at e1 e2
 have hkey : IsKey (.int .i64) (.int .i64 a) := by simp [IsKey]
 have hf := (rP (P := P) hu hk hz hm (a := a) (fun e he => by obtain ⟨k, h1, h2⟩ := hkk e he; exact ⟨k, fun q => ha (q ▸ h1), h2⟩)).2
 let o2 : Obj := .map (es.push { key := .int .i64 a, val := ac.eval z, born := ck }) (ck + 1)
 let w2 : World := { w with heap := w.heap.setIfInBounds r o2 }
 have hop : (execOp ac.eval ⟨none, .mapUpdate mt x y z, ty, pos, af, none⟩).run P w = .ok .skip w2 := by
  simp [execOp, e1, e2, Instr.mapUpdate, cC hu, Go.MapKept.run_getObj_map hm, run_checkKey hk hkey, run_findKey hk hf, Go.MapKept.run_setObj_map _ hm, Result.andThen, w2, o2]
 obtain ⟨hs1, hs2⟩ := heap_set (o' := o2) hm
 have hne : ∀ b c e f, w.heap[b]? = some (.cells c e f) → b ≠ r := fun b c e f h q => by subst q; rw [hm] at h; cases h
 have hbs : ∀ b, sW w2 b = sW w b := fun b => by
  by_cases e : b = r
  ·subst e; show (match w2.heap[b]? with | some (.cells c _ _) => c.size | _ => 0) = _; rw [show w2.heap[b]? = some o2 from hs1]; simp [sW, hm, o2]
  ·exact pM (hs2 b e)
 have hcell : ∀ b o v, w.cell? ⟨b, o, none⟩ = some v → w2.cell? ⟨b, o, none⟩ = some v := fun b o v h => by
  have : b ≠ r := fun q => by subst q; rw [World.cell?] at h; simp [hm] at h
  rw [dM (hs2 b this)]; exact h
 have car : ∀ bad : Nat → Prop, Carry w bad ι w2 bad ι := fun bad => ⟨fun b o v h1 h2 => ⟨h1, hcell b o v h2⟩, fun _ _ h => h, fun b => Nat.le_of_eq (hbs b).symm⟩
 simp only [Oper.wp, hop, Oper.upon]
 refine hK _ _ (kk C _ _ hCN ⟨⟨h0, ι, ?_, ?_⟩, ⟨_, _, hs1, ?_⟩, hl⟩)
 ·exact g.carry (car _)
 ·refine ⟨fun id cs h => ?_, gh.sep, ⟨gh.fr.os, gh.fr.tape, gh.fr.output, by show C.w0.heap.size ≤ (w.heap.setIfInBounds r o2).size; rw [Array.size_setIfInBounds]; exact gh.fr.size, fun b hb hw => ?_, fun b => by rw [hbs]; exact gh.fr.bs b⟩, gh.ex, gh.fresh⟩
  ·rcases gh.obj id cs h with h1 | ⟨b', β', arr, e, h3, h4, h5, h6, h7, h8⟩
   ·exact .inl h1
   ·exact .inr ⟨b', β', arr, e, h3, by rw [show w2.heap[b']? = w.heap[b']? from hs2 b' (hne _ _ _ _ h4)]; exact h4, h5, RdC.carryB (car _) _ _ _ (fun o v hv => hcell b' o v hv) h6, h7, h8⟩
  ·rw [show w2.heap[b]? = w.heap[b]? from hs2 b (by omega)]; exact gh.fr.block b hb hw
 ·intro e he
  rw [Array.toList_push, List.mem_append, List.mem_singleton] at he
  rcases he with he | rfl
  ·obtain ⟨k, h1, h2⟩ := hkk e he; exact ⟨k, List.mem_append_left _ h1, h2⟩
  ·exact ⟨a, by simp, rfl⟩
theorem HE {Q : Exit → AS → Prop} {id : Nat} {t : TypeId} {y : Code} (hN : Nat.blt d N = true)
  (h : ∀ r, GA P N (⟨some d, .makeMap t none, ty, pos, af, none⟩ :: rest).toArray (fun e s' ks' => e = .normal ∧ sE P N y (fun e s' _ => Q e s') r ks' s') r [] rest ⟨(d, .v (.map (some r))) :: ts, hs, n, z0⟩) :
  AW P N (.seq (.region id (⟨some d, .makeMap t none, ty, pos, af, none⟩ :: rest).toArray false) y) Q ⟨ts, hs, n, z0⟩ := by
 rintro C ac w hCN ⟨h0, ι, g, gh⟩
 refine wp_seq (wp_region_lit (wpList_plain rfl (fun K hK => ?_)))
 have hop : (execOp ac.eval ⟨some d, .makeMap t none, ty, pos, af, none⟩).run P w = .ok (.value (.map (some w.heap.size))) (w.alloc (.map #[] 0)) := by
  simp [execOp, Instr.makeMap, newObj, Sem.run]
 have f : Fr (fun _ => False) w (w.alloc (.map #[] 0)) := by
  refine ⟨rfl, rfl, rfl, by simp, fun b hb _ => Below.heap_alloc w _ b hb, fun b => ?_⟩
  rcases Nat.lt_or_ge b w.heap.size with hb | hb
  ·rw [pM (Below.heap_alloc w _ b hb)]; exact Nat.le_refl _
  ·simp [sW, Array.getElem?_eq_none hb]
 obtain ⟨g2, c2⟩ := gh.ext f
 simp only [Oper.wp, hop, Oper.upon]
 refine hK _ _ ?_
 have hh := h w.heap.size C (ac.put (some d) (.map (some w.heap.size))) (w.alloc (.map #[] 0)) hCN ⟨⟨h0, ι, ?_, g2⟩, ⟨#[], 0, heap_alloc_new w _, by simp⟩, gh.fr.size⟩
 ·have := jS (l2 := []) (P := P) (Q2 := Exit.then (y.wp P (fun e a' w' => ∃ s', Q e s' ∧ Gs C s' a' w')) (fun e a' w' => ∃ s', Q e s' ∧ Gs C s' a' w')) (all := (⟨some d, .makeMap t none, ty, pos, af, none⟩ :: rest).toArray)
   (k := fun e a' w' ⟨s', ks', ⟨q1, q2⟩, q3⟩ => ⟨q1, by
    subst q1
    exact wpList_nil (wp_mono (q2 C a' w' hCN q3) (fun e a'' w'' ⟨s'', ks'', u1, u2⟩ => ⟨s'', u1, u2.g⟩))⟩) rest _ _ hh
  rw [List.append_nil] at this
  exact this
 ·show TG C ι (lk ((d, _) :: ts)) _ _ _
  rw [hZ]
  exact (g.carry c2).put (by have := dE hN; omega) (by simp [Rd])
theorem H9 {K K2 : AS → List Int → Prop} {id : Nat} (h : Q .normal s ks) : vD K (vD K2 (Kc id Q)) (.exit id) s ks := by
 have e : vD K (vD K2 (Kc id Q)) (.exit id) s ks = (if id = id then Q .normal s ks else Q (.exit id) s ks) := rfl
 rw [e, if_pos rfl]; exact h
theorem HU {Q : Exit → AS → Prop} {id : Nat} {t : TypeId} {y : Code} (h : Stop (AW P N (.seq (.region id (⟨some d, .makeMap t none, ty, pos, af, none⟩ :: rest).toArray false) y) Q s)) :
  AW P N (.seq (.region id (⟨some d, .makeMap t none, ty, pos, af, none⟩ :: rest).toArray false) y) Q s := h
theorem MY {Q : Exit → AS → Prop} {c : Code} (h : AW P N c Q s) : Stop (AW P N c Q s) := h
theorem BY {l : List Oper} (h : RW P N all (fun e s' => e = .normal ∧ Q e s' ks) .txt l s) : GA P N all Q r ks l s := by
 intro C a w hN g
 obtain ⟨C', h1, h2, h3⟩ := g.base
 have := jS (l2 := []) (P := P) (all := all) (Q1 := fun e a' w' => ∃ s', (e = .normal ∧ Q e s' ks) ∧ Gs C' s' a' w') (Q2 := fun e a' w' => ∃ s' ks', Q e s' ks' ∧ GsM C s' r ks' a' w')
  (k := fun e a' w' ⟨s', ⟨q1, q2⟩, q3⟩ => ⟨q1, by subst q1; exact wpList_nil ⟨s', ks, q2, h3 _ _ _ q3⟩⟩) l a w (h C' a w (h1.trans hN) h2)
 rwa [List.append_nil] at this
end
end Go.AL
namespace Go.AL
open Go.RowKit
set_option linter.unusedVariables false
section
variable {P : Program} {N : Nat} {Q : Exit → AS → Prop} {all : Array Oper} {rest : List Oper} {ts : List (Nat × AV)} {hs : List (Nat × Option (List AV))} {n : Nat} {z0 : Lo} {md : Md}
variable {d : Nat} {ty : TypeId} {pos : String} {af : Array Edge}
theorem jA {α : Type} {hα : Inhabited α} {f g : α → List AV} {xs : List α} {e id k j z : Nat} {t : TypeId} {x : Operand} {cs' : List AV} [ha : AgT P t true] [hz : SzT P t z] (hx : ev (lk ts) x = some (.optr id (0 + k * e + j)))
  (hH : aT hs id = some (flat f xs)) (hf : FlT f e) (hg : FE f g) (hk : k < xs.length) (hj : j + z ≤ e) (hc : ((g xs[k]!).drop j).take z = cs') (h0 : Nat.blt 0 z = true) (hN : Nat.blt d N = true) {md' : Md} [hmd : MdA md (rO x ++ rA (.optr id (0 + k * e + j))) [.inl d] md']
  (kk : RW P N all Q md' rest ⟨(d, .agg cs') :: ts, hs, n, z0⟩) : RW P N all Q md (⟨some d, .load t x, ty, pos, af, none⟩ :: rest) ⟨ts, hs, n, z0⟩ := by
 have hl : (g xs[k]!).length = e := by rw [← hg.pf]; exact hf.pf _
 subst hc
 refine k4 (cs := (flat f xs).drop (0 + k * e + j)) hx ha.pf hz.pf (by simp only [deref, hH, Option.map_some]) (cs' := ((g xs[k]!).drop j).take z) ?_ (by rw [List.length_take, List.length_drop, hl]; omega) (by have := dE h0; omega) (dE hN) (by rw [hmd.pf]; exact kk)
 rw [Nat.zero_add, ← List.drop_drop, fM f xs k hk, ← hg.pf, List.drop_append_of_le_length (by rw [hf.pf]; omega), List.take_append_of_le_length (by rw [List.length_drop, hf.pf]; omega)]
end
end Go.AL
namespace Go.AL
open Go.RowKit
set_option linter.unusedVariables false
theorem EU (c : Int) : gO .and .i64 c 1 = some (.int .i64 (c % 2)) := by
 have h : (BitVec.ofInt 64 c &&& BitVec.ofInt 64 1).toNat = (c % 2).toNat := by
  rw [BitVec.toNat_and, show (BitVec.ofInt 64 1).toNat = 1 from rfl, Nat.and_one_is_mod, BitVec.toNat_ofInt]
  omega
 have e : gO .and .i64 c 1 = some (.int .i64 (IntKind.i64.wrap ((BitVec.ofInt 64 c &&& BitVec.ofInt 64 1).toNat : Int))) := rfl
 rw [e, h]
 rcases Int.emod_two_eq c with h2 | h2 <;> rw [h2] <;> rfl
section
variable {P : Program} {N : Nat} {Q : Exit → AS → Prop} {all : Array Oper} {rest : List Oper} {ts : List (Nat × AV)} {hs : List (Nat × Option (List AV))} {n : Nat} {z0 : Lo} {md : Md}
variable {d : Nat} {ty : TypeId} {pos : String} {af : Array Edge}
theorem LU {t t' : TypeId} {x y : Operand} {c : Int} (hx : ev (lk ts) x = some (.v (.int .i64 c))) (hy : ev (lk ts) y = some (.v (.int .i64 1)))
  (hN : Nat.blt d N = true) {md' : Md} [hmd : MdA md (rO x ++ rO y) [.inl d] md'] (kk : RW P N all Q md' rest ⟨(d, .v (.int .i64 (c % 2))) :: ts, hs, n, z0⟩) : RW P N all Q md (⟨some d, .binOp .and t x y t', ty, pos, af, none⟩ :: rest) ⟨ts, hs, n, z0⟩ :=
 eE hx hy (.inl rfl) (EU c) (dE hN) (by rw [hmd.pf]; exact kk)
end
end Go.AL
namespace Go.AL
open Go.RowKit
set_option linter.unusedVariables false
theorem EN {P : Program} {N : Nat} {Q : Exit → AS → Prop} {all : Array Oper} {rest : List Oper} {ts : List (Nat × AV)} {hs : List (Nat × Option (List AV))} {n : Nat} {z0 : Lo} {d : Nat} {ty : TypeId} {pos : String} {af : Array Edge}
  {t t' el : TypeId} {x : Operand} {id off m e : Nat} [ht : SlT P t el] (hx : ev (lk ts) x = some (.own id off m e)) (hN : Nat.blt d N = true)
  (kk : ∀ b : Bool, (b = true → m = 0) → RW P N all Q .txt rest ⟨(d, .v (.bool b)) :: ts, hs, n, z0⟩) : RW P N all Q .txt (⟨some d, .binOp .eql t x (.const (.slice none 0 0)) t', ty, pos, af, none⟩ :: rest) ⟨ts, hs, n, z0⟩ := by
 rintro C a w hCN ⟨h0, ι, g, gh⟩
 refine wpList_plain rfl (fun K hK => ?_)
 have h1 := bZ g hx
 simp only [Rd] at h1
 obtain ⟨a', m', c, h2, hb⟩ : ∃ a' m' c, a.eval x = .slice a' m' c ∧ (a'.isNone = true → m = 0) := by
  rcases h1 with ⟨_, rfl, a', h2⟩ | ⟨b, β, c, _, h2, _⟩
  ·exact ⟨a', 0, 0, h2, fun _ => rfl⟩
  ·exact ⟨_, m, c, h2, fun h => by cases h⟩
 have hu := kH ht.pf
 have hg : (eqGuard .eql t x (.const (.slice none 0 0)) (.slice a' m' c) (.slice none 0 0)).run P w = .ok () w := by simp [eqGuard]
 have hr : (execOp a.eval ⟨some d, .binOp .eql t x (.const (.slice none 0 0)) t', ty, pos, af, none⟩).run P w = .ok (.value (.bool a'.isNone)) w := by
  have e2 : a.eval (.const (.slice none 0 0)) = .slice none 0 0 := rfl
  simp only [execOp, h2, e2, Sem.run_bind, hg, Result.andThen_ok, x7 w t el hu, Sem.run_pure]
 simp only [Oper.wp, hr, Oper.upon]
 refine hK _ _ (kk a'.isNone hb C _ _ hCN ⟨h0, ι, ?_, gh⟩)
 show TG C ι (lk ((d, AV.v (.bool a'.isNone)) :: ts)) _ _ _
 rw [hZ]
 exact g.put (by have := dE hN; omega) (by simp [Rd])
end Go.AL
namespace Go.AL
set_option linter.unusedVariables false
section
variable {P : Program} {N : Nat} {Q : Exit → AS → Prop} {all : Array Oper} {rest : List Oper} {ts : List (Nat × AV)} {hs : List (Nat × Option (List AV))} {n : Nat} {z0 : Lo} {md : Md}
variable {d : Nat} {ty : TypeId} {pos : String} {af : Array Edge}
theorem EI {k : FuncId} {t : Nat} {args : Array Operand} {tys : Array TypeId} {avs avs0 f c : List AV} {fv : AV} {H0 : List (Nat × Option (List AV))} {rr rr' : AV} {hh : List (Nat × Option (List AV))}
  (mp : List Nat) (n1 : Nat) (ws : List (Nat × Option (List AV))) (h : MC P k avs0 H0 mp.length (fun _ : Unit => True) (fun _ => rr) (fun _ => hh)) (hx : lk ts t = some fv) (hcl : uG fv = some (k, f, c)) [hc : CaT P k] (ha : evL (lk ts) args.toList = some avs) (hd : distinct mp = true)
  (hH0 : rN hs H0 mp 0 mp) (hk : gL mp.length H0 = true) (har : RnL (mp[·]?) avs0 (f ++ avs ++ c)) (hM : Nat.ble (n + (n1 - mp.length)) aV = true)
  (hr : RnV (wQ mp n n1) rr rr') (hwa : cE mp ws = true) (hw : rF (wQ mp n n1) hh ws) (hN : Nat.blt d N = true)
  {md' : Md} [hmd : MdA md (rO (.tmp t) ++ fK args.toList ++ mp.map .inr) (ws.map (fun p => .inr p.1) ++ [.inl d]) md']
  (kk : RW P N all Q md' rest ⟨(d, rr') :: ts, gS hs ws, n + (n1 - mp.length), z0⟩) : RW P N all Q md (⟨some d, .call ⟨.value (.tmp t), args, tys⟩, ty, pos, af, none⟩ :: rest) ⟨ts, hs, n, z0⟩ := by
 have hM' := Nat.le_of_ble_eq_true hM
 have kk2 : RW P N all Q (md.add (rO (.tmp t) ++ fK args.toList ++ mp.map .inr) (ws.map (fun p => .inr p.1) ++ wD (some d))) rest (put ⟨ts, gS hs ws, n + (n1 - mp.length), z0⟩ (some d) rr') := by
  simp only [wD]; rw [hmd.pf]; exact kk
 refine iZ (rs := rO (.tmp t) ++ fK args.toList ++ mp.map .inr) (ws := ws) (n' := n + (n1 - mp.length)) (out := rr') rfl (Nat.le_add_right _ _) (.inr hM') (fun C ι F T H a w K Q' hCN ag hF g gh hK => ?_) (fun x e => by cases e; exact dE hN) kk2
 obtain ⟨lf, lc, hy, h1, h2⟩ := x4 hcl (bZ g (x := .tmp t) (ag.l.l.ev.trans hx))
 simp only [Oper.wp, uR hc.pf _ a w hy, Oper.upon]
 refine (tW (nid := n) (n1 := n1) h hd gh (fun j i hj => ?_) (nF hk) har hF (fun _ _ => hr) (fun _ _ => zU hwa hw) (jV (jV h1 (hG g (ag.l.r.evL.trans ha))) h2)).mono ?_
 ·obtain ⟨cs, cs', q1, q2, q3⟩ := pZ hH0 j i hj
  exact ⟨cs, cs', by simpa using q1, by rw [ag.r.h i (List.mem_map_of_mem (List.mem_of_getElem? hj))]; exact q2, q3⟩
 ·rintro e w' ⟨v, x, ι', rfl, hx, g', c', hrd⟩
  exact hK ι' w' v (g.carry c') g' hrd
end
end Go.AL
namespace Go.AL
theorem JW {ts : List Int} {pts : List Pnt} (w : WG ts pts) (f : Flows ts pts) {Al Af : List Nat} (hlf : Af.length = pts.length * 6) {i : Nat} (hi : i < pts.length) (hal : Al[i]! < 2 ^ ts.length) : ON ts pts f.Aa (Ac ts pts f.Am Al Af f.Ap i) i = zF ts pts f.Aa f.Am Al Af f.Ap i := by
 have htl := w.tl
 have hpl := w.pl
 have hset := w.set i hi
 unfold ON zF
 congr 1
 ·unfold oE
  have hsm : Sm (iO (wS ts pts[i]! [1, 2, 3]) f.Aa[i]!) := by
   have : Sm (wS ts pts[i]! [1, 2, 3]) := bU (by omega)
   infer_instance
  rw [pF (n := ts.length) (p := rM ts pts f.Aa i) hsm (by omega) fun v => ?_, List.map_map]
  ·rfl
  ·rw [cD, cK, Bool.and_assoc]
   congr 1
   unfold rM
   congr 1
   have hu := oM ts pts[i]! v
   by_cases e : bD ts pts[i]! v = 0
   ·rw [e]; rfl
   ·rw [decide_eq_false e]
    have : bD ts pts[i]! v ∈ ([1, 2, 3] : List Int) := by
     simp only [List.mem_cons, List.not_mem_nil, or_false]; omega
    rw [decide_eq_true this]; rfl
 ·unfold oA
  have hap : f.Ap[i]! < 2 ^ pts.length := by
   apply Nat.lt_pow_two_of_testBit
   intro l hl
   rw [Bool.eq_false_iff]; intro hq
   have := (m5 ((f.gp.2 i hi l).1 hq)).1
   dsimp only at this; omega
  have hcn := qQ w (Am := f.Am) (Al := Al) (Af := Af) hap
  have hsm : Sm (uK ts pts f.Am Al Af f.Ap i) := ⟨Nat.lt_of_lt_of_le hcn (Nat.pow_le_pow_right (by decide) (by omega))⟩
  rw [pF (n := pts.length) (p := fun l => (Ac ts pts f.Am Al Af f.Ap i)[l]!) hsm (by omega) fun l => ?_, List.map_map]
  ·rfl
  ·by_cases hl : l < pts.length
   ·rw [decide_eq_true hl, Bool.true_and, Bool.eq_iff_iff]
    have hloans : Sm (lQ ts pts[i]! Al[i]! (cG Af i) &&& f.Ap[i]!) := ⟨Nat.lt_of_lt_of_le (Nat.and_lt_two_pow _ hap) (Nat.pow_le_pow_right (by decide) (by omega))⟩
    have hacc : fR ts pts[i]! (bI ts.length pts.length f.Am)[i]![(aQ pts[i]!).toNat]! = fR ts pts[i]! (f.Am[i]!.testBit (aQ pts[i]!).toNat) := Ir fun h0 => hO _ _ _ _ _ hi (by omega)
    have hkp : (lQ ts pts[i]! Al[i]! (cG Af i)).testBit l = true ↔ (tY ts pts[i]! (eZ ts.length pts.length Af f.Ap i).1 (bI ts.length pts.length Al)[i]! pts.length)[l]! = true := by
     unfold tY
     rw [a6 _ _ _ hl]
     unfold lQ
     rw [dU, List.any_eq_true, cP _ _ _ _ hi]
     simp only [Nat.zero_testBit, Bool.false_eq_true, false_or, List.length_map, List.length_range, List.mem_range]
     constructor
     ·rintro ⟨z, hz, h2⟩
      obtain ⟨v, h3, h4, rfl⟩ := b9.1 hz
      rw [cD, Nat.testBit_or, cK, dS (by omega)] at h4
      simp only [Bool.and_eq_true, Bool.not_eq_true', Bool.or_eq_false_iff, Bool.and_eq_false_iff, decide_eq_false_iff_not] at h4
      have hv := cL hal h4.1
      refine ⟨v, hv, ?_⟩
      unfold Ce
      rw [a6 _ _ _ hv, h4.1, decide_eq_false h4.2.2]
      have hu : ¬ bD ts pts[i]! v = 2 := by
       rcases h4.2.1 with h5 | h5
       ·exact absurd hv h5
       ·simpa using h5
      rw [decide_eq_false hu]
      unfold eZ
      dsimp only
      rw [a6 _ _ _ hv, a6 _ _ _ hl]
      have h6 : (cG Af i)[v]! = Af[i * 6 + v]! := dX hlf hi (by omega)
      rw [Int.toNat_natCast, h6] at h2
      rw [h2]; rfl
     ·rintro ⟨v, hv, h2⟩
      unfold Ce at h2
      rw [a6 _ _ _ hv] at h2
      unfold eZ at h2
      dsimp only at h2
      rw [a6 _ _ _ hv, a6 _ _ _ hl] at h2
      simp only [Bool.and_eq_true, Bool.not_eq_true', decide_eq_false_iff_not] at h2
      refine ⟨(v : Int), b9.2 ⟨v, by omega, ?_, rfl⟩, ?_⟩
      ·rw [cD, Nat.testBit_or, cK, dS (by omega), h2.1, decide_eq_false h2.2.1]
       have : decide (bD ts pts[i]! (v : Int) ∈ ([2] : List Int)) = false := by simpa using h2.2.2.1
       rw [this]; simp
      ·rw [Int.toNat_natCast, dX hlf hi (by omega)]; exact h2.2.2.2
    have hplc : (eZ ts.length pts.length Af f.Ap i).2[l]! = f.Ap[i]!.testBit l := by unfold eZ; dsimp only; rw [a6 _ _ _ hl]
    unfold uK Ac
    rw [gH _ _ _ hloans, z5 _ _ _ _ _ hl, hacc, List.any_eq_true]
    simp only [Nat.zero_testBit, Bool.false_eq_true, false_or]
    constructor
    ·rintro ⟨c, hc, h1, h2, h3⟩
     rw [Nat.testBit_and, Bool.and_eq_true] at h1
     rw [iL] at h2
     simp only [Bool.and_eq_true, decide_eq_true_eq] at h2
     have hy := n5 w hl h2.2.1
     have hcv := Ao _ w hi c hc
     refine ⟨c, hc, ?_⟩
     unfold GD
     have e2 := h2.2.2
     rw [Nat.testBit_two_pow, decide_eq_true_eq] at e2
     rw [hkp.1 h1.1, hplc, h1.2, decide_eq_true (by omega : pts[l]!.y = c.var)]
     rcases h3 with h3 | h3
     ·rw [h3]; rfl
     ·rw [decide_eq_true h3]; simp
    ·rintro ⟨c, hc, h1⟩
     unfold GD at h1
     rw [hplc] at h1
     simp only [Bool.and_eq_true, Bool.or_eq_true, decide_eq_true_eq] at h1
     obtain ⟨⟨⟨h1, h2⟩, h3⟩, h4⟩ := h1
     have hln := (m5 ((f.gp.2 i hi l).1 h2)).2
     dsimp only at hln
     refine ⟨c, hc, ?_, ?_, h4⟩
     ·rw [Nat.testBit_and, hkp.2 h1, h2]; rfl
     ·rw [iL, decide_eq_true hl, hln, ← h3, Nat.testBit_two_pow_self]; rfl
   ·rw [decide_eq_false hl, Bool.false_and]
    exact Nat.testBit_lt_two_pow (Nat.lt_of_lt_of_le hcn (Nat.pow_le_pow_right (by decide) (by omega)))
def xO (ts : List Int) (pts : List Pnt) (Am : List Nat) : List Nat := (List.range pts.length).map fun (i : Nat) => gX ts pts[i]! Am[i]!
theorem Em (ts : List Int) (pts : List Pnt) (Am : List Nat) : (xO ts pts Am).length = pts.length := by simp [xO]
theorem pB (ts : List Int) (pts : List Pnt) (Am : List Nat) {i : Nat} (hi : i < pts.length) : (xO ts pts Am)[i]! = gX ts pts[i]! Am[i]! := a6 _ _ _ hi
def wE (p : Prg) (f : Flows p.types (aB p)) : List Iss := iN p.types (aB p) f.Aa f.Am (xO p.types (aB p) f.Am) f.Af f.Ap (aB p).length
end Go.AL
namespace Go.AL
theorem Pz {ts : List Int} {pts : List Pnt} {a : Nat × Nat × Nat} (h : GB ts pts a) : Mb ts pts (a.1, a.2.1) := by
 induction h with
 | base h => obtain ⟨e, _, h2⟩ := h; exact .base ⟨_, e, h2⟩
 | @step a b _ r ih =>
  obtain ⟨_, e, h⟩ := r
  rcases h with ⟨_, h2, h3⟩ | ⟨h1, _, _⟩
  ·exact .step ih ⟨h2, e, h3⟩
  ·exact .base ⟨_, e, h1⟩
theorem Hg {ts : List Int} {pts : List Pnt} (w : WG ts pts) (f : Flows ts pts) {i : Nat} (hi : i < pts.length) {l : Nat} (hl : (uK ts pts f.Am f.Al f.Af f.Ap i).testBit l = true) : (uK ts pts f.Am (xO ts pts f.Am) f.Af f.Ap i).testBit l = true := by
 have b := f.bnd w
 have hpl := w.pl
 have htl := w.tl
 have hst := w.set i hi
 have hset : aQ pts[i]! < 62 := by omega
 have hs : ∀ K : Nat, Sm (K &&& f.Ap[i]!) := fun K => j6 (n := pts.length) (by omega) (Nat.and_lt_two_pow _ (b.bP i))
 have hk : ∀ c : Nat, (lQ ts pts[i]! f.Al[i]! (cG f.Af i)).testBit c = true → (lQ ts pts[i]! (xO ts pts f.Am)[i]! (cG f.Af i)).testBit c = true := fun c hc => by
  unfold lQ at hc ⊢
  rw [dU] at hc ⊢
  rcases hc with h1 | ⟨z, hz, h1⟩
  ·exact .inl h1
  ·refine .inr ⟨z, ?_, h1⟩
   obtain ⟨v, h2, h3, rfl⟩ := b9.1 hz
   refine b9.2 ⟨v, h2, ?_, rfl⟩
   rw [cD, Bool.and_eq_true] at h3 ⊢
   refine ⟨?_, h3.2⟩
   have h4 := h3.2
   rw [Nat.testBit_or, cK, dS hset] at h4
   have hv : v < ts.length := by
    obtain ⟨k, _, hk⟩ := (f.gl.2 i hi v).1 h3.1
    exact o7 w hk
   rw [Int.toNat_natCast, dX f.gf.1 hi (by omega)] at h1
   have hm := (f.gm.2 i hi v).2 (Pz ((f.gf.2 i v hi (by omega) c).1 h1))
   rw [pB _ _ _ hi, dD hset, hm, decide_eq_true hv]
   rw [decide_eq_true hv] at h4
   simp only [List.mem_cons, List.not_mem_nil, or_false] at h4
   revert h4
   cases decide (bD ts pts[i]! (v : Int) = 2) <;> simp
 unfold uK at hl ⊢
 rw [gH _ _ _ (hs _)] at hl ⊢
 rcases hl with hl | ⟨c, hc, h1, h2⟩
 ·exact .inl hl
 ·refine .inr ⟨c, hc, ?_, h2⟩
  rw [Nat.testBit_and, Bool.and_eq_true] at h1 ⊢
  exact ⟨hk _ h1.1, h1.2⟩
theorem Ll {ts : List Int} {pts : List Pnt} (w : WG ts pts) (f : Flows ts pts) (x : Iss) (hx : x ∈ f.iss) : x ∈ iN ts pts f.Aa f.Am (xO ts pts f.Am) f.Af f.Ap pts.length := by
 unfold Flows.iss iN at hx
 unfold iN
 obtain ⟨i, hi, h⟩ := List.mem_flatMap.1 hx
 have hin := List.mem_range.1 hi
 refine List.mem_flatMap.2 ⟨i, hi, ?_⟩
 unfold zF at h ⊢
 rcases List.mem_append.1 h with h | h
 ·exact List.mem_append.2 (.inl h)
 ·obtain ⟨z, hz, rfl⟩ := List.mem_map.1 h
  obtain ⟨l, h1, h2, rfl⟩ := b9.1 hz
  exact List.mem_append.2 (.inr (List.mem_map.2 ⟨_, b9.2 ⟨l, h1, Hg w f hin h2, rfl⟩, rfl⟩))
theorem Np (p : Prg) (f : Flows p.types (aB p)) (hv : bG p = true) (h : wE p f = []) : f.iss = [] := by
 have w := WG.of_valid hv
 rw [List.eq_nil_iff_forall_not_mem]
 intro x hx
 have := Ll w f x hx
 unfold wE at h; rw [h] at this; cases this
theorem Oq (p : Prg) (f : Flows p.types (aB p)) {A : List Nat} (hA : GoodG p.types (aB p) A) (hv : bG p = true) (h : v8 p f A = []) : f.iss = [] := by
 have w := WG.of_valid hv
 rw [List.eq_nil_iff_forall_not_mem]
 intro x hx
 have := KS w (WT.of_valid hv) f hA x hx
 unfold v8 at h; rw [h] at this; cases this
end Go.AL
namespace Go.AL
def smL : List Stmt := [⟨4, 2, 1, 0, [], []⟩, ⟨5, 3, 1, 0, [], []⟩, ⟨4, 2, 3, 0, [], []⟩, ⟨6, 0, 2, 0, [], []⟩, ⟨6, 0, 1, 0, [], []⟩, ⟨7, 3, 0, 0, [], []⟩, ⟨7, 1, 0, 0, [], []⟩, ⟨2, 1, 0, 2, [], []⟩]
def JG : Nat → Nat → List Stmt
 | _, 0 => []
 | n, k + 1 => smL[n % 8]! :: JG (n / 8) k
def Qc : List Stmt := [⟨1, 0, 0, 1, [], []⟩, ⟨2, 1, 0, 0, [], []⟩]
def Mk (n : Nat) : Prg := ⟨[1, 2, 3, 4], Qc ++ JG n 4⟩
theorem NQ : ∀ c, c < 8 → rR [1, 2, 3, 4] 4 smL[c]! = true ∧ cR smL[c]! = 1 := by
 intro c hc
 have : c = 0 ∨ c = 1 ∨ c = 2 ∨ c = 3 ∨ c = 4 ∨ c = 5 ∨ c = 6 ∨ c = 7 := by omega
 rcases this with h | h | h | h | h | h | h | h <;> subst h <;> exact ⟨rfl, rfl⟩
theorem IK : ∀ k n, okL [1, 2, 3, 4] 4 (JG n k) = true ∧ aS (JG n k) = k
 | 0, n => ⟨rfl, rfl⟩
 | k + 1, n => by
  have h1 := NQ (n % 8) (Nat.mod_lt _ (by decide))
  have h2 := IK k (n / 8)
  rw [JG, okL, aS, h1.1, h1.2, h2.1, h2.2]
  exact ⟨rfl, by omega⟩
theorem J0 (n : Nat) : aS (Mk n).body = 6 := by
 have h := (IK 4 n).2
 show cR _ + (cR _ + aS (JG n 4)) = 6
 rw [h]; rfl
def v5 (L : List (List Iss)) : Nat := (L.filter fun l => !l.isEmpty).length
theorem Ho (L : List (List Iss)) (l : List Iss) : v5 (L ++ [l]) = v5 L + (if l = [] then 0 else 1) := by
 unfold v5; rw [List.filter_append, List.length_append]; cases l <;> rfl
theorem Fb (A B C : List Iss) : v5 [A, B, C] ≤ 3 ∧ (v5 [A, B, C] = 3 ↔ A ≠ [] ∧ B ≠ [] ∧ C ≠ []) ∧ (v5 [A, B, C] = 0 ↔ A = [] ∧ B = [] ∧ C = []) := by
 unfold v5
 cases A <;> cases B <;> cases C <;> simp
noncomputable def lY (p : Prg) (hv : bG p = true) : Flows p.types (aB p) := Classical.choice (Flows.ex (WG.of_valid hv))
noncomputable def JH (p : Prg) (hv : bG p = true) : List Nat := Classical.choose (GoodG.exist (WG.of_valid hv) (WT.of_valid hv))
theorem Ab (p : Prg) (hv : bG p = true) : GoodG p.types (aB p) (JH p hv) := Classical.choose_spec (GoodG.exist (WG.of_valid hv) (WT.of_valid hv))
noncomputable def Ma (p : Prg) (hv : bG p = true) : List (List Iss) := [wE p (lY p hv), v8 p (lY p hv) (JH p hv), (lY p hv).iss]
theorem K3 (p : Prg) (hv : bG p = true) : v5 (Ma p hv) ≤ 3 ∧ (v5 (Ma p hv) ≠ 3 → (lY p hv).iss = []) ∧ (wE p (lY p hv) = [] → (lY p hv).iss = []) ∧ (v8 p (lY p hv) (JH p hv) = [] → (lY p hv).iss = []) ∧ (v5 (Ma p hv) = 0 ↔ wE p (lY p hv) = [] ∧ v8 p (lY p hv) (JH p hv) = []) := by
 have h1 := Np p (lY p hv) hv
 have h2 := Oq p (lY p hv) (Ab p hv) hv
 have h3 := Fb (wE p (lY p hv)) (v8 p (lY p hv) (JH p hv)) (lY p hv).iss
 refine ⟨h3.1, fun h => ?_, h1, h2, ?_⟩
 ·unfold Ma at h
  rw [ne_eq, h3.2.1] at h
  by_cases ha : wE p (lY p hv) = []
  ·exact h1 ha
  ·by_cases hb : v8 p (lY p hv) (JH p hv) = []
   ·exact h2 hb
   ·by_cases hc : (lY p hv).iss = []
    ·exact hc
    ·exact absurd ⟨ha, hb, hc⟩ h
 ·unfold Ma; rw [h3.2.2]
  exact ⟨fun h => ⟨h.1, h.2.1⟩, fun h => ⟨h.1, h.2, h1 h.1⟩⟩
end Go.AL
