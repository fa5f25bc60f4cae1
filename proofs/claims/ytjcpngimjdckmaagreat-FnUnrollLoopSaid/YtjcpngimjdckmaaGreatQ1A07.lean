/-
 A part of the proofs over this program: rules and contracts of its functions (the rules).
-/
import Derived.Test.YtjcpngimjdckmaaGreatQ1A06
set_option linter.unusedVariables false
set_option linter.unusedSimpArgs false
namespace Go.AL
structure Ren (ts ts' : List Int) (σ : Nat → Nat) : Prop where
 l : ts'.length = ts.length
 b : ∀ v, v < ts.length → σ v < ts.length
 i : ∀ v u, v < ts.length → u < ts.length → σ v = σ u → v = u
 t : ∀ v, v < ts.length → ts'[σ v]! = ts[v]!
 s : ∀ u, u < ts.length → ∃ v, v < ts.length ∧ σ v = u
def fR (σ : Nat → Nat) (x : Pnt) : Pnt := ⟨x.op, if x.op ≤ 8 then (σ x.x.toNat : Int) else x.x, if 3 ≤ x.op ∧ x.op ≤ 7 then (σ x.y.toNat : Int) else x.y, x.n, x.next⟩
structure XOk (n : Nat) (x : Pnt) : Prop where
 x0 : 0 ≤ x.x
 x1 : x.op ≤ 8 → x.x < n
 y0 : 0 ≤ x.y
 y1 : 3 ≤ x.op → x.op ≤ 7 → x.y < n
 o : 1 ≤ x.op
section
variable {ts ts' : List Int} {σ : Nat → Nat} {x : Pnt} {v : Nat}
theorem Ren.eq (r : Ren ts ts' σ) (hv : v < ts.length) {z : Int} (h0 : 0 ≤ z) (h1 : z < ts.length) : ((σ v : Nat) : Int) = (σ z.toNat : Nat) ↔ (v : Int) = z := by
 constructor
 ·intro h
  have := r.i v z.toNat hv (by omega) (by omega)
  omega
 ·intro h
  rw [← h, Int.toNat_natCast]
theorem Bg (r : Ren ts ts' σ) (k : XOk ts.length x) (hv : v < ts.length) : bX ts' (fR σ x) (σ v : Nat) = bX ts x v := by
 have hx := fun h => r.eq hv k.x0 (k.x1 h)
 have hy := fun h h2 => r.eq hv k.y0 (k.y1 h h2)
 have ht := r.t v hv
 unfold bX fR
 dsimp only
 rw [Int.toNat_natCast, Int.toNat_natCast, ht]
 by_cases h3 : x.op = 3
 ·have := hy (by omega) (by omega)
  rw [if_pos h3, if_pos h3, if_pos (show 3 ≤ x.op ∧ x.op ≤ 7 by omega)]
  simp [this]
 ·by_cases h4 : x.op = 4 ∨ x.op = 5 ∨ x.op = 6
  ·have := hy (by omega) (by omega)
   rw [if_neg h3, if_neg h3, if_pos h4, if_pos h4, if_pos (show 3 ≤ x.op ∧ x.op ≤ 7 by omega)]
   simp [this]
  ·by_cases h7 : x.op = 7
   ·have a1 := hy (by omega) (by omega)
    have a2 := hx (by omega)
    rw [if_neg h3, if_neg h3, if_neg h4, if_neg h4, if_pos h7, if_pos h7, if_pos (show 3 ≤ x.op ∧ x.op ≤ 7 by omega), if_pos (show x.op ≤ 8 by omega)]
    simp [a1, a2]
   ·by_cases h8 : x.op = 8
    ·have a2 := hx (by omega)
     rw [if_neg h3, if_neg h3, if_neg h4, if_neg h4, if_neg h7, if_neg h7, if_pos h8, if_pos h8, if_pos (show x.op ≤ 8 by omega)]
     simp [a2]
    ·rw [if_neg h3, if_neg h3, if_neg h4, if_neg h4, if_neg h7, if_neg h7, if_neg h8, if_neg h8]
theorem KB (r : Ren ts ts' σ) (k : XOk ts.length x) (hv : v < ts.length) : bG (fR σ x) = (σ v : Nat) ↔ bG x = v := by
 have hx := fun h => r.eq hv k.x0 (k.x1 h)
 unfold bG fR
 dsimp only
 by_cases h : 1 ≤ x.op ∧ x.op ≤ 6
 ·have := hx (by omega)
  rw [if_pos h, if_pos h, if_pos (show x.op ≤ 8 by omega)]
  constructor
  ·intro q; exact (this.1 q.symm).symm
  ·intro q; exact (this.2 q.symm).symm
 ·rw [if_neg h, if_neg h]; omega
structure SimR (n : Nat) (σ : Nat → Nat) (s s' : Mc) : Prop where
 l : s.slots.length = n
 l' : s'.slots.length = n
 c : s'.cells = s.cells
 r : s'.read = s.read
 s : ∀ v, v < n → s'.slots[σ v]! = s.slots[v]!
theorem SimR.set {s s' : Mc} (r : Ren ts ts' σ) (h : SimR ts.length σ s s') (hv : v < ts.length) (z : Sl) (c : List Cl) (d : List Int) : SimR ts.length σ ⟨s.slots.set v z, c, d⟩ ⟨s'.slots.set (σ v) z, c, d⟩ := by
 refine ⟨by dsimp only; rw [List.length_set]; exact h.l, by dsimp only; rw [List.length_set]; exact h.l', rfl, rfl, fun u hu => ?_⟩
 dsimp only
 have b1 := r.b v hv
 have b2 := r.b u hu
 have l1 := h.l
 have l2 := h.l'
 have := h.s u hu
 rw [cK _ _ (by omega), cK _ _ (by omega)] at this
 rw [cK _ _ (by rw [List.length_set]; omega), cK _ _ (by rw [List.length_set]; omega), List.getElem_set, List.getElem_set]
 by_cases e : v = u
 ·rw [if_pos (by rw [e]), if_pos e]
 ·rw [if_neg (fun q => e (r.i v u hv hu q)), if_neg e]; exact this
theorem pU {s s' : Mc} (r : Ren ts ts' σ) (h : SimR ts.length σ s s') (hv : v < ts.length) (z : Sl) : SimR ts.length σ (dY ts s v z).1 (dY ts' s' (σ v) z).1 ∧ (dY ts' s' (σ v) z).2 = (dY ts s v z).2 := by
 unfold dY
 rw [r.t v hv, h.s v hv, h.c, h.r]
 split
 ·exact ⟨h.set r hv z _ _, rfl⟩
 ·exact ⟨h.set r hv z _ _, rfl⟩
theorem JL {s s' : Mc} (r : Ren ts ts' σ) (k : XOk ts.length x) (h : SimR ts.length σ s s') : dH ts' s' (fR σ x) = dH ts s x := by
 unfold dH
 rw [Bool.eq_iff_iff, List.any_eq_true, List.any_eq_true]
 constructor
 ·rintro ⟨u, hu, q⟩
  obtain ⟨v, hv, rfl⟩ := r.s u (by rw [← r.l]; exact List.mem_range.1 hu)
  refine ⟨v, List.mem_range.2 hv, ?_⟩
  rw [Bg r k hv, h.s v hv] at q; exact q
 ·rintro ⟨v, hv, q⟩
  have hv := List.mem_range.1 hv
  refine ⟨σ v, List.mem_range.2 (by rw [r.l]; exact r.b v hv), ?_⟩
  rw [Bg r k hv, h.s v hv]; exact q
theorem Li {s s' : Mc} (r : Ren ts ts' σ) (k : XOk ts.length x) (h : SimR ts.length σ s s') (h11 : x.op ≠ 11) : SimR ts.length σ (dR ts s x).1 (dR ts' s' (fR σ x)).1 ∧ (dR ts' s' (fR σ x)).2 = (dR ts s x).2 := by
 have hx0 := k.x0
 have hy0 := k.y0
 have hxv : x.op ≤ 8 → x.x.toNat < ts.length := fun q => by have := k.x1 q; omega
 have hyv : 3 ≤ x.op → x.op ≤ 7 → x.y.toNat < ts.length := fun q q2 => by have := k.y1 q q2; omega
 have hc := h.c
 have hr := h.r
 have eo : (fR σ x).op = x.op := rfl
 have en : (fR σ x).n = x.n := rfl
 have ex : x.op ≤ 8 → (fR σ x).x.toNat = σ x.x.toNat := fun q => by unfold fR; dsimp only; rw [if_pos q, Int.toNat_natCast]
 have ey : 3 ≤ x.op → x.op ≤ 7 → (fR σ x).y.toNat = σ x.y.toNat := fun q q2 => by unfold fR; dsimp only; rw [if_pos ⟨q, q2⟩, Int.toNat_natCast]
 have re : ∀ (c : List Cl) (d : List Int), SimR ts.length σ ⟨s.slots, c, d⟩ ⟨s'.slots, c, d⟩ := fun c d => ⟨h.l, h.l', rfl, rfl, h.s⟩
 unfold dR
 rw [eo, en]
 by_cases h1 : x.op = 1
 ·rw [if_pos h1, if_pos h1, ex (by omega)]
  exact pU r h (hxv (by omega)) _
 rw [if_neg h1, if_neg h1]
 by_cases h2 : x.op = 2
 ·rw [if_pos h2, if_pos h2, ex (by omega), hc, hr]
  split
  ·exact ⟨h, rfl⟩
  ·exact pU r (re _ _) (hxv (by omega)) _
 rw [if_neg h2, if_neg h2]
 by_cases h3 : x.op = 3
 ·rw [if_pos h3, if_pos h3, ex (by omega), ey (by omega) (by omega), r.t _ (hyv (by omega) (by omega)), h.s _ (hyv (by omega) (by omega)), hc, hr]
  split
  ·exact pU r (h.set r (hyv (by omega) (by omega)) jX _ _) (hxv (by omega)) _
  ·exact pU r h (hxv (by omega)) _
 rw [if_neg h3, if_neg h3]
 by_cases h4 : x.op = 4 ∨ x.op = 5
 ·rw [if_pos h4, if_pos h4, ex (by omega), ey (by omega) (by omega), h.s _ (hyv (by omega) (by omega)), hc, hr]
  split
  ·exact pU r (re _ _) (hxv (by omega)) _
  ·exact ⟨h, rfl⟩
 rw [if_neg h4, if_neg h4]
 by_cases h6 : x.op = 6
 ·rw [if_pos h6, if_pos h6, ex (by omega), ey (by omega) (by omega), h.s _ (hyv (by omega) (by omega)), hc, hr]
  split
  ·exact pU r (re _ _) (hxv (by omega)) _
  ·exact ⟨h, rfl⟩
 rw [if_neg h6, if_neg h6]
 by_cases h7 : x.op = 7
 ·rw [if_pos h7, if_pos h7, ex (by omega), ey (by omega) (by omega), h.s _ (hyv (by omega) (by omega)), h.s _ (hxv (by omega)), hc, hr]
  exact ⟨re _ _, rfl⟩
 rw [if_neg h7, if_neg h7]
 by_cases h8 : x.op = 8
 ·rw [if_pos h8, if_pos h8, ex (by omega), h.s _ (hxv (by omega)), hc, hr]
  exact ⟨h.set r (hxv (by omega)) jX _ _, rfl⟩
 rw [if_neg h8, if_neg h8, if_neg h11, if_neg h11]
 exact ⟨h, rfl⟩
end
end Go.AL
namespace Go.AL
section
variable {ts ts' : List Int} {pts : List Pnt} {σ : Nat → Nat}
theorem vU (w : WG ts pts) (A : WA ts pts) (cs : List Int) (n : Nat) (hn : n ≤ 197) (h : (runP ts pts cs n).2.1 = 3 ∨ (runP ts pts cs n).2.1 = 4) : pts[(runP ts pts cs n).2.2]!.op ≠ 11 := by
 have ho := F3 w A (Jv ts pts) (fun n a s k ha h11 he hJ hu hgo => by
  obtain ⟨⟨N, hN1, hN2, B⟩, V, R⟩ := hJ
  refine ⟨⟨N + 1, by omega, by omega, B.step w A ha h11 hN1 hu hgo⟩, V.step w A a s k ha h11 he hu hgo, ?_⟩
  rcases R with ⟨c, L, h1, h2⟩ | R
  ·exact .inl ⟨c, L, h1, .step h2 he⟩
  ·by_cases hC : ∃ L, Cf ts pts a L
   ·obtain ⟨L, hL⟩ := hC
    exact .inl ⟨a, L, hL, .base he⟩
   ·exact .inr (R.step w A he h11 B V (fun L hL => hC ⟨L, hL⟩) hu hgo)) n 0 cs (mc0 ts.length) 0 w.p0 (Jv.start hn)
 change LX ts pts _ (runP ts pts cs n) at ho
 rcases ho with ho | ⟨s', h0, ⟨m, J⟩, ⟨h3, _⟩ | ⟨h3, h4, h5, h6⟩⟩
 ·omega
 ·omega
 ·intro q
  obtain ⟨N, hN1, hN2, B⟩ := J.b
  rw [v7 q, (Own.fin ts.length 0 s' B.w (by omega) (fun u hu => by omega)).1] at h6; omega
theorem oH {a : Nat} : (pts.map (fR σ))[a]!.op = pts[a]!.op ∧ (pts.map (fR σ))[a]!.next = pts[a]!.next := by
 by_cases h : a < pts.length
 ·rw [cK _ _ (by rw [List.length_map]; exact h), cK _ _ h, List.getElem_map]; exact ⟨rfl, rfl⟩
 ·rw [List.getElem!_eq_getElem?_getD, List.getElem!_eq_getElem?_getD, List.getElem?_eq_none (by rw [List.length_map]; omega), List.getElem?_eq_none (by omega)]
  exact ⟨rfl, rfl⟩
theorem K3 {a : Nat} {cs : List Int} : fP (pts.map (fR σ)) a cs = fP pts a cs := by
 unfold fP; rw [(oH (σ := σ)).2]
theorem FK : ∀ n a cs, eX (pts.map (fR σ)) n a cs = eX pts n a cs
 | 0, a, cs => by unfold eX; rw [oH.1]
 | n + 1, a, cs => by rw [eX, eX, oH.1, K3, FK n]
def MG (pts : List Pnt) (r r' : Mc × Int × Nat) : Prop := r'.1.read = r.1.read ∧ r'.2.2 = r.2.2 ∧ (r'.2.1 = r.2.1 ∨ (pts[r.2.2]!.op = 11 ∧ (r.2.1 = 0 ∨ r.2.1 = 3 ∨ r.2.1 = 4) ∧ (r'.2.1 = 0 ∨ r'.2.1 = 3 ∨ r'.2.1 = 4)))
theorem XOk.of (w : WG ts pts) {a : Nat} (ha : a < pts.length) : XOk ts.length pts[a]! :=
 ⟨(w.x a ha).1, (w.x a ha).2, (w.y a ha).1, (w.y a ha).2, (w.op a ha).1⟩
theorem Gm (w : WG ts pts) (r : Ren ts ts' σ) : ∀ (l : List Nat) (s s' : Mc) (last : Nat), (∀ a ∈ l, a < pts.length) → SimR ts.length σ s s' → MG pts (gK ts pts l s last) (gK ts' (pts.map (fR σ)) l s' last)
 | [], s, s', last, _, h => ⟨h.r, rfl, .inl rfl⟩
 | a :: l, s, s', last, hl, h => by
  have ha := hl a List.mem_cons_self
  have k := XOk.of w ha
  have e : (pts.map (fR σ))[a]! = fR σ pts[a]! := by rw [cK _ _ (by rw [List.length_map]; exact ha), cK _ _ ha, List.getElem_map]
  rw [gK, gK, e, JL r k h]
  split
  ·exact ⟨h.r, rfl, .inl rfl⟩
  ·by_cases h11 : pts[a]!.op = 11
   ·have e1 := v7 (ts := ts) (s := s) h11
    have e2 := v7 (ts := ts') (s := s') (x := fR σ pts[a]!) h11
    have c1 := oK ts ts.length 0 s
    have c2 := oK ts' ts'.length 0 s'
    rw [e1, e2, if_neg (by omega), if_neg (by omega)]
    exact ⟨by dsimp only; rw [mI, mI, h.r], rfl, .inr ⟨h11, c1, c2⟩⟩
   ·obtain ⟨d1, d2⟩ := Li r k h h11
    rw [d2]
    split
    ·exact Gm w r l _ _ a (fun b hb => hl b (List.mem_cons_of_mem _ hb)) d1
    ·exact ⟨d1.r, rfl, .inl rfl⟩
theorem SimR.start (r : Ren ts ts' σ) : SimR ts.length σ (mc0 ts.length) (mc0 ts'.length) := by
 refine ⟨by simp [mc0], by simp [mc0, r.l], rfl, rfl, fun v hv => ?_⟩
 have b := r.b v hv
 show (List.replicate ts'.length jX)[σ v]! = (List.replicate ts.length jX)[v]!
 rw [cK _ _ (by rw [List.length_replicate, r.l]; exact b), cK _ _ (by rw [List.length_replicate]; exact hv), List.getElem_replicate, List.getElem_replicate]
theorem Hu (w : WG ts pts) (A : WA ts pts) (w' : WG ts' (pts.map (fR σ))) (A' : WA ts' (pts.map (fR σ))) (r : Ren ts ts' σ) (cs : List Int) (n : Nat) (hn : n ≤ 197) (hw : ∀ a ∈ (eX pts n 0 cs).1, a < pts.length) :
  (runP ts' (pts.map (fR σ)) cs n).1.read = (runP ts pts cs n).1.read ∧ (runP ts' (pts.map (fR σ)) cs n).2 = (runP ts pts cs n).2 := by
 have h : MG pts (runP ts pts cs n) (runP ts' (pts.map (fR σ)) cs n) := by
  unfold runP; rw [FK]; exact Gm w r _ _ _ _ hw (SimR.start r)
 obtain ⟨h1, h2, h3⟩ := h
 refine ⟨h1, Prod.ext ?_ h2⟩
 rcases h3 with h3 | ⟨h11, c1, c2⟩
 ·exact h3
 ·have g1 := vU w A cs n hn
  have g2 := vU w' A' cs n hn
  rw [h2, oH.1] at g2
  have f1 : (runP ts pts cs n).2.1 = 0 := by
   rcases c1 with c | c | c
   ·exact c
   ·exact absurd h11 (g1 (.inl c))
   ·exact absurd h11 (g1 (.inr c))
  have f2 : (runP ts' (pts.map (fR σ)) cs n).2.1 = 0 := by
   rcases c2 with c | c | c
   ·exact c
   ·exact absurd h11 (g2 (.inl c))
   ·exact absurd h11 (g2 (.inr c))
  rw [f1, f2]
end
end Go.AL
namespace Go.AL
section
variable {ts ts' : List Int} {pts : List Pnt} {σ : Nat → Nat}
theorem xR {a : Nat} (ha : a < pts.length) : (pts.map (fR σ))[a]! = fR σ pts[a]! := by
 rw [cK _ _ (by rw [List.length_map]; exact ha), cK _ _ ha, List.getElem_map]
theorem iA {i k : Nat} : eB (pts.map (fR σ)) i k ↔ eB pts i k := by
 unfold eB; rw [oH.2, List.length_map]
theorem nS (w : WG ts pts) (r : Ren ts ts' σ) {a v : Nat} (ha : a < pts.length) (hv : v < ts.length) : bX ts' (pts.map (fR σ))[a]! (σ v : Nat) = bX ts pts[a]! v := by
 rw [xR ha]; exact Bg r (XOk.of w ha) hv
theorem kN (w : WG ts pts) (r : Ren ts ts' σ) {a v : Nat} (ha : a < pts.length) (hv : v < ts.length) : bG (pts.map (fR σ))[a]! = (σ v : Nat) ↔ bG pts[a]! = v := by
 rw [xR ha]; exact KB r (XOk.of w ha) hv
theorem I7 (w : WG ts pts) (r : Ren ts ts' σ) {b : Nat × Nat} (h : Na ts pts b) (hb : b.2 < ts.length) : Na ts' (pts.map (fR σ)) (b.1, σ b.2) := by
 induction h with
 | base h =>
  obtain ⟨h1, h2⟩ := h
  refine .base ⟨by rw [r.l]; exact r.b _ hb, ?_⟩
  rcases h2 with h2 | ⟨i, e, u, s⟩
  ·exact .inl h2
  ·exact .inr ⟨i, iA.2 e, by rw [nS w r e.1 hb]; exact u, fun q => s ((kN w r e.1 hb).1 q)⟩
 | @step x y _ q ih =>
  have hx : x.2 < ts.length := by rw [← q.1]; exact hb
  exact .step (ih hx) ⟨by dsimp only; rw [q.1], iA.2 q.2.1, fun z => q.2.2 ((kN w r q.2.1.1 hx).1 z)⟩
theorem Ls (w : WG ts pts) (r : Ren ts ts' σ) {b : Nat × Nat} (h : Mb ts pts b) (hb : b.2 < ts.length) : Mb ts' (pts.map (fR σ)) (b.1, σ b.2) := by
 induction h with
 | base h =>
  obtain ⟨i, e, s⟩ := h
  exact .base ⟨i, iA.2 e, (kN w r e.1 hb).2 s⟩
 | @step x y _ q ih =>
  have hx : x.2 < ts.length := by rw [← q.1]; exact hb
  exact .step (ih hx) ⟨by dsimp only; rw [q.1], iA.2 q.2.1, by dsimp only; rw [nS w r q.2.1.1 hx]; exact q.2.2⟩
theorem L5 (w : WG ts pts) (r : Ren ts ts' σ) {b : Nat × Nat} (h : Nd ts pts b) (hb : b.2 < ts.length) : Nd ts' (pts.map (fR σ)) (b.1, σ b.2) := by
 induction h with
 | base h =>
  exact .base ⟨by rw [List.length_map]; exact h.1, by rw [r.l]; exact r.b _ hb, by dsimp only; rw [nS w r h.1 hb]; exact h.2.2⟩
 | @step x y _ q ih =>
  have hx : x.2 < ts.length := by rw [← q.1]; exact hb
  exact .step (ih hx) ⟨by dsimp only; rw [q.1], iA.2 q.2.1, fun z => q.2.2 ((kN w r q.2.1.1 hx).1 z)⟩
theorem LZ (w : WG ts pts) (r : Ren ts ts' σ) {i v : Nat} (h : Lv ts pts i v) (hb : v < ts.length) : Lv ts' (pts.map (fR σ)) i (σ v) := by
 obtain ⟨k, e, h⟩ := h
 exact ⟨k, iA.2 e, L5 w r h hb⟩
theorem G3 {a : Nat} : eE (pts.map (fR σ))[a]! = eE pts[a]! := by
 unfold eE; rw [oH.1]
theorem LW {a : Nat} (ha : a < pts.length) (h : 3 ≤ pts[a]!.op) (h2 : pts[a]!.op ≤ 7) : (pts.map (fR σ))[a]!.y = (σ pts[a]!.y.toNat : Nat) := by
 rw [xR ha]; unfold fR; dsimp only; rw [if_pos ⟨h, h2⟩]
theorem MA {a : Nat} (ha : a < pts.length) (h : pts[a]!.op ≤ 8) : (pts.map (fR σ))[a]!.x = (σ pts[a]!.x.toNat : Nat) := by
 rw [xR ha]; unfold fR; dsimp only; rw [if_pos h]
theorem CW {x : Pnt} (h : eE x = true) : x.op = 4 ∨ x.op = 5 := by
 unfold eE at h; simpa using h
theorem Lw (w : WG ts pts) (r : Ren ts ts' σ) {b : Nat × Nat} (h : Bk ts pts b) : Bk ts' (pts.map (fR σ)) b := by
 induction h with
 | base h => exact .base ⟨iA.2 h.1, by rw [G3]; exact h.2⟩
 | @step x y hx q ih =>
  obtain ⟨hl, hn⟩ := lQ hx
  have ho := CW hn
  have hy := w.y x.2 hl
  have hyl := hy.2 (by omega) (by omega)
  have hc : pts[x.2]!.y = ((pts[x.2]!.y.toNat : Nat) : Int) := by omega
  have ey := LW (σ := σ) hl (by omega) (by omega)
  have hv : pts[x.2]!.y.toNat < ts.length := by omega
  have e1 := nS w r q.2.1.1 hv
  have e2 := kN w r q.2.1.1 hv
  rw [← hc] at e1 e2
  refine .step ih ⟨q.1, iA.2 q.2.1, ?_, ?_⟩
  ·rw [ey, e1]; exact q.2.2.1
  ·rw [ey]; exact fun z => q.2.2.2 (e2.1 z)
end
end Go.AL
namespace Go.AL
section
variable {ts ts' : List Int} {pts : List Pnt} {σ : Nat → Nat}
theorem Au (w : WG ts pts) {a : Nat} (ha : a < pts.length) (h : 3 ≤ pts[a]!.op) (h2 : pts[a]!.op ≤ 7) {v : Nat} (e : pts[a]!.y = v) : v < ts.length ∧ (pts.map (fR σ))[a]!.y = (σ v : Nat) := by
 have := (w.y a ha).2 h h2
 refine ⟨by omega, ?_⟩
 rw [LW ha h h2, e, Int.toNat_natCast]
theorem Mj (w : WG ts pts) {a : Nat} (ha : a < pts.length) (h : pts[a]!.op ≤ 8) {v : Nat} (e : pts[a]!.x = v) : v < ts.length ∧ (pts.map (fR σ))[a]!.x = (σ v : Nat) := by
 have := (w.x a ha).2 h
 refine ⟨by omega, ?_⟩
 rw [MA ha h, e, Int.toNat_natCast]
theorem Mq (w : WG ts pts) (r : Ren ts ts' σ) {b : Nat × Nat × Nat} (h : yX ts pts b) : yX ts' (pts.map (fR σ)) (b.1, σ b.2.1, b.2.2) := by
 induction h with
 | @base x h =>
  have hs := (w.set x.2.2 h.1.1).1
  have hb : x.2.1 < ts.length := by rw [h.2.2] at hs; omega
  exact .base ⟨iA.2 h.1, by rw [G3]; exact h.2.1, (kN w r h.1.1 hb).2 h.2.2⟩
 | @step x y hx q ih =>
  have hx2 := (qF w hx).2.1
  have hy2 := (qF w (show yX ts pts y from Clo.step hx q)).2.1
  obtain ⟨q1, q2, q3⟩ := q
  refine .step ih ⟨q1, iA.2 q2, ?_⟩
  dsimp only
  rcases q3 with ⟨a1, a2, a3⟩ | ⟨a1, a2, a3⟩
  ·refine .inl ⟨fun z => a1 ((kN w r q2.1 hy2).1 z), by rw [a2], ?_⟩
   rw [nS w r q2.1 hx2]; exact a3
  ·have ho : pts[x.1]!.op = 3 ∨ pts[x.1]!.op = 4 ∨ pts[x.1]!.op = 5 := by
    rcases a3 with a3 | a3
    ·exact .inr (CW a3.1)
    ·exact .inl a3
   refine .inr ⟨(kN w r q2.1 hy2).2 a1, (Au w q2.1 (by omega) (by omega) a2.symm).2.symm, ?_⟩
   rw [G3, oH.1, r.t _ hx2]; exact a3
theorem Lr (w : WG ts pts) (r : Ren ts ts' σ) {a v : Nat} (ha : a < pts.length) (hv : v < ts.length) (h : Kp ts pts a v) : Kp ts' (pts.map (fR σ)) a (σ v) :=
 ⟨LZ w r h.1 hv, fun z => h.2.1 ((kN w r ha hv).1 z), by rw [nS w r ha hv]; exact h.2.2⟩
theorem L3 (w : WG ts pts) (r : Ren ts ts' σ) {a u : Nat} {wr : Bool} (ha : a < pts.length) (hu : u < ts.length) (h : Ac ts pts a u wr) : Ac ts' (pts.map (fR σ)) a (σ u) wr := by
 unfold Ac
 rw [oH.1, r.t u hu]
 rcases h with ⟨h, e, e2⟩ | ⟨h, e, e2⟩ | ⟨h, e, e2⟩ | ⟨h, ht, e, e2⟩ | ⟨h, ht, hm, e2⟩
 ·exact .inl ⟨h, (Au w ha (by omega) (by omega) e).2, e2⟩
 ·exact .inr (.inl ⟨h, (Au w ha (by omega) (by omega) e).2, e2⟩)
 ·exact .inr (.inr (.inl ⟨h, (Mj w ha (by omega) e).2, e2⟩))
 ·exact .inr (.inr (.inr (.inl ⟨h, ht, (Au w ha (by omega) (by omega) e).2, e2⟩)))
 ·exact .inr (.inr (.inr (.inr ⟨(kN w r ha hu).2 h, ht, Ls w r hm hu, e2⟩)))
theorem L7 (w : WG ts pts) (r : Ren ts ts' σ) {a L : Nat} (ha : a < pts.length) (h : Cf ts pts a L) : Cf ts' (pts.map (fR σ)) a L := by
 obtain ⟨v, u, wr, hk, hA, hf, hp, hy, hw⟩ := h
 obtain ⟨hl, hln⟩ := lQ hp
 have hv := (qF w hf).2.1
 have ho := CW hln
 dsimp only at hl ho hv
 obtain ⟨hu, ey⟩ := Au (σ := σ) w hl (by omega) (by omega) hy
 exact ⟨σ v, σ u, wr, Lr w r ha hv hk, L3 w r ha hu hA, Mq w r hf, Lw w r hp, ey, by rw [oH.1]; exact hw⟩
theorem Ren.back (r : Ren ts ts' σ) : ∃ τ : Nat → Nat, Ren ts' ts τ ∧ (∀ v, v < ts.length → τ (σ v) = v) ∧ ∀ u, u < ts.length → σ (τ u) = u := by
 have hex : ∀ u, ∃ v, u < ts.length → v < ts.length ∧ σ v = u := fun u => by
  by_cases h : u < ts.length
  ·obtain ⟨v, h1, h2⟩ := r.s u h; exact ⟨v, fun _ => ⟨h1, h2⟩⟩
  ·exact ⟨0, fun q => absurd q h⟩
 obtain ⟨τ, sp⟩ : ∃ τ : Nat → Nat, ∀ u, u < ts.length → τ u < ts.length ∧ σ (τ u) = u := ⟨fun u => Classical.choose (hex u), fun u => Classical.choose_spec (hex u)⟩
 have k1 : ∀ v, v < ts.length → τ (σ v) = v := fun v hv => r.i _ _ (sp _ (r.b v hv)).1 hv (sp _ (r.b v hv)).2
 refine ⟨τ, ⟨r.l.symm, fun v hv => ?_, fun v u hv hu e => ?_, fun v hv => ?_, fun u hu => ?_⟩, k1, fun u hu => (sp u hu).2⟩
 ·rw [r.l] at hv ⊢; exact (sp v hv).1
 ·rw [r.l] at hv hu; rw [← (sp v hv).2, ← (sp u hu).2, e]
 ·rw [r.l] at hv
  have := r.t (τ v) (sp v hv).1
  rw [(sp v hv).2] at this; exact this.symm
 ·rw [r.l] at hu ⊢; exact ⟨σ u, r.b u hu, k1 u hu⟩
end
end Go.AL
namespace Go.AL
section
variable {ts ts' : List Int} {pts : List Pnt} {σ : Nat → Nat}
theorem Gg (w : WG ts pts) (f : Flows ts pts) {a l : Nat} (ha : a < pts.length) (h : (BV ts pts f.Am f.Al f.Af f.Ap a).testBit l = true) : Cf ts pts a l := by
 obtain ⟨hl, hln⟩ := IA w f ha h
 have ho := CW hln
 have hyl := (w.y l hl).2 (by omega) (by omega)
 have hy0 := (w.y l hl).1
 have htl := w.tl
 rw [z9 w f ha hl hln, Bool.and_eq_true, Bool.and_eq_true] at h
 obtain ⟨h1, h2, h3⟩ := h
 obtain ⟨c, hc, hn⟩ := List.any_eq_true.1 h1
 unfold wN at hn
 rw [Bool.and_eq_true, decide_eq_true_eq] at hn
 obtain ⟨hv, hw⟩ := hn
 have hp := (f.gp.2 a ha l).1 h3
 unfold vB at h2
 rw [gM] at h2
 rcases h2 with h2 | ⟨z, hz, h2⟩
 ·simp at h2
 obtain ⟨v, _, hb, rfl⟩ := dQ.1 hz
 rw [dO, Nat.testBit_or, dN, Dw] at hb
 simp only [Bool.and_eq_true, Bool.not_eq_true', Bool.or_eq_false_iff] at hb
 obtain ⟨b1, b2, b3⟩ := hb
 have hvl : v < ts.length := by obtain ⟨k, _, q⟩ := (f.gl.2 a ha v).1 b1; exact qH w q
 rw [Int.toNat_natCast, gF f.gf.1 ha (by omega)] at h2
 have hk : Kp ts pts a v := by
  refine ⟨(f.gl.2 a ha v).1 b1, by simpa using b3, ?_⟩
  rw [decide_eq_true hvl, Bool.true_and] at b2
  simpa using b2
 have hf := (f.gf.2 a v ha (by omega) l).1 h2
 refine ⟨v, pts[l]!.y.toNat, c.write, hk, ?_, hf, hp, by omega, by simpa using hw⟩
 unfold kF at hc
 have ec : ∀ (x : Int) (b : Bool), c = ⟨x, b⟩ → x = ((pts[l]!.y.toNat : Nat) : Int) ∧ c.write = b := fun x b e => by
  rw [e] at hv ⊢; dsimp only at hv ⊢; exact ⟨by omega, rfl⟩
 rcases List.mem_append.1 hc with hc | hc
 ·split at hc
  ·rename_i q; obtain ⟨e1, e2⟩ := ec _ _ (List.mem_singleton.1 hc); exact .inl ⟨q, e1, e2⟩
  ·split at hc
   ·rename_i q; obtain ⟨e1, e2⟩ := ec _ _ (List.mem_singleton.1 hc); exact .inr (.inl ⟨q, e1, e2⟩)
   ·split at hc
    ·rename_i q; obtain ⟨e1, e2⟩ := ec _ _ (List.mem_singleton.1 hc); exact .inr (.inr (.inl ⟨q, e1, e2⟩))
    ·split at hc
     ·rename_i q; obtain ⟨e1, e2⟩ := ec _ _ (List.mem_singleton.1 hc)
      refine .inr (.inr (.inr (.inl ⟨q.1, ?_, e1, e2⟩)))
      have := q.2; rw [e1, Int.toNat_natCast] at this; exact this
     ·cases hc
 ·split at hc
  ·rename_i q; obtain ⟨e1, e2⟩ := ec _ _ (List.mem_singleton.1 hc)
   obtain ⟨q1, q2, q3⟩ := q
   rw [e1, Int.toNat_natCast] at q2 q3
   exact .inr (.inr (.inr (.inr ⟨e1, q2, (f.gm.2 a ha _).1 q3, e2⟩)))
  ·cases hc
theorem La (w : WG ts pts) (f : Flows ts pts) {a L : Nat} (ha : a < pts.length) (h : Cf ts pts a L) : (BV ts pts f.Am f.Al f.Af f.Ap a).testBit L = true := by
 have hm := Gk w f ha h
 obtain ⟨hl, _⟩ := lQ (h.elim fun _ q => q.elim fun _ q => q.elim fun _ q => q.2.2.2.1)
 unfold Flows.iss qJ at hm
 obtain ⟨b, _, hm⟩ := List.mem_flatMap.1 hm
 rcases List.mem_append.1 hm with hm | hm
 ·obtain ⟨z, _, e⟩ := List.mem_map.1 hm
  have e2 := congrArg Iss.kind e
  dsimp only at e2
  split at e2 <;> omega
 ·obtain ⟨z, hz, e⟩ := List.mem_map.1 hm
  obtain ⟨l, _, hb, rfl⟩ := dQ.1 hz
  injection e with e1 e2 e3
  have e1 : b = a := by omega
  have e3 : l = L := by omega
  rw [e1, e3] at hb; exact hb
end
end Go.AL
namespace Go.AL
theorem vZ : ∀ (L M : List Nat), L.Nodup → (∀ x ∈ L, x ∈ M) → L.length ≤ M.length
 | [], M, _, _ => Nat.zero_le _
 | x :: L, M, h, hs => by
  have hx := hs x List.mem_cons_self
  obtain ⟨h1, h2⟩ := List.nodup_cons.1 h
  have := vZ L (M.erase x) h2 fun y hy => (List.mem_erase_of_ne (fun e => h1 (by rw [← e]; exact hy))).2 (hs y (List.mem_cons_of_mem _ hy))
  rw [List.length_erase_of_mem hx] at this
  have := List.length_pos_of_mem hx
  rw [List.length_cons]; omega
theorem wR {σ : Nat → Nat} : ∀ (L : List Nat), L.Nodup → (∀ x ∈ L, ∀ y ∈ L, σ x = σ y → x = y) → (L.map σ).Nodup
 | [], _, _ => by simp
 | x :: L, h, hi => by
  obtain ⟨h1, h2⟩ := List.nodup_cons.1 h
  rw [List.map_cons, List.nodup_cons]
  refine ⟨fun q => ?_, wR L h2 fun a ha b hb => hi a (List.mem_cons_of_mem _ ha) b (List.mem_cons_of_mem _ hb)⟩
  obtain ⟨y, hy, e⟩ := List.mem_map.1 q
  have := hi y (List.mem_cons_of_mem _ hy) x List.mem_cons_self e
  exact h1 (by rw [← this]; exact hy)
theorem HY {σ : Nat → Nat} {n : Nat} {p q : Nat → Bool} (hb : ∀ v, v < n → σ v < n) (hi : ∀ v u, v < n → u < n → σ v = σ u → v = u) (h : ∀ v, v < n → p v = true → q (σ v) = true) : (List.range n).countP p ≤ (List.range n).countP q := by
 rw [List.countP_eq_length_filter, List.countP_eq_length_filter, ← List.length_map (f := σ)]
 have m : ∀ x, x ∈ (List.range n).filter p → x < n ∧ p x = true := fun x hx => by
  rw [List.mem_filter, List.mem_range] at hx; exact hx
 refine vZ _ _ (wR _ (List.Nodup.sublist List.filter_sublist List.nodup_range) fun x hx y hy e => hi x y (m x hx).1 (m y hy).1 e) fun z hz => ?_
 obtain ⟨x, hx, rfl⟩ := List.mem_map.1 hz
 rw [List.mem_filter, List.mem_range]
 exact ⟨hb x (m x hx).1, h x (m x hx).1 (m x hx).2⟩
section
variable {ts ts' : List Int} {pts : List Pnt} {σ τ : Nat → Nat}
theorem z8 (w : WG ts pts) (h : ∀ v, v < ts.length → τ (σ v) = v) : (pts.map (fR σ)).map (fR τ) = pts := by
 apply List.ext_getElem (by simp)
 intro a h1 h2
 have k := XOk.of w h2
 rw [cK _ _ h2] at k
 rw [List.getElem_map, List.getElem_map]
 generalize pts[a] = x at k
 obtain ⟨op, X, Y, n, nx⟩ := x
 have x0 := k.x0
 have x1 := k.x1
 have y0 := k.y0
 have y1 := k.y1
 dsimp only at x0 x1 y0 y1
 unfold fR
 dsimp only
 congr 1
 ·by_cases q : op ≤ 8
  ·have := x1 q
   rw [if_pos q, if_pos q, Int.toNat_natCast, h _ (by omega)]; omega
  ·rw [if_neg q, if_neg q]
 ·by_cases q : 3 ≤ op ∧ op ≤ 7
  ·have := y1 q.1 q.2
   rw [if_pos q, if_pos q, Int.toNat_natCast, h _ (by omega)]; omega
  ·rw [if_neg q, if_neg q]
theorem Jz (w : WG ts pts) (w' : WG ts' (pts.map (fR σ))) (r : Ren ts ts' σ) {a v : Nat} (hv : v < ts.length) : Na ts' (pts.map (fR σ)) (a, σ v) ↔ Na ts pts (a, v) := by
 obtain ⟨τ, rb, e1, e2⟩ := r.back
 constructor
 ·intro h
  have := I7 w' rb h (by rw [r.l]; exact r.b v hv)
  dsimp only at this
  rw [z8 w e1, e1 v hv] at this; exact this
 ·intro h; exact I7 w r h hv
theorem I6 (t : List Int) (x : Pnt) (A v : Nat) : (lU (wS t x [1, 2, 3]) A).testBit v = (decide (v < t.length) && (decide (bX t x v ∈ ([1, 2, 3] : List Int)) && !A.testBit v)) := by
 rw [dO, dN, Bool.and_assoc]
theorem Ji (t : List Int) (x : Pnt) (A : Nat) : lU (wS t x [1, 2, 3]) A < 2 ^ t.length := by
 apply Nat.lt_pow_two_of_testBit
 intro i hi
 rw [I6, decide_eq_false (by omega), Bool.false_and]
theorem KA (w : WG ts pts) (w' : WG ts' (pts.map (fR σ))) (r : Ren ts ts' σ) (f : Flows ts pts) (g : Flows ts' (pts.map (fR σ))) {k : Nat} (ha : k < pts.length) :
  (cO (lU (wS ts pts[k]! [1, 2, 3]) f.Aa[k]!)).length ≤ (cO (lU (wS ts' (pts.map (fR σ))[k]! [1, 2, 3]) g.Aa[k]!)).length := by
 have ha' : k < (pts.map (fR σ)).length := by rw [List.length_map]; exact ha
 have htl := w.tl
 have htl' := w'.tl
 have e1 := wM (Ji ts pts[k]! f.Aa[k]!) (show ts.length ≤ 62 by omega)
 have e2 := wM (Ji ts' (pts.map (fR σ))[k]! g.Aa[k]!) (show ts'.length ≤ 62 by omega)
 have e3 : List.range ts'.length = List.range ts.length := by rw [r.l]
 rw [e3] at e2
 rw [e1, e2]
 refine HY r.b r.i fun v hv h => ?_
 rw [I6, Bool.and_eq_true, Bool.and_eq_true] at h ⊢
 refine ⟨decide_eq_true (by rw [r.l]; exact r.b v hv), ?_, ?_⟩
 ·rw [nS w r ha hv]; exact h.2.1
 ·have h3 := h.2.2
  rw [Bool.not_eq_true'] at h3 ⊢
  cases q : (g.Aa[k]!).testBit (σ v) with
  | false => rfl
  | true =>
   have := (g.ga.2 k ha' (σ v)).1 q
   have hn : ¬ Na ts pts (k, v) := fun z => this.2 ((Jz w w' r hv).2 z)
   rw [(f.ga.2 k ha v).2 ⟨hv, hn⟩] at h3; cases h3
theorem E7 (w : WG ts pts) (w' : WG ts' (pts.map (fR σ))) (r : Ren ts ts' σ) (f : Flows ts pts) (g : Flows ts' (pts.map (fR σ))) : f.iss.length ≤ g.iss.length := by
 unfold Flows.iss
 rw [List.length_map]
 have key : ∀ k, k ≤ pts.length → (qJ ts pts f.Aa f.Am f.Al f.Af f.Ap k).length ≤ (qJ ts' (pts.map (fR σ)) g.Aa g.Am g.Al g.Af g.Ap k).length := by
  intro k
  induction k with
  | zero => intro _; simp [qJ]
  | succ k ih =>
   intro hk
   have ha : k < pts.length := hk
   have ha' : k < (pts.map (fR σ)).length := by rw [List.length_map]; exact ha
   have htl := w.tl
   rw [mZ, mZ, List.length_append, List.length_append]
   refine Nat.add_le_add (ih (by omega)) ?_
   unfold B5 Bu Cd
   rw [List.length_append, List.length_append, List.length_map, List.length_map, List.length_map, List.length_map]
   refine Nat.add_le_add ?_ (bitsI_mono fun l hl => La w' g ha' (L7 w r ha (Gg w f ha hl)))
   exact KA w w' r f g ha
 exact key _ (Nat.le_refl _)
theorem JG (w : WG ts pts) (w' : WG ts' (pts.map (fR σ))) (r : Ren ts ts' σ) (f : Flows ts pts) (g : Flows ts' (pts.map (fR σ))) : g.iss.length = f.iss.length := by
 refine Nat.le_antisymm ?_ (E7 w w' r f g)
 obtain ⟨τ, rb, e1, e2⟩ := r.back
 have e := z8 w e1
 have w2 : WG ts ((pts.map (fR σ)).map (fR τ)) := by rw [e]; exact w
 have f2 : ∃ f2 : Flows ts ((pts.map (fR σ)).map (fR τ)), f2.iss.length = f.iss.length := by
  rw [e]; exact ⟨f, rfl⟩
 obtain ⟨f2, h⟩ := f2
 rw [← h]
 exact E7 w' w2 rb g f2
end
end Go.AL
namespace Go.AL
mutual
def yO (σ : Nat → Nat) : Stmt → Stmt
 | .mk op x y n th el => .mk op (if op ≤ 8 then (σ x.toNat : Int) else x) (if 3 ≤ op ∧ op ≤ 7 then (σ y.toNat : Int) else y) n (kG σ th) (kG σ el)
def kG (σ : Nat → Nat) : List Stmt → List Stmt
 | [] => []
 | s :: l => yO σ s :: kG σ l
end
mutual
theorem E8 (σ : Nat → Nat) : ∀ s : Stmt, m9 (yO σ s) = m9 s
 | .mk op x y n th el => by
  have h1 := uI σ th
  have h2 := uI σ el
  rw [yO, m9, m9, h1, h2]
theorem uI (σ : Nat → Nat) : ∀ l : List Stmt, eF (kG σ l) = eF l
 | [] => by rw [kG]
 | s :: l => by
  have h1 := E8 σ s
  have h2 := uI σ l
  rw [kG, eF, eF, h1, h2]
end
mutual
theorem KU (σ : Nat → Nat) : ∀ (s : Stmt) (b : Nat), qL b (yO σ s) = (qL b s).map (fR σ)
 | .mk op x y n th el, b => by
  have h1 := fun b => xT σ th b
  have h2 := fun b => xT σ el b
  rw [yO, qL, qL, h1, h2, uI, uI]
  by_cases h9 : op = 9
  ·rw [if_pos h9, if_pos h9]
   simp only [List.map_append, List.map_cons, List.map_nil]
   rfl
  ·rw [if_neg h9, if_neg h9]
   by_cases h10 : op = 10
   ·rw [if_pos h10, if_pos h10]
    simp only [List.map_append, List.map_cons, List.map_nil]
    rfl
   ·rw [if_neg h10, if_neg h10]
    simp only [List.map_cons, List.map_nil]
    rfl
theorem xT (σ : Nat → Nat) : ∀ (l : List Stmt) (b : Nat), fY b (kG σ l) = (fY b l).map (fR σ)
 | [], b => by rw [kG, fY]; rfl
 | s :: l, b => by
  have h1 := KU σ s b
  have h2 := fun b => xT σ l b
  rw [kG, fY, fY, h1, h2, E8, List.map_append]
end
theorem CB {ts ts' : List Int} {b : List Stmt} (σ : Nat → Nat) : c9 ⟨ts', kG σ b⟩ = (c9 ⟨ts, b⟩).map (fR σ) := by
 unfold c9
 dsimp only
 rw [xT, List.map_append]
 rfl
end Go.AL
namespace Go.AL
theorem nL : ∀ (L M : List Int), L.Nodup → (∀ x ∈ L, x ∈ M) → L.length ≤ M.length
 | [], M, _, _ => Nat.zero_le _
 | x :: L, M, h, hs => by
  have hx := hs x List.mem_cons_self
  obtain ⟨h1, h2⟩ := List.nodup_cons.1 h
  have := nL L (M.erase x) h2 fun y hy => (List.mem_erase_of_ne (fun e => h1 (by rw [← e]; exact hy))).2 (hs y (List.mem_cons_of_mem _ hy))
  rw [List.length_erase_of_mem hx] at this
  have := List.length_pos_of_mem hx
  rw [List.length_cons]; omega
def nmOk (n : Nat) (nm : List Int) : Prop := ∀ v, v < n → 0 ≤ nm[v]! ∧ nm[v]! < n ∧ ∀ u, u < v → nm[u]! ≠ nm[v]!
def nmAll (n : Nat) (nm : List Int) : Prop := ∀ i : Nat, i < n → (i : Int) ∈ nm
theorem nmOk.all {n : Nat} {nm : List Int} (hl : nm.length = n) (h : nmOk n nm) : nmAll n nm := by
 intro i hi
 by_cases q : (i : Int) ∈ nm
 ·exact q
 exfalso
 have hn : nm.Nodup := by
  rw [List.nodup_iff_pairwise_ne, List.pairwise_iff_getElem]
  intro u v hu hv huv
  have := (h v (by omega)).2.2 u huv
  rw [cK _ _ hu, cK _ _ hv] at this; exact this
 have := nL ((i : Int) :: nm) ((List.range n).map fun v : Nat => (v : Int)) (List.nodup_cons.2 ⟨q, hn⟩) fun z hz => by
  rw [List.mem_map]
  rcases List.mem_cons.1 hz with rfl | hz
  ·exact ⟨i, List.mem_range.2 hi, rfl⟩
  ·obtain ⟨v, hv, e⟩ := List.getElem_of_mem hz
   have := h v (by omega)
   rw [cK _ _ hv, e] at this
   exact ⟨z.toNat, List.mem_range.2 (by omega), by omega⟩
 simp at this; omega
theorem nmAll.ok {n : Nat} {nm : List Int} (hl : nm.length = n) (h : nmAll n nm) : nmOk n nm := by
 intro v hv
 have bad : ¬ ((¬ (0 ≤ nm[v]! ∧ nm[v]! < n)) ∨ ∃ u, u < v ∧ nm[u]! = nm[v]!) := by
  intro q
  have hr : ((List.range n).map fun v : Nat => (v : Int)).Nodup := by
   rw [List.nodup_iff_pairwise_ne, List.pairwise_map]
   exact List.Pairwise.imp (fun {a b} (z : a < b) => by omega) List.pairwise_lt_range
  have := nL _ (nm.eraseIdx v) hr fun z hz => by
   obtain ⟨i, hi, rfl⟩ := List.mem_map.1 hz
   have hi := List.mem_range.1 hi
   obtain ⟨w, hw, e⟩ := List.getElem_of_mem (h i hi)
   rw [List.mem_eraseIdx_iff_getElem]
   by_cases hwv : w = v
   ·subst hwv
    rw [cK _ _ hw, e] at q
    rcases q with q | ⟨u, hu, q⟩
    ·omega
    ·refine ⟨u, by omega, by omega, ?_⟩
     rw [cK _ _ (by omega)] at q; exact q
   ·exact ⟨w, hw, hwv, e⟩
  rw [List.length_map, List.length_range, List.length_eraseIdx_of_lt (by omega)] at this
  omega
 refine ⟨?_, ?_, fun u hu e => bad (.inr ⟨u, hu, e⟩)⟩
 ·exact Decidable.byContradiction fun z => bad (.inl fun y => z y.1)
 ·exact Decidable.byContradiction fun z => bad (.inl fun y => z y.2)
theorem Ren.of {ts ts' : List Int} {nm : List Int} (hl : nm.length = ts.length) (hl' : ts'.length = ts.length) (h : nmOk ts.length nm) (ht : ∀ v, v < ts.length → ts'[nm[v]!.toNat]! = ts[v]!) : Ren ts ts' (fun v => nm[v]!.toNat) := by
 refine ⟨hl', fun v hv => ?_, fun v u hv hu e => ?_, ht, fun u hu => ?_⟩
 ·have := h v hv; omega
 ·have h1 := h v hv
  have h2 := h u hu
  rcases Nat.lt_trichotomy v u with q | q | q
  ·exact absurd (by omega) (h2.2.2 v q)
  ·exact q
  ·exact absurd (by omega) (h1.2.2 u q)
 ·obtain ⟨v, hv, e⟩ := List.getElem_of_mem (h.all hl u hu)
  refine ⟨v, by omega, ?_⟩
  rw [cK _ _ hv, e, Int.toNat_natCast]
end Go.AL
namespace Go.AL
section
variable {ts : List Int} {pts : List Pnt}
structure NoI (ts : List Int) (pts : List Pnt) : Prop where
 u : ∀ a v, a < pts.length → v < ts.length → bX ts pts[a]! (v : Nat) ≠ 0 → ¬ Na ts pts (a, v)
 c : ∀ a L, a < pts.length → ¬ Cf ts pts a L
theorem NoI.iff (w : WG ts pts) (f : Flows ts pts) : f.iss = [] ↔ NoI ts pts := by
 have htl := w.tl
 constructor
 ·intro h
  refine ⟨fun a v ha hv hu hn => ?_, fun a L ha hc => ?_⟩
  ·have : (⟨(a : Int), 1, (v : Int)⟩ : Iss) ∈ f.iss := by
    refine F7 ha (List.mem_append_left _ (List.mem_map.2 ⟨(v : Int), dQ.2 ⟨v, by omega, ?_, rfl⟩, rfl⟩))
    rw [dO, dN, decide_eq_true hv, Bool.true_and, Bool.and_eq_true]
    have hb := oW ts pts[a]! (v : Int)
    refine ⟨decide_eq_true ?_, ?_⟩
    ·simp only [List.mem_cons, List.not_mem_nil, or_false]; omega
    ·cases q : f.Aa[a]!.testBit v with
     | false => rfl
     | true => exact absurd hn ((f.ga.2 a ha v).1 q).2
   rw [h] at this; cases this
  ·have := Gk w f ha hc
   rw [h] at this; cases this
 ·intro h
  apply List.eq_nil_iff_forall_not_mem.2
  intro i hi
  obtain ⟨a, ha, h1⟩ := List.mem_flatMap.1 hi
  rw [List.mem_range] at ha
  rcases List.mem_append.1 h1 with h1 | h1
  ·obtain ⟨z, hz, _⟩ := List.mem_map.1 h1
   obtain ⟨v, _, hb, _⟩ := dQ.1 hz
   rw [dO, dN, Bool.and_eq_true, Bool.and_eq_true] at hb
   obtain ⟨⟨b1, b2⟩, b3⟩ := hb
   have hv := of_decide_eq_true b1
   refine h.u a v ha hv ?_ ?_
   ·intro q; rw [q] at b2; simp at b2
   ·apply Classical.byContradiction; intro hn
    rw [(f.ga.2 a ha v).2 ⟨hv, hn⟩] at b3; cases b3
  ·obtain ⟨z, hz, _⟩ := List.mem_map.1 h1
   obtain ⟨v, _, hb, _⟩ := dQ.1 hz
   exact h.c a v ha (Gg w f ha hb)
end
def nX (x : Pnt) : Prop := x.op = 9 ∨ x.op = 10
def Alike (x z : Pnt) : Prop := (x.op = z.op ∧ x.x = z.x ∧ x.y = z.y ∧ x.n = z.n) ∨ (nX x ∧ nX z)
section
variable {ts : List Int} {x z : Pnt}
theorem iX (h : nX x) (v : Int) : bX ts x v = 0 := by
 unfold nX at h
 unfold bX; rw [if_neg (by omega), if_neg (by omega), if_neg (by omega), if_neg (by omega)]
theorem g7 (h : nX x) : bG x = -1 := Bv (by unfold nX at h; omega)
theorem BD (h : nX x) : eE x = false := by
 unfold nX at h
 unfold eE; rw [decide_eq_false (by omega), decide_eq_false (by omega)]; rfl
theorem Alike.use (h : Alike x z) (v : Int) : bX ts x v = bX ts z v := by
 rcases h with ⟨h1, h2, h3, _⟩ | ⟨h1, h2⟩
 ·unfold bX; rw [h1, h2, h3]
 ·rw [iX h1, iX h2]
theorem Alike.set (h : Alike x z) : bG x = bG z := by
 rcases h with ⟨h1, h2, h3, _⟩ | ⟨h1, h2⟩
 ·unfold bG; rw [h1, h2]
 ·rw [g7 h1, g7 h2]
theorem Alike.ln (h : Alike x z) : eE x = eE z := by
 rcases h with ⟨h1, h2, h3, _⟩ | ⟨h1, h2⟩
 ·unfold eE; rw [h1]
 ·rw [BD h1, BD h2]
theorem Alike.eq (h : Alike x z) (hn : ¬ nX x) : x.op = z.op ∧ x.x = z.x ∧ x.y = z.y ∧ x.n = z.n := by
 rcases h with h | h
 ·exact h
 ·exact absurd h.1 hn
theorem xK (h : eE x = true) : ¬ nX x := fun q => by rw [BD q] at h; cases h
end
structure GMap (P Q : List Pnt) (κ : Nat → Nat) : Prop where
 z : κ 0 = 0
 l : ∀ i, i < Q.length → κ i < P.length
 p : ∀ i, i < Q.length → nX Q[i]! ∨ Alike Q[i]! P[κ i]!
 e : ∀ i k, eB Q i k → (nX Q[i]! ∧ κ k = κ i) ∨ (Alike Q[i]! P[κ i]! ∧ (eB P (κ i) (κ k) ∨ ∃ m, eB P (κ i) m ∧ nX P[m]! ∧ eB P m (κ k)))
section
variable {ts : List Int} {P Q : List Pnt} {κ : Nat → Nat}
theorem GMap.fwd (g : GMap P Q κ) {i k : Nat} (he : eB Q i k) (G : Nat → Prop) (hN : ∀ m k, G m → nX P[m]! → eB P m k → G k) (h0 : nX Q[i]! → G (κ i)) (hE : ∀ m, Alike Q[i]! P[κ i]! → eB P (κ i) m → G m) : G (κ k) := by
 rcases g.e i k he with ⟨h1, h2⟩ | ⟨h1, h2 | ⟨m, h2, h3, h4⟩⟩
 ·rw [h2]; exact h0 h1
 ·exact hE _ h1 h2
 ·exact hN m _ (hE m h1 h2) h3 h4
theorem K8 (g : GMap P Q κ) {b : Nat × Nat} (hb : Mb ts Q b) : Mb ts P (κ b.1, b.2) := by
 have hN : ∀ v m k, Mb ts P (m, v) → nX P[m]! → eB P m k → Mb ts P (k, v) := fun v m k H hn he => .step H ⟨rfl, he, by dsimp only; rw [iX hn]; decide⟩
 induction hb with
 | base h =>
  obtain ⟨i, he, hs⟩ := h
  exact g.fwd he (fun m => Mb ts P (m, _)) (hN _) (fun hn => by rw [g7 hn] at hs; omega) (fun m ha hm => .base ⟨κ i, hm, by rw [← ha.set]; exact hs⟩)
 | step _ r ih =>
  obtain ⟨r1, r2, r3⟩ := r
  rw [r1]
  exact g.fwd r2 (fun m => Mb ts P (m, _)) (hN _) (fun _ => ih) (fun m ha hm => .step ih ⟨rfl, hm, by rw [← ha.use]; exact r3⟩)
theorem K9 (g : GMap P Q κ) {b : Nat × Nat} (hb : Na ts Q b) : Na ts P (κ b.1, b.2) := by
 have hN : ∀ v m k, Na ts P (m, v) → nX P[m]! → eB P m k → Na ts P (k, v) := fun v m k H hn he => .step H ⟨rfl, he, by dsimp only; rw [g7 hn]; omega⟩
 induction hb with
 | base h =>
  obtain ⟨hv, h | ⟨i, he, hu, hs⟩⟩ := h
  ·exact .base ⟨hv, .inl (by rw [h]; exact g.z)⟩
  ·exact g.fwd he (fun m => Na ts P (m, _)) (hN _) (fun hn => by rw [iX hn] at hu; cases hu) (fun m ha hm => .base ⟨hv, .inr ⟨κ i, hm, by rw [← ha.use]; exact hu, by rw [← ha.set]; exact hs⟩⟩)
 | step _ r ih =>
  obtain ⟨r1, r2, r3⟩ := r
  rw [r1]
  exact g.fwd r2 (fun m => Na ts P (m, _)) (hN _) (fun _ => ih) (fun m ha hm => .step ih ⟨rfl, hm, by rw [← ha.set]; exact r3⟩)
theorem Kz (g : GMap P Q κ) {b : Nat × Nat} (hb : Nd ts Q b) : Nd ts P (κ b.1, b.2) := by
 induction hb with
 | base h =>
  obtain ⟨hi, hv, hu⟩ := h
  rcases g.p _ hi with hn | ha
  ·rw [iX hn] at hu; exact absurd rfl hu
  ·exact .base ⟨g.l _ hi, hv, by rw [← ha.use]; exact hu⟩
 | step _ r ih =>
  obtain ⟨r1, r2, r3⟩ := r
  rw [r1]
  rcases g.e _ _ r2 with ⟨h1, h2⟩ | ⟨h1, h2 | ⟨m, h2, h3, h4⟩⟩
  ·rw [← h2]; exact ih
  ·exact .step ih ⟨rfl, h2, by rw [← h1.set]; exact r3⟩
  ·refine .step (a := (m, _)) (.step ih ⟨rfl, h4, ?_⟩) ⟨rfl, h2, by rw [← h1.set]; exact r3⟩
   dsimp only; rw [g7 h3]; omega
theorem Jn (g : GMap P Q κ) {a v : Nat} (hn : ¬ nX Q[a]!) (h : Kp ts Q a v) : Kp ts P (κ a) v := by
 obtain ⟨⟨k, he, hk⟩, h2, h3⟩ := h
 have hk' := Kz g hk
 rcases g.e _ _ he with ⟨h1, _⟩ | ⟨h1, h4⟩
 ·exact absurd h1 hn
 ·refine ⟨?_, by rw [← h1.set]; exact h2, by rw [← h1.use]; exact h3⟩
  rcases h4 with h4 | ⟨m, h4, h5, h6⟩
  ·exact ⟨_, h4, hk'⟩
  ·refine ⟨m, h4, .step hk' ⟨rfl, h6, ?_⟩⟩
   dsimp only; rw [g7 h5]; omega
theorem KK (g : GMap P Q κ) {b : Nat × Nat × Nat} (hb : yX ts Q b) : yX ts P (κ b.1, b.2.1, κ b.2.2) := by
 have hN : ∀ v L m k, yX ts P (m, v, L) → nX P[m]! → eB P m k → yX ts P (k, v, L) := fun v L m k H hn he => .step H ⟨rfl, he, .inl ⟨by dsimp only; rw [g7 hn]; omega, rfl, by dsimp only; rw [iX hn]; decide⟩⟩
 induction hb with
 | base h =>
  obtain ⟨he, hl, hs⟩ := h
  exact g.fwd he (fun m => yX ts P (m, _, _)) (hN _ _) (fun hn => absurd hn (xK hl)) (fun m ha hm => .base ⟨hm, by rw [← ha.ln]; exact hl, by rw [← ha.set]; exact hs⟩)
 | @step a b _ r ih =>
  obtain ⟨r1, r2, r3⟩ := r
  rw [r1]
  refine g.fwd r2 (fun m => yX ts P (m, _, _)) (hN _ _) (fun hn => ?_) (fun m ha hm => ?_)
  ·rcases r3 with ⟨_, r4, _⟩ | ⟨r4, _⟩
   ·rw [r4]; exact ih
   ·rw [g7 hn] at r4; omega
  ·refine .step ih ⟨rfl, hm, ?_⟩
   rcases r3 with ⟨r4, r5, r6⟩ | ⟨r4, r5, r6⟩
   ·exact .inl ⟨by rw [← ha.set]; exact r4, r5, by rw [← ha.use]; exact r6⟩
   ·have hn : ¬ nX Q[a.1]! := fun q => by rw [g7 q] at r4; omega
    have e := ha.eq hn
    exact .inr ⟨by rw [← ha.set]; exact r4, by dsimp only; rw [← e.2.2.1]; exact r5, by dsimp only; rw [← ha.ln, ← e.1]; exact r6⟩
theorem Kk (w : WG ts P) (g : GMap P Q κ) {b : Nat × Nat} (hb : Bk ts Q b) : Bk ts P (κ b.1, κ b.2) ∧ Q[b.2]!.y = P[κ b.2]!.y ∧ Q[b.2]!.op = P[κ b.2]!.op := by
 have hN : ∀ L m k, Bk ts P (m, L) → nX P[m]! → eB P m k → Bk ts P (k, L) := fun L m k H hn he =>
  .step H ⟨rfl, he, by dsimp only; rw [iX hn]; decide, by dsimp only; rw [g7 hn]; have := (w.y L (lQ H).1).1; omega⟩
 induction hb with
 | base h =>
  obtain ⟨he, hl⟩ := h
  refine ⟨g.fwd he (fun m => Bk ts P (m, _)) (hN _) (fun hn => absurd hn (xK hl)) (fun m ha hm => .base ⟨hm, by rw [← ha.ln]; exact hl⟩), ?_⟩
  rcases g.p _ he.1 with hn | ha
  ·exact absurd hn (xK hl)
  ·have e := ha.eq (xK hl); exact ⟨e.2.2.1, e.1⟩
 | step _ r ih =>
  obtain ⟨r1, r2, r3, r4⟩ := r
  rw [r1]
  refine ⟨g.fwd r2 (fun m => Bk ts P (m, _)) (hN _) (fun _ => ih.1) (fun m ha hm => .step ih.1 ⟨rfl, hm, ?_, ?_⟩), ih.2⟩
  ·dsimp only; rw [← ha.use, ← ih.2.1]; exact r3
  ·dsimp only; rw [← ha.set, ← ih.2.1]; exact r4
theorem Be {a v : Nat} {wr : Bool} (h : Ac ts Q a v wr) : ¬ nX Q[a]! := by
 intro q
 have hs := g7 q
 unfold nX at q
 rcases h with ⟨h, _⟩ | ⟨h, _⟩ | ⟨h, _⟩ | ⟨h, _⟩ | ⟨h, _⟩ <;> omega
theorem JT (g : GMap P Q κ) {a v : Nat} {wr : Bool} (ha : a < Q.length) (h : Ac ts Q a v wr) : Ac ts P (κ a) v wr := by
 rcases g.p a ha with hn | hl
 ·exact absurd hn (Be h)
 ·obtain ⟨e1, e2, e3, _⟩ := hl.eq (Be h)
  unfold Ac at h ⊢
  rw [← e1, ← e2, ← e3, ← hl.set]
  rcases h with h | h | h | h | ⟨h1, h2, h3, h4⟩
  ·exact .inl h
  ·exact .inr (.inl h)
  ·exact .inr (.inr (.inl h))
  ·exact .inr (.inr (.inr (.inl h)))
  ·exact .inr (.inr (.inr (.inr ⟨h1, h2, K8 g h3, h4⟩)))
theorem Ks (w : WG ts P) (g : GMap P Q κ) {a L : Nat} (ha : a < Q.length) (h : Cf ts Q a L) : Cf ts P (κ a) (κ L) := by
 obtain ⟨v, u, wr, h1, h2, h3, h4, h5, h6⟩ := h
 obtain ⟨p1, p2, p3⟩ := Kk w g h4
 dsimp only at p2 p3
 exact ⟨v, u, wr, Jn g (Be h2) h1, JT g ha h2, KK g h3, p1, by rw [← p2]; exact h5, by rw [← p3]; exact h6⟩
theorem GMap.noI (w : WG ts P) (g : GMap P Q κ) (h : NoI ts P) : NoI ts Q := by
 refine ⟨fun a v ha hv hu hn => ?_, fun a L ha hc => h.c _ _ (g.l a ha) (Ks w g ha hc)⟩
 rcases g.p a ha with q | hl
 ·exact hu (iX q _)
 ·exact h.u (κ a) v (g.l a ha) hv (by rw [← hl.use]; exact hu) (K9 g hn)
end
end Go.AL
namespace Go.AL
structure UMap (P Q : List Pnt) (κ : Nat → Nat) (J c : Nat) : Prop where
 z : κ 0 = 0
 zJ : J ≠ 0
 l : ∀ i, i < Q.length → κ i < P.length
 a : ∀ i, i < Q.length → i ≠ J → Alike Q[i]! P[κ i]!
 n : ∀ i, i < Q.length → i ≠ J → Q[i]!.next.length = P[κ i]!.next.length
 e : ∀ i j, i < Q.length → i ≠ J → j < Q[i]!.next.length → ((κ (Q[i]!.next[j]!).toNat : Nat) : Int) = P[κ i]!.next[j]! ∨ (P[κ i]!.next[j]! = (c : Int) ∧ nX P[c]! ∧ P[c]!.next = [((κ (Q[i]!.next[j]!).toNat : Nat) : Int)] ∧ (Q[i]!.next[j]!).toNat ≠ J)
 j : nX Q[J]! ∧ ∃ k : Nat, Q[J]!.next = [(k : Int)] ∧ k ≠ J ∧ k < Q.length ∧ κ k = κ J
 c : c < P.length
section
variable {ts : List Int} {P Q : List Pnt} {κ : Nat → Nat} {J c : Nat}
theorem UMap.gmap (u : UMap P Q κ J c) : GMap P Q κ := by
 refine ⟨u.z, u.l, fun i hi => ?_, fun i k he => ?_⟩
 ·by_cases q : i = J
  ·exact .inl (by rw [q]; exact u.j.1)
  ·exact .inr (u.a i hi q)
 ·obtain ⟨hi, hk⟩ := he
  by_cases q : i = J
  ·obtain ⟨h1, m, h2, h3, h4, h5⟩ := u.j
   rw [q] at hk ⊢
   rw [h2, List.mem_singleton] at hk
   exact .inl ⟨h1, by rw [show k = m by omega]; exact h5⟩
  ·refine .inr ⟨u.a i hi q, ?_⟩
   obtain ⟨j, hj, hjk⟩ := List.getElem_of_mem hk
   have e := u.e i j hi q hj
   have hn := u.n i hi q
   have hm := cA P[κ i]!.next j (by omega)
   rw [cK _ _ hj, hjk, Int.toNat_natCast] at e
   rcases e with e | ⟨e1, e2, e3, _⟩
   ·exact .inl ⟨u.l i hi, by rw [e]; exact hm⟩
   ·refine .inr ⟨c, ⟨u.l i hi, by rw [← e1]; exact hm⟩, e2, u.c, ?_⟩
    rw [e3]; exact List.mem_singleton.2 rfl
theorem oR {s : Mc} {x z : Pnt} (h : Alike x z) : dR ts s x = dR ts s z ∧ dH ts s x = dH ts s z := by
 have hu : dH ts s x = dH ts s z := by
  unfold dH
  simp only [h.use]
 refine ⟨?_, hu⟩
 rcases h with ⟨h1, h2, h3, h4⟩ | ⟨h1, h2⟩
 ·unfold dR; rw [h1, h2, h3, h4]
 ·unfold nX at h1 h2
  rw [zY (by omega) (by omega), zY (by omega) (by omega)]
theorem Ag {x z : Pnt} (h : Alike x z) : x.op = 11 ↔ z.op = 11 := by
 rcases h with ⟨h1, _⟩ | ⟨h1, h2⟩
 ·rw [h1]
 ·unfold nX at h1 h2; omega
def lT (ts : List Int) (pts : List Pnt) (n a : Nat) (cs : List Int) (s : Mc) (last : Nat) : Mc × Int × Nat := gK ts pts (eX pts n a cs).1 s last
theorem Lg {a : Nat} {s : Mc} {l : Nat} : gK ts P [a] s l = if dH ts s P[a]! = true then (s, 2, a) else if (dR ts s P[a]!).2 = -1 then ((dR ts s P[a]!).1, 1, a) else ((dR ts s P[a]!).1, (dR ts s P[a]!).2, a) := by
 rw [gK]; rfl
theorem Ct {n a : Nat} {cs : List Int} {s : Mc} {last : Nat} (h : P[a]!.op = 11) : lT ts P n a cs s last = gK ts P [a] s last := by
 have e : (eX P n a cs).1 = [a] := by cases n <;> (rw [eX, if_pos h])
 unfold lT; rw [e]
theorem Ci {a : Nat} {cs : List Int} {s : Mc} {last : Nat} (h : P[a]!.op ≠ 11) : lT ts P 0 a cs s last = (s, 1, last) := by
 have e : (eX P 0 a cs).1 = [] := by rw [eX, if_neg h]
 unfold lT; rw [e]; rfl
theorem A8 {n a : Nat} {cs : List Int} {s : Mc} {last : Nat} (h : P[a]!.op ≠ 11) : lT ts P (n + 1) a cs s last =
  if dH ts s P[a]! = true then (s, 2, a) else if (dR ts s P[a]!).2 = -1 then lT ts P n (fP P a cs).1 (fP P a cs).2 (dR ts s P[a]!).1 a else ((dR ts s P[a]!).1, (dR ts s P[a]!).2, a) := by
 have e : (eX P (n + 1) a cs).1 = a :: (eX P n (fP P a cs).1 (fP P a cs).2).1 := by rw [eX, if_neg h]
 unfold lT; rw [e, gK]
theorem y3 {n a k : Nat} {cs : List Int} {s : Mc} {last : Nat} (h : nX P[a]!) (hk : P[a]!.next = [(k : Int)]) : lT ts P (n + 1) a cs s last = lT ts P n k cs s a := by
 have hu : dH ts s P[a]! = false := by
  unfold dH
  rw [List.any_eq_false]
  intro v _
  rw [iX h]; simp
 have hq := h
 unfold nX at hq
 have es : fP P a cs = (k, cs) := by unfold fP; rw [hk]; rfl
 rw [A8 (by omega), hu, if_neg (by decide), zY (by omega) (by omega), if_pos rfl, es]
theorem UMap.run (u : UMap P Q κ J c) (w' : WG ts Q) (A' : WA ts Q) : ∀ N n, n ≤ N → ∀ m i cs s l l', i < Q.length → i ≠ J → 2 * n ≤ m → (lT ts P n (κ i) cs s l).2.1 ≠ 1 →
  (lT ts Q m i cs s l').1 = (lT ts P n (κ i) cs s l).1 ∧ (lT ts Q m i cs s l').2.1 = (lT ts P n (κ i) cs s l).2.1 := by
 have h11c : ∀ n m i cs s l l', i < Q.length → i ≠ J → P[κ i]!.op = 11 → (lT ts Q m i cs s l').1 = (lT ts P n (κ i) cs s l).1 ∧ (lT ts Q m i cs s l').2.1 = (lT ts P n (κ i) cs s l).2.1 := by
  intro n m i cs s l l' hi hJ h11
  have h11' := (Ag (u.a i hi hJ)).2 h11
  rw [Ct h11, Ct h11', Lg, Lg, (oR (u.a i hi hJ)).1, (oR (u.a i hi hJ)).2]
  by_cases q : dH ts s P[κ i]! = true
  ·rw [if_pos q, if_pos q]; exact ⟨rfl, rfl⟩
  ·rw [if_neg q, if_neg q]
   by_cases q2 : (dR ts s P[κ i]!).2 = -1
   ·rw [if_pos q2, if_pos q2]; exact ⟨rfl, rfl⟩
   ·rw [if_neg q2, if_neg q2]; exact ⟨rfl, rfl⟩
 intro N
 induction N with
 | zero =>
  intro n hnN m i cs s l l' hi hJ hm h
  obtain rfl : n = 0 := by omega
  by_cases h11 : P[κ i]!.op = 11
  ·exact h11c _ _ _ _ _ _ _ hi hJ h11
  ·rw [Ci h11] at h; exact absurd rfl h
 | succ N IH =>
  intro n hnN m i cs s l l' hi hJ hm h
  by_cases h11 : P[κ i]!.op = 11
  ·exact h11c _ _ _ _ _ _ _ hi hJ h11
  have h11' : Q[i]!.op ≠ 11 := fun q => h11 ((Ag (u.a i hi hJ)).1 q)
  cases n with
  | zero => rw [Ci h11] at h; exact absurd rfl h
  | succ n =>
   obtain ⟨m, rfl⟩ : ∃ m', m = m' + 1 := ⟨m - 1, by omega⟩
   rw [A8 h11] at h ⊢
   rw [A8 h11', (oR (u.a i hi hJ)).1, (oR (u.a i hi hJ)).2]
   by_cases q : dH ts s P[κ i]! = true
   ·rw [if_pos q, if_pos q]; exact ⟨rfl, rfl⟩
   rw [if_neg q] at h ⊢
   rw [if_neg q]
   by_cases q2 : (dR ts s P[κ i]!).2 = -1
   ·rw [if_pos q2] at h ⊢
    rw [if_pos q2]
    have hn := u.n i hi hJ
    have key : ∃ j, j < Q[i]!.next.length ∧ fP Q i cs = ((Q[i]!.next[j]!).toNat, (fP P (κ i) cs).2) ∧ (fP P (κ i) cs).1 = (P[κ i]!.next[j]!).toNat := by
     have h0 := A'.n i hi h11'
     unfold fP
     rw [← hn]
     by_cases h2 : Q[i]!.next.length = 2
     ·rw [if_pos h2, if_pos h2]
      cases cs with
      | nil => exact ⟨1, by omega, rfl, rfl⟩
      | cons d cs => exact ⟨(d % 2).toNat, by omega, rfl, rfl⟩
     ·rw [if_neg h2, if_neg h2]
      exact ⟨0, h0, rfl, rfl⟩
    obtain ⟨j, hj, k1, k2⟩ := key
    rw [k1]
    dsimp only
    generalize (fP P (κ i) cs).2 = cs' at h ⊢
    have hkl : (Q[i]!.next[j]!).toNat < Q.length := by
     have := w'.nx i hi _ (cA Q[i]!.next j hj); omega
    have ue := u.e i j hi hJ hj
    generalize (Q[i]!.next[j]!).toNat = k0 at ue hkl ⊢
    rcases ue with e | ⟨e1, e2, e3, e4⟩
    ·have ek : (fP P (κ i) cs).1 = κ k0 := by rw [k2, ← e, Int.toNat_natCast]
     rw [ek] at h ⊢
     by_cases hkJ : k0 = J
     ·obtain ⟨hn, k3, h3, h4, h5, h6⟩ := u.j
      obtain ⟨m, rfl⟩ : ∃ m', m = m' + 1 := ⟨m - 1, by omega⟩
      rw [hkJ, ← h6] at h ⊢
      rw [y3 hn h3]
      exact IH n (by omega) m k3 _ _ _ _ h5 h4 (by omega) h
     ·exact IH n (by omega) m k0 _ _ _ _ hkl hkJ (by omega) h
    ·have ek : (fP P (κ i) cs).1 = c := by rw [k2, e1, Int.toNat_natCast]
     rw [ek] at h ⊢
     cases n with
     | zero => rw [Ci (by unfold nX at e2; omega)] at h; exact absurd rfl h
     | succ n =>
      rw [y3 e2 e3] at h ⊢
      exact IH n (by omega) m k0 _ _ _ _ hkl e4 (by omega) h
   ·rw [if_neg q2, if_neg q2]; exact ⟨rfl, rfl⟩
theorem UMap.runP (u : UMap P Q κ J c) (w' : WG ts Q) (A' : WA ts Q) (cs : List Int) (n m : Nat) (hm : 2 * n ≤ m) (h : (runP ts P cs n).2.1 ≠ 1) : (Go.AL.runP ts Q cs m).1 = (Go.AL.runP ts P cs n).1 ∧ (Go.AL.runP ts Q cs m).2.1 = (Go.AL.runP ts P cs n).2.1 := by
 have := u.run (ts := ts) w' A' n n (Nat.le_refl _) m 0 cs (mc0 ts.length) 0 0 w'.p0 (fun q => u.zJ q.symm) hm
 rw [u.z] at this
 exact this h
end
end Go.AL
namespace Go.AL
def x9 (d : Nat) (x : Pnt) : Pnt := ⟨x.op, x.x, x.y, x.n, x.next.map (· + (d : Int))⟩
mutual
theorem JJ (d : Nat) : ∀ (s : Stmt) (b : Nat), qL (b + d) s = (qL b s).map (x9 d)
 | .mk op x y n th el, b => by
  have h1 := tU d th (b + 1)
  have h2 := tU d el (b + 2 + eF th)
  simp only [qL]
  rw [show b + d + 1 = b + 1 + d by omega, show b + d + 2 + eF th = b + 2 + eF th + d by omega, h1, h2]
  split
  ·simp only [List.map_append, List.map_cons, List.map_nil, x9]
   congr 1
   ·congr 1
    ·congr 1
     congr 1
     simp only [List.cons.injEq, Pnt.mk.injEq, and_true, true_and]
     omega
    ·simp only [List.cons.injEq, Pnt.mk.injEq, and_true, true_and]
     omega
  ·split
   ·simp only [List.map_append, List.map_cons, List.map_nil, x9]
    congr 1
    ·congr 1
     simp only [List.cons.injEq, Pnt.mk.injEq, and_true, true_and]
     omega
   ·simp only [List.map_cons, List.map_nil, x9, List.cons.injEq, Pnt.mk.injEq, and_true, true_and]
    omega
theorem tU (d : Nat) : ∀ (l : List Stmt) (b : Nat), fY (b + d) l = (fY b l).map (x9 d)
 | [], b => rfl
 | s :: l, b => by
  simp only [fY, List.map_append]
  rw [JJ d s b, show b + d + m9 s = b + m9 s + d by omega, tU d l (b + m9 s)]
end
mutual
theorem Km : ∀ (s : Stmt) (b : Nat), ∀ x ∈ qL b s, ∀ k ∈ x.next, (b : Int) ≤ k ∧ k ≤ (b : Int) + m9 s
 | .mk op x y n th el, b => by
  have h1 := pG th (b + 1)
  have h2 := pG el (b + 2 + eF th)
  simp only [qL, m9]
  by_cases h9 : op = 9
  ·rw [if_pos h9, if_pos h9]
   intro z hz k hk
   simp only [List.mem_append, List.mem_singleton] at hz
   rcases hz with ((rfl | hz) | rfl) | hz
   ·simp only [List.mem_cons, List.not_mem_nil, or_false] at hk
    omega
   ·have := h1 z hz k hk; omega
   ·simp only [List.mem_cons, List.not_mem_nil, or_false] at hk
    omega
   ·have := h2 z hz k hk; omega
  ·rw [if_neg h9, if_neg h9]
   by_cases h10 : op = 10
   ·rw [if_pos h10, if_pos h10]
    intro z hz k hk
    simp only [List.mem_append, List.mem_singleton] at hz
    rcases hz with (rfl | hz) | rfl
    ·simp only [List.mem_cons, List.not_mem_nil, or_false] at hk
     omega
    ·have := h1 z hz k hk; omega
    ·simp only [List.mem_cons, List.not_mem_nil, or_false] at hk
     omega
   ·rw [if_neg h10, if_neg h10]
    intro z hz k hk
    rw [List.mem_singleton] at hz
    rw [hz] at hk
    simp only [List.mem_cons, List.not_mem_nil, or_false] at hk
    omega
theorem pG : ∀ (l : List Stmt) (b : Nat), ∀ x ∈ fY b l, ∀ k ∈ x.next, (b : Int) ≤ k ∧ k ≤ (b : Int) + eF l
 | [], b => by simp [fY]
 | s :: l, b => by
  have h1 := Km s b
  have h2 := pG l (b + m9 s)
  simp only [fY, eF]
  intro z hz k hk
  rcases List.mem_append.1 hz with hz | hz
  ·have := h1 z hz k hk; omega
  ·have := h2 z hz k hk; omega
end
end Go.AL
namespace Go.AL
theorem kA {α : Type} [Inhabited α] {A B : List α} {n i : Nat} (h : A.length = n) : (A ++ B)[i]! = if i < n then A[i]! else B[i - n]! := by
 rw [CR, h]
theorem kW {α : Type} [Inhabited α] {x : α} {R : List α} {i : Nat} : (x :: R)[i]! = if i < 1 then x else R[i - 1]! := by
 rw [show x :: R = [x] ++ R from rfl, kA (n := 1) rfl]
 by_cases h : i < 1
 ·rw [if_pos h, if_pos h]
  obtain rfl : i = 0 := by omega
  rfl
 ·rw [if_neg h, if_neg h]
theorem zR {d : Nat} {x : Pnt} {j : Nat} (h : j < x.next.length) : (x9 d x).next[j]! = x.next[j]! + d := by
 unfold x9
 dsimp only
 rw [cK _ _ (by rw [List.length_map]; exact h), List.getElem_map, cK _ _ h]
theorem CF {d : Nat} {X : List Pnt} {i : Nat} (h : i < X.length) : (X.map (x9 d))[i]! = x9 d X[i]! := by
 rw [cK _ _ (by rw [List.length_map]; exact h), List.getElem_map, cK _ _ h]
section
variable {PA PT PB : List Pnt} {a n nb : Nat}
def uV (PA PT PB : List Pnt) (a n : Nat) : List Pnt := PA ++ ⟨10, 0, 0, 0, [(a : Int) + 1, (a : Int) + 2 + n]⟩ :: (PT ++ ⟨10, 0, 0, 1, [(a : Int)]⟩ :: (PB ++ [⟨11, 0, 0, 0, []⟩]))
def sK (PA PT PB : List Pnt) (a n : Nat) : List Pnt := PA ++ ⟨9, 0, 0, 0, [(a : Int) + 1, (a : Int) + 2 * n + 4]⟩ :: (PT ++ ⟨10, 0, 0, 0, [(a : Int) + n + 2, (a : Int) + 2 * n + 3]⟩ ::
 (PT.map (x9 (n + 1)) ++ ⟨10, 0, 0, 1, [(a : Int) + n + 1]⟩ :: ⟨10, 0, 0, 1, [(a : Int) + 2 * n + 4]⟩ :: (PB.map (x9 (n + 2)) ++ [⟨11, 0, 0, 0, []⟩])))
def nC (a n i : Nat) : Nat := if i ≤ a + n then i else if i = a + n + 1 then a else if i ≤ a + 2 * n + 2 then i - (n + 1) else if i = a + 2 * n + 3 then a + n + 2 else i - (n + 2)
theorem KJ (hA : PA.length = a) (hT : PT.length = n) (hB : PB.length = nb) (i : Nat) : (uV PA PT PB a n)[i]! = if i < a then PA[i]! else if i - a < 1 then ⟨10, 0, 0, 0, [(a : Int) + 1, (a : Int) + 2 + n]⟩ else
  if i - a - 1 < n then PT[i - a - 1]! else if i - a - 1 - n < 1 then ⟨10, 0, 0, 1, [(a : Int)]⟩ else if i - a - 1 - n - 1 < nb then PB[i - a - 1 - n - 1]! else [(⟨11, 0, 0, 0, []⟩ : Pnt)][i - a - 1 - n - 1 - nb]! := by
 unfold uV
 rw [kA hA, kW, kA hT, kW, kA hB]
theorem J4 (hA : PA.length = a) (hT : PT.length = n) (hB : PB.length = nb) (i : Nat) : (sK PA PT PB a n)[i]! = if i < a then PA[i]! else if i - a < 1 then ⟨9, 0, 0, 0, [(a : Int) + 1, (a : Int) + 2 * n + 4]⟩ else
  if i - a - 1 < n then PT[i - a - 1]! else if i - a - 1 - n < 1 then ⟨10, 0, 0, 0, [(a : Int) + n + 2, (a : Int) + 2 * n + 3]⟩ else if i - a - 1 - n - 1 < n then (PT.map (x9 (n + 1)))[i - a - 1 - n - 1]! else
  if i - a - 1 - n - 1 - n < 1 then ⟨10, 0, 0, 1, [(a : Int) + n + 1]⟩ else if i - a - 1 - n - 1 - n - 1 < 1 then ⟨10, 0, 0, 1, [(a : Int) + 2 * n + 4]⟩ else
  if i - a - 1 - n - 1 - n - 1 - 1 < nb then (PB.map (x9 (n + 2)))[i - a - 1 - n - 1 - n - 1 - 1]! else [(⟨11, 0, 0, 0, []⟩ : Pnt)][i - a - 1 - n - 1 - n - 1 - 1 - nb]! := by
 unfold sK
 rw [kA hA, kW, kA hT, kW, kA (n := n) (by rw [List.length_map, hT]), kW, kW, kA (n := nb) (by rw [List.length_map, hB])]
theorem Jm (hA : PA.length = a) (hT : PT.length = n) (hB : PB.length = nb) : (uV PA PT PB a n).length = a + n + nb + 3 ∧ (sK PA PT PB a n).length = a + 2 * n + nb + 5 := by
 unfold uV sK
 simp only [List.length_append, List.length_cons, List.length_map, List.length_nil, hA, hT, hB]
 omega
theorem r7 {i : Nat} (h : i ≤ a + n) : nC a n i = i := by unfold nC; rw [if_pos h]
theorem Cw {i : Nat} (h : i = a + n + 1) : nC a n i = a := by unfold nC; rw [if_neg (by omega), if_pos h]
theorem CC {i : Nat} (h : a + n + 2 ≤ i) (h2 : i ≤ a + 2 * n + 2) : nC a n i = i - (n + 1) := by unfold nC; rw [if_neg (by omega), if_neg (by omega), if_pos h2]
theorem I2 {i : Nat} (h : i = a + 2 * n + 3) : nC a n i = a + n + 2 := by unfold nC; rw [if_neg (by omega), if_neg (by omega), if_neg (by omega), if_pos h]
theorem A2 {i : Nat} (h : a + 2 * n + 4 ≤ i) : nC a n i = i - (n + 2) := by unfold nC; rw [if_neg (by omega), if_neg (by omega), if_neg (by omega), if_neg (by omega)]
theorem KR (hA : PA.length = a) (hT : PT.length = n) (hB : PB.length = nb)
  (bA : ∀ x ∈ PA, ∀ k ∈ x.next, 0 ≤ k ∧ k ≤ (a : Int)) (bT : ∀ x ∈ PT, ∀ k ∈ x.next, (a : Int) + 1 ≤ k ∧ k ≤ (a : Int) + 1 + n) (bB : ∀ x ∈ PB, ∀ k ∈ x.next, (a : Int) + n + 2 ≤ k) :
  UMap (uV PA PT PB a n) (sK PA PT PB a n) (nC a n) (a + 2 * n + 3) (a + n + 1) := by
 have pa := KJ hA hT hB
 have qa := J4 hA hT hB
 obtain ⟨lp, lq⟩ := Jm hA hT hB
 have pc : (uV PA PT PB a n)[a + n + 1]! = ⟨10, 0, 0, 1, [(a : Int)]⟩ := by rw [pa, if_neg (by omega), if_neg (by omega), if_neg (by omega), if_pos (by omega)]
 have pa0 : (uV PA PT PB a n)[a]! = ⟨10, 0, 0, 0, [(a : Int) + 1, (a : Int) + 2 + n]⟩ := by rw [pa, if_neg (by omega), if_pos (by omega)]
 have bd : ∀ {X : List Pnt} {C : Int → Prop} {i j : Nat}, (∀ x ∈ X, ∀ k ∈ x.next, C k) → i < X.length → j < X[i]!.next.length → C X[i]!.next[j]! := fun h hi hj => h _ (cA _ _ hi) _ (cA _ _ hj)
 have all : ∀ i, i < (sK PA PT PB a n).length → i ≠ a + 2 * n + 3 → Alike (sK PA PT PB a n)[i]! (uV PA PT PB a n)[nC a n i]! ∧ (sK PA PT PB a n)[i]!.next.length = (uV PA PT PB a n)[nC a n i]!.next.length ∧
   ∀ j, j < (sK PA PT PB a n)[i]!.next.length → (((nC a n ((sK PA PT PB a n)[i]!.next[j]!).toNat : Nat) : Int) = (uV PA PT PB a n)[nC a n i]!.next[j]! ∨ ((uV PA PT PB a n)[nC a n i]!.next[j]! = ((a + n + 1 : Nat) : Int) ∧
    [(a : Int)] = [((nC a n ((sK PA PT PB a n)[i]!.next[j]!).toNat : Nat) : Int)] ∧ ((sK PA PT PB a n)[i]!.next[j]!).toNat ≠ a + 2 * n + 3)) := by
  intro i hi hJ
  rw [lq] at hi
  by_cases c1 : i < a
  ·have e1 : (sK PA PT PB a n)[i]! = PA[i]! := by rw [qa, if_pos c1]
   have e2 : (uV PA PT PB a n)[nC a n i]! = PA[i]! := by rw [r7 (by omega), pa, if_pos c1]
   rw [e1, e2]
   refine ⟨.inl ⟨rfl, rfl, rfl, rfl⟩, rfl, fun j hj => .inl ?_⟩
   have := bd bA (by omega) hj
   rw [r7 (by omega)]; omega
  by_cases c2 : i = a
  ·have e1 : (sK PA PT PB a n)[i]! = ⟨9, 0, 0, 0, [(a : Int) + 1, (a : Int) + 2 * n + 4]⟩ := by rw [qa, if_neg c1, if_pos (by omega)]
   have e2 : (uV PA PT PB a n)[nC a n i]! = ⟨10, 0, 0, 0, [(a : Int) + 1, (a : Int) + 2 + n]⟩ := by rw [r7 (by omega), c2, pa0]
   rw [e1, e2]
   refine ⟨.inr ⟨.inl rfl, .inr rfl⟩, rfl, fun j hj => ?_⟩
   have hj2 : j = 0 ∨ j = 1 := by simp only [List.length_cons, List.length_nil] at hj; omega
   rcases hj2 with rfl | rfl
   ·show ((nC a n ((a : Int) + 1).toNat : Nat) : Int) = (a : Int) + 1 ∨ ((a : Int) + 1 = _ ∧ [(a : Int)] = [((nC a n ((a : Int) + 1).toNat : Nat) : Int)] ∧ ((a : Int) + 1).toNat ≠ _)
    by_cases h0 : n = 0
    ·refine .inr ⟨by omega, ?_, by omega⟩
     rw [Cw (by omega)]
    ·left; rw [r7 (by omega)]; omega
   ·left
    show ((nC a n ((a : Int) + 2 * n + 4).toNat : Nat) : Int) = (a : Int) + 2 + n
    rw [A2 (by omega)]; omega
  by_cases c3 : i < a + 1 + n
  ·have e1 : (sK PA PT PB a n)[i]! = PT[i - a - 1]! := by rw [qa, if_neg c1, if_neg (by omega), if_pos (by omega)]
   have e2 : (uV PA PT PB a n)[nC a n i]! = PT[i - a - 1]! := by rw [r7 (by omega), pa, if_neg c1, if_neg (by omega), if_pos (by omega)]
   rw [e1, e2]
   refine ⟨.inl ⟨rfl, rfl, rfl, rfl⟩, rfl, fun j hj => ?_⟩
   have := bd bT (by omega) hj
   generalize PT[i - a - 1]!.next[j]! = k at this ⊢
   by_cases hk : k = (a : Int) + n + 1
   ·refine .inr ⟨by omega, ?_, by omega⟩
    rw [Cw (by omega)]
   ·left; rw [r7 (by omega)]; omega
  by_cases c4 : i = a + n + 1
  ·have e1 : (sK PA PT PB a n)[i]! = ⟨10, 0, 0, 0, [(a : Int) + n + 2, (a : Int) + 2 * n + 3]⟩ := by rw [qa, if_neg c1, if_neg (by omega), if_neg (by omega), if_pos (by omega)]
   have e2 : (uV PA PT PB a n)[nC a n i]! = ⟨10, 0, 0, 0, [(a : Int) + 1, (a : Int) + 2 + n]⟩ := by rw [Cw c4, pa0]
   rw [e1, e2]
   refine ⟨.inr ⟨.inr rfl, .inr rfl⟩, rfl, fun j hj => .inl ?_⟩
   have hj2 : j = 0 ∨ j = 1 := by simp only [List.length_cons, List.length_nil] at hj; omega
   rcases hj2 with rfl | rfl
   ·show ((nC a n ((a : Int) + n + 2).toNat : Nat) : Int) = (a : Int) + 1
    rw [CC (by omega) (by omega)]; omega
   ·show ((nC a n ((a : Int) + 2 * n + 3).toNat : Nat) : Int) = (a : Int) + 2 + n
    rw [I2 (by omega)]; omega
  by_cases c5 : i < a + 2 * n + 2
  ·have e1 : (sK PA PT PB a n)[i]! = x9 (n + 1) PT[i - a - 1 - n - 1]! := by rw [qa, if_neg c1, if_neg (by omega), if_neg (by omega), if_neg (by omega), if_pos (by omega), CF (by omega)]
   have e2 : (uV PA PT PB a n)[nC a n i]! = PT[i - a - 1 - n - 1]! := by
    rw [CC (by omega) (by omega), pa, if_neg (by omega), if_neg (by omega), if_pos (by omega)]
    congr 1; omega
   rw [e1, e2]
   refine ⟨.inl ⟨rfl, rfl, rfl, rfl⟩, by unfold x9; dsimp only; rw [List.length_map], fun j hj => .inl ?_⟩
   have hj' : j < PT[i - a - 1 - n - 1]!.next.length := by unfold x9 at hj; dsimp only at hj; rw [List.length_map] at hj; exact hj
   have := bd bT (by omega) hj'
   rw [zR hj']
   generalize PT[i - a - 1 - n - 1]!.next[j]! = k at this ⊢
   rw [CC (by omega) (by omega)]; omega
  by_cases c6 : i = a + 2 * n + 2
  ·have e1 : (sK PA PT PB a n)[i]! = ⟨10, 0, 0, 1, [(a : Int) + n + 1]⟩ := by rw [qa, if_neg c1, if_neg (by omega), if_neg (by omega), if_neg (by omega), if_neg (by omega), if_pos (by omega)]
   have e2 : (uV PA PT PB a n)[nC a n i]! = ⟨10, 0, 0, 1, [(a : Int)]⟩ := by rw [CC (by omega) (by omega), show i - (n + 1) = a + n + 1 by omega, pc]
   rw [e1, e2]
   refine ⟨.inl ⟨rfl, rfl, rfl, rfl⟩, rfl, fun j hj => .inl ?_⟩
   obtain rfl : j = 0 := by simpa using hj
   show ((nC a n ((a : Int) + n + 1).toNat : Nat) : Int) = (a : Int)
   rw [Cw (by omega)]
  by_cases c7 : i < a + 2 * n + 4 + nb
  ·have e1 : (sK PA PT PB a n)[i]! = x9 (n + 2) PB[i - a - 1 - n - 1 - n - 1 - 1]! := by
    rw [qa, if_neg c1, if_neg (by omega), if_neg (by omega), if_neg (by omega), if_neg (by omega), if_neg (by omega), if_neg (by omega), if_pos (by omega), CF (by omega)]
   have e2 : (uV PA PT PB a n)[nC a n i]! = PB[i - a - 1 - n - 1 - n - 1 - 1]! := by
    rw [A2 (by omega), pa, if_neg (by omega), if_neg (by omega), if_neg (by omega), if_neg (by omega), if_pos (by omega)]
    congr 1; omega
   rw [e1, e2]
   refine ⟨.inl ⟨rfl, rfl, rfl, rfl⟩, by unfold x9; dsimp only; rw [List.length_map], fun j hj => .inl ?_⟩
   have hj' : j < PB[i - a - 1 - n - 1 - n - 1 - 1]!.next.length := by unfold x9 at hj; dsimp only at hj; rw [List.length_map] at hj; exact hj
   have := bd bB (by omega) hj'
   rw [zR hj']
   generalize PB[i - a - 1 - n - 1 - n - 1 - 1]!.next[j]! = k at this ⊢
   rw [A2 (by omega)]; omega
  ·have e1 : (sK PA PT PB a n)[i]! = ⟨11, 0, 0, 0, []⟩ := by
    rw [qa, if_neg c1, if_neg (by omega), if_neg (by omega), if_neg (by omega), if_neg (by omega), if_neg (by omega), if_neg (by omega), if_neg (by omega), show i - a - 1 - n - 1 - n - 1 - 1 - nb = 0 by omega]; rfl
   have e2 : (uV PA PT PB a n)[nC a n i]! = ⟨11, 0, 0, 0, []⟩ := by
    rw [A2 (by omega), pa, if_neg (by omega), if_neg (by omega), if_neg (by omega), if_neg (by omega), if_neg (by omega), show i - (n + 2) - a - 1 - n - 1 - nb = 0 by omega]; rfl
   rw [e1, e2]
   exact ⟨.inl ⟨rfl, rfl, rfl, rfl⟩, rfl, fun j hj => absurd hj (Nat.not_lt_zero _)⟩
 refine ⟨r7 (by omega), by omega, fun i hi => ?_, fun i hi hJ => (all i hi hJ).1, fun i hi hJ => (all i hi hJ).2.1, fun i j hi hJ hj => ?_, ?_, by omega⟩
 ·rw [lp]; rw [lq] at hi
  unfold nC
  split
  ·omega
  ·split
   ·omega
   ·split
    ·omega
    ·split <;> omega
 ·rw [pc]
  rcases (all i hi hJ).2.2 j hj with h | ⟨h1, h2, h3⟩
  ·exact .inl h
  ·exact .inr ⟨h1, .inr rfl, h2, h3⟩
 ·have e1 : (sK PA PT PB a n)[a + 2 * n + 3]! = ⟨10, 0, 0, 1, [(a : Int) + 2 * n + 4]⟩ := by
   rw [qa, if_neg (by omega), if_neg (by omega), if_neg (by omega), if_neg (by omega), if_neg (by omega), if_neg (by omega), if_pos (by omega)]
  rw [e1]
  refine ⟨.inr rfl, a + 2 * n + 4, ?_, by omega, by omega, ?_⟩
  ·show [(a : Int) + 2 * n + 4] = _
   congr 1
  ·rw [I2 rfl, A2 (by omega)]; omega
end
def Fv (s : Stmt) : Stmt := .mk 9 0 0 0 (s.th ++ [s]) []
def k9 (p : Prg) (k : Nat) : Prg := ⟨p.types, p.body.set k (Fv p.body[k]!)⟩
theorem B3 {p : Prg} {k : Nat} (hk : k < p.body.length) (h10 : p.body[k]!.op = 10) : ∃ κ J c, UMap (c9 p) (c9 (k9 p k)) κ J c := by
 have hs : ∀ b, qL b p.body[k]! = [⟨10, 0, 0, 0, [(b : Int) + 1, (b : Int) + 2 + eF p.body[k]!.th]⟩] ++ fY (b + 1) p.body[k]!.th ++ [⟨10, 0, 0, 1, [(b : Int)]⟩] := fun b => by
  rw [lK, if_neg (by omega), if_pos h10]
 have hn : m9 p.body[k]! = 2 + eF p.body[k]!.th := Bh _ h10
 have eb : p.body = p.body.take k ++ p.body[k]! :: p.body.drop (k + 1) := by
  have := List.take_append_drop k p.body
  rw [hU _ _ hk] at this; exact this.symm
 have eq1 : c9 p = uV (fY 0 (p.body.take k)) (fY (eF (p.body.take k) + 1) p.body[k]!.th) (fY (eF (p.body.take k) + eF p.body[k]!.th + 2) (p.body.drop (k + 1))) (eF (p.body.take k)) (eF p.body[k]!.th) := by
  unfold c9 uV
  conv => lhs; rw [eb]
  rw [jO, fY, hs, hn, Nat.zero_add]
  simp only [List.append_assoc, List.cons_append, List.nil_append]
  rw [show eF (p.body.take k) + (2 + eF p.body[k]!.th) = eF (p.body.take k) + eF p.body[k]!.th + 2 by omega]
 have eq2 : c9 (k9 p k) = sK (fY 0 (p.body.take k)) (fY (eF (p.body.take k) + 1) p.body[k]!.th) (fY (eF (p.body.take k) + eF p.body[k]!.th + 2) (p.body.drop (k + 1))) (eF (p.body.take k)) (eF p.body[k]!.th) := by
  unfold c9 sK k9
  dsimp only
  rw [List.set_eq_take_append_cons_drop, if_pos hk, jO, fY, Nat.zero_add, Fv, qL, if_pos rfl, m9, if_pos rfl, k4, eF, eF, hn, jO, fY, fY, hs, eF, fY,
   ← tU, ← tU]
  generalize eF (p.body.take k) = a
  generalize eF p.body[k]!.th = n
  simp only [List.append_assoc, List.cons_append, List.nil_append, List.append_nil, Nat.add_zero]
  rw [show (a : Int) + 1 + ((n + (2 + n) : Nat) : Int) + 1 = (a : Int) + 2 * n + 4 by omega, show ((a + 1 + n : Nat) : Int) + 1 = (a : Int) + n + 2 by omega, show ((a + 1 + n : Nat) : Int) + 2 + (n : Int) = (a : Int) + 2 * n + 3 by omega,
   show a + 1 + n + 1 = a + 1 + (n + 1) by omega, show ((a + 1 + n : Nat) : Int) = (a : Int) + n + 1 by omega, show (a : Int) + 2 + ((n + (2 + n) : Nat) : Int) + ((0 : Nat) : Int) = (a : Int) + 2 * n + 4 by omega,
   show a + (2 + (n + (2 + n))) = a + n + 2 + (n + 2) by omega]
 rw [eq1, eq2]
 refine ⟨_, _, _, KR (nb := eF (p.body.drop (k + 1))) (dU _ _) (dU _ _) (dU _ _) (fun x hx j hj => ?_) (fun x hx j hj => ?_) (fun x hx j hj => ?_)⟩
 ·have := pG _ _ x hx j hj; omega
 ·have := pG _ _ x hx j hj; omega
 ·have := pG _ _ x hx j hj; omega
end Go.AL
namespace Go.AL
theorem qG {p : Prg} (h : cQ p = true) : cR p.types = true ∧ okL p.types 4 p.body = true ∧ bQ p.body ≤ 30 := by
 unfold cQ at h
 simp only [Bool.and_eq_true, decide_eq_true_eq] at h
 exact ⟨h.1.1, h.1.2, h.2⟩
theorem Fi {ts : List Int} {b : List Stmt} (h1 : cR ts = true) (h2 : okL ts 4 b = true) (h3 : bQ b ≤ 30) : cQ ⟨ts, b⟩ = true := by
 unfold cQ
 simp only [Bool.and_eq_true, decide_eq_true_eq]
 exact ⟨⟨h1, h2⟩, h3⟩
theorem vH : ∀ (l : List Stmt) (k : Nat) (s : Stmt), k < l.length → bQ (l.set k s) + dM l[k]! = bQ l + dM s
 | a :: l, 0, s, _ => by simp [bQ]; omega
 | a :: l, k + 1, s, h => by
  have := vH l k s (by simpa using h)
  have e : (a :: l)[k + 1]! = l[k]! := by rw [cK _ _ h, cK _ _ (by simpa using h)]; rfl
  rw [e]
  simp only [List.set_cons_succ, bQ]
  omega
theorem BP {ts : List Int} {d : Nat} {s : Stmt} (h : o8 ts d s = true) (h1 : s.op ≠ 9 ∧ s.op ≠ 10) : dX ts s = true ∧ s.th = [] ∧ s.el = [] := by
 rw [jD, if_pos h1, Bool.and_eq_true, Bool.and_eq_true] at h
 exact ⟨h.2, by simpa using h.1.1, by simpa using h.1.2⟩
theorem wO {ts ts' : List Int} {σ : Nat → Nat} (r : Ren ts ts' σ) {v : Int} (h0 : 0 ≤ v) (h1 : v < ts.length) : dF ts' (σ v.toNat : Nat) = dF ts v := by
 have hb := r.b v.toNat (by omega)
 have hl := r.l
 unfold dF
 rw [if_pos ⟨by omega, by omega⟩, if_pos ⟨h0, h1⟩, Int.toNat_natCast, r.t v.toNat (by omega)]
theorem Bi {ts : List Int} {op x y n : Int} {th el : List Stmt} : dX ts (.mk op x y n th el) = if op = 1 then decide (dF ts x = 1 ∧ y = 0 ∧ 0 ≤ n ∧ n ≤ 9)
  else if op = 2 then decide (dF ts x = 2 ∧ y = 0 ∧ 0 ≤ n ∧ n ≤ 9) else if n ≠ 0 then false
  else if op = 3 then decide (dF ts x = dF ts y ∧ 0 < dF ts x ∧ x ≠ y) else if op = 4 then decide (dF ts x = 3 ∧ 2 ≤ dF ts y ∧ x ≠ y)
  else if op = 5 then decide (dF ts x = 4 ∧ (dF ts y = 2 ∨ dF ts y = 4) ∧ x ≠ y) else if op = 6 then decide (dF ts x = 1 ∧ 2 ≤ dF ts y)
  else if op = 7 then decide ((dF ts x = 2 ∨ dF ts x = 4) ∧ dF ts y = 1) else if op = 8 then decide (dF ts x = 2 ∧ y = 0) else false := rfl
theorem Cg {ts ts' : List Int} {op x y n X Y : Int} {th el th' el' : List Stmt} (h : dX ts (.mk op x y n th el) = true) (ex : dF ts' X = dF ts x) (ey : 3 ≤ op → op ≤ 7 → dF ts' Y = dF ts y) (inj : 3 ≤ op → op ≤ 7 → x ≠ y → X ≠ Y) (hy : ¬ (3 ≤ op ∧ op ≤ 7) → Y = y) : dX ts' (.mk op X Y n th' el') = true := by
 rw [Bi] at h ⊢
 rw [ex]
 by_cases c1 : op = 1
 ·rw [if_pos c1] at h ⊢; rw [hy (by omega)]; exact h
 rw [if_neg c1] at h ⊢
 by_cases c2 : op = 2
 ·rw [if_pos c2] at h ⊢; rw [hy (by omega)]; exact h
 rw [if_neg c2] at h ⊢
 by_cases cn : n ≠ 0
 ·rw [if_pos cn] at h; cases h
 rw [if_neg cn] at h ⊢
 by_cases c8 : op = 8
 ·rw [if_neg (by omega), if_neg (by omega), if_neg (by omega), if_neg (by omega), if_neg (by omega), if_pos c8] at h ⊢
  rw [hy (by omega)]; exact h
 ·by_cases e1 : 3 ≤ op ∧ op ≤ 7
  ·rw [ey e1.1 e1.2]
   have inj' := inj e1.1 e1.2
   by_cases c3 : op = 3
   ·rw [if_pos c3, decide_eq_true_eq] at h ⊢; exact ⟨h.1, h.2.1, inj' h.2.2⟩
   rw [if_neg c3] at h ⊢
   by_cases c4 : op = 4
   ·rw [if_pos c4, decide_eq_true_eq] at h ⊢; exact ⟨h.1, h.2.1, inj' h.2.2⟩
   rw [if_neg c4] at h ⊢
   by_cases c5 : op = 5
   ·rw [if_pos c5, decide_eq_true_eq] at h ⊢; exact ⟨h.1, h.2.1, inj' h.2.2⟩
   rw [if_neg c5] at h ⊢
   by_cases c6 : op = 6
   ·rw [if_pos c6] at h ⊢; exact h
   rw [if_neg c6] at h ⊢
   by_cases c7 : op = 7
   ·rw [if_pos c7] at h ⊢; exact h
   ·omega
  ·rw [if_neg (by omega), if_neg (by omega), if_neg (by omega), if_neg (by omega), if_neg (by omega), if_neg c8] at h
   cases h
theorem Bc {ts ts' : List Int} {σ : Nat → Nat} (r : Ren ts ts' σ) (ht : cR ts = true) {s : Stmt} (h : dX ts s = true) : dX ts' (yO σ s) = true := by
 obtain ⟨o1, o2, x0, x1, y0, y1⟩ := nT ht h
 cases s with
 | mk op x y n th el =>
  dsimp only [Stmt.op, Stmt.x, Stmt.y] at *
  refine Cg h ?_ (fun h1 h2 => ?_) (fun h1 h2 hne => ?_) (fun h1 => ?_)
  ·rw [if_pos o2]; exact wO r x0 x1
  ·rw [if_pos ⟨h1, h2⟩]; exact wO r y0 (y1 h1 h2)
  ·rw [if_pos o2, if_pos ⟨h1, h2⟩]
   intro q
   have := y1 h1 h2
   have := r.i x.toNat y.toNat (by omega) (by omega) (by omega)
   omega
  ·rw [if_neg h1]
mutual
theorem KG {ts ts' : List Int} {σ : Nat → Nat} (r : Ren ts ts' σ) (ht : cR ts = true) : ∀ (s : Stmt) (d : Nat), o8 ts d s = true → o8 ts' d (yO σ s) = true
 | .mk op x y n th el, d, h => by
  have h1 := fun d => yK r ht th d
  have h2 := fun d => yK r ht el d
  by_cases q : (Stmt.mk op x y n th el).op ≠ 9 ∧ (Stmt.mk op x y n th el).op ≠ 10
  ·obtain ⟨s1, s2, s3⟩ := BP h q
   have s4 := Bc r ht s1
   dsimp only [Stmt.th, Stmt.el] at s2 s3
   subst s2 s3
   rw [jD, if_pos (show (yO σ (.mk op x y n [] [])).op ≠ 9 ∧ (yO σ (.mk op x y n [] [])).op ≠ 10 from q), s4]; rfl
  ·have q' : ¬ (op ≠ 9 ∧ op ≠ 10) := q
   cases d with
   | zero => rw [jD, if_neg q] at h; cases h
   | succ d =>
    rw [jD, if_neg q] at h
    rw [jD, if_neg (show ¬ ((yO σ (.mk op x y n th el)).op ≠ 9 ∧ (yO σ (.mk op x y n th el)).op ≠ 10) from q)]
    simp only [Bool.and_eq_true, decide_eq_true_eq] at h ⊢
    obtain ⟨⟨⟨⟨a1, a2, a3⟩, b⟩, c⟩, e⟩ := h
    have hop : ¬ op ≤ 8 := by omega
    refine ⟨⟨⟨⟨?_, ?_, a3⟩, ?_⟩, h1 d c⟩, h2 d e⟩
    ·show (if op ≤ 8 then _ else x) = 0
     rw [if_neg hop]; exact a1
    ·show (if 3 ≤ op ∧ op ≤ 7 then _ else y) = 0
     rw [if_neg (by omega)]; exact a2
    cases el with
    | nil => exact b
    | cons _ _ => exact b
theorem yK {ts ts' : List Int} {σ : Nat → Nat} (r : Ren ts ts' σ) (ht : cR ts = true) : ∀ (l : List Stmt) (d : Nat), okL ts d l = true → okL ts' d (kG σ l) = true
 | [], d, h => rfl
 | s :: l, d, h => by
  simp only [okL, kG, Bool.and_eq_true] at h ⊢
  exact ⟨KG r ht s d h.1, yK r ht l d h.2⟩
end
mutual
theorem H8 (σ : Nat → Nat) : ∀ s : Stmt, dM (yO σ s) = dM s
 | .mk op x y n th el => by simp only [yO, dM, oE σ th, oE σ el]
theorem oE (σ : Nat → Nat) : ∀ l : List Stmt, bQ (kG σ l) = bQ l
 | [] => rfl
 | s :: l => by simp only [kG, bQ, H8 σ s, oE σ l]
end
theorem GM {p : Prg} {ts' : List Int} {σ : Nat → Nat} (r : Ren p.types ts' σ) (h : cQ p = true) : cQ ⟨ts', kG σ p.body⟩ = true := by
 obtain ⟨h1, h2, h3⟩ := qG h
 refine Fi ?_ (yK r h1 _ _ h2) (by rw [oE]; exact h3)
 have hl := fF h1
 have hl' := r.l
 unfold cR
 rw [Bool.and_eq_true, List.all_eq_true, decide_eq_true_eq]
 refine ⟨fun t ht => ?_, by omega⟩
 obtain ⟨u, hu, rfl⟩ := List.getElem_of_mem ht
 obtain ⟨v, hv, e⟩ := r.s u (by omega)
 have := r.t v hv
 rw [e, cK _ _ hu] at this
 have := jN h1 v hv
 rw [Bool.and_eq_true, decide_eq_true_eq, decide_eq_true_eq]; omega
end Go.AL
namespace Go.AL
theorem cF : (∀ a b : Bool, ((a && b) = true) = (a = true ∧ b = true)) ∧ (∀ a b : Bool, ((a && b) = false) ↔ (a = false ∨ b = false)) ∧ (∀ a b : Bool, ((a || b) = true) = (a = true ∨ b = true)) ∧ (∀ a b : Bool, ((a || b) = false) ↔ (a = false ∧ b = false)) ∧
  (∀ (p : Prop) [Decidable p], (decide p = true) = p) ∧ (∀ (p : Prop) [Decidable p], (decide p = false) ↔ ¬ p) ∧ (∀ a : Bool, ((!a) = true) ↔ a = false) ∧ (∀ a : Bool, ((!a) = false) ↔ a = true) ∧ ((!true) = false) ∧ ((!false) = true) ∧ (∀ a b : Int, ¬ a < b ↔ b ≤ a) ∧ (∀ a b : Int, ¬ a ≤ b ↔ b < a) :=
 ⟨fun a b => Bool.and_eq_true a b, fun a b => Bool.and_eq_false_iff, fun a b => Bool.or_eq_true a b, fun a b => Bool.or_eq_false_iff, fun p _ => by simp, fun p _ => decide_eq_false_iff_not, fun a => by simp, fun a => by simp, rfl, rfl, fun _ _ => Int.not_lt, fun _ _ => Int.not_le⟩
theorem gX : (∀ {α : Type} (a b : List α), (a ++ b).length = a.length + b.length) ∧ (∀ {α : Type} (a : α) (b : List α), (a :: b).length = b.length + 1) ∧ (∀ {α : Type}, ([] : List α).length = 0) ∧ (∀ {α : Type} (a : List α) (i : Nat) (x : α), (a.set i x).length = a.length) ∧ (∀ {α : Type} (i : Nat) (a : List α), (a.take i).length = min i a.length) ∧
  (∀ {α β : Type} (f : α → β) (a : List α), (a.map f).length = a.length) ∧ (∀ {α : Type} (n : Nat) (a : α), (List.replicate n a).length = n) ∧ (∀ (l : List Stmt) (b : Nat), (fY b l).length = eF l) ∧ (∀ n : Nat, n * 1 = n) ∧ (∀ n : Nat, 0 + n = n) ∧ (∀ n : Nat, n + 0 = n) :=
 ⟨fun _ _ => List.length_append, fun _ _ => rfl, rfl, fun _ _ _ => List.length_set, fun _ _ => List.length_take, fun _ _ => List.length_map _, fun _ _ => List.length_replicate, dU, Nat.mul_one, Nat.zero_add, Nat.add_zero⟩
theorem dW {α : Type} {p q r : α → Prop} (x : α) (h3 : r x) (h1 : p x) (h2 : q x) : ∃ x, p x ∧ q x ∧ r x := ⟨x, h1, h2, h3⟩
end Go.AL
