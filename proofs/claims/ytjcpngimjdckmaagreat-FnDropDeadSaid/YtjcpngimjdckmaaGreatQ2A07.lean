/-
 A part of the proofs over this program: rules and contracts of its functions (the rules).
-/
import Derived.Test.YtjcpngimjdckmaaGreatQ2A06
import Derived.MapKept
import Derived.Orders
set_option linter.unusedVariables false
set_option linter.unusedSimpArgs false
namespace Go.AL
structure Mo (m m' : List Cl) : Prop where
 l : m.length ≤ m'.length
 n : ∀ c, c < m.length → m[c]!.next ≤ m'[c]!.next
theorem Mo.refl (m : List Cl) : Mo m m := ⟨Nat.le_refl _, fun _ _ => Int.le_refl _⟩
theorem Mo.trans {a b c : List Cl} (h : Mo a b) (h' : Mo b c) : Mo a c := ⟨Nat.le_trans h.l h'.l, fun i hi => Int.le_trans (h.n i hi) (h'.n i (Nat.lt_of_lt_of_le hi h.l))⟩
theorem Mo.set {m : List Cl} {k : Nat} {c : Cl} (h : m[k]!.next ≤ c.next) : Mo m (m.set k c) := by
 refine ⟨by rw [List.length_set]; exact Nat.le_refl _, fun i hi => ?_⟩
 rw [c8]
 split
 ·rename_i q; rw [← q.1]; exact h
 ·exact Int.le_refl _
theorem Mo.app (m : List Cl) (z : Cl) : Mo m (m ++ [z]) := ⟨by rw [List.length_append]; omega, fun i hi => by rw [l8 hi]; exact Int.le_refl _⟩
theorem Mo.tch (m : List Cl) (x : Pt) (wr : Bool) : Mo m (gG m x wr) := by
 unfold gG; split
 ·exact Mo.set (Int.le_refl _)
 ·exact Mo.refl _
theorem Mo.fr (m : List Cl) (x : Pt) : Mo m (jG m x) := by
 unfold jG; split
 ·exact Mo.set (Int.le_refl _)
 ·exact Mo.refl _
theorem Mo.wr (m : List Cl) (x : Pt) (v : Int) : Mo m (qK m x v) := by
 unfold qK; split
 ·exact Mo.set (Int.le_refl _)
 ·exact Mo.refl _
theorem Mo.ln (m : List Cl) (x : Pt) (u : Bool) : Mo m (nX m x u) := by
 unfold nX; split
 ·refine Mo.set ?_
  show m[x.cell.toNat]!.next ≤ m[x.cell.toNat]!.next + 1
  omega
 ·exact Mo.refl _
section
variable {ts : List Int} {pts : List Pnt} {N : Int} {a k : Nat} {s : Mc}
theorem Me (w : WG ts pts) (A : WA ts pts) (ha : a < pts.length) (h11 : pts[a]!.op ≠ 11) (hN : 1 ≤ N) (h : ShM N s.cells) (hgo : (dF ts s pts[a]!).2 = -1) : ShM (N + 1) (dF ts s pts[a]!).1.cells ∧ Mo s.cells (dF ts s pts[a]!).1.cells := by
 have PA := A.a a ha
 have hop := w.op a ha
 by_cases h1 : pts[a]!.op = 1
 ·rw [FW PA h1]; exact ⟨h.mono (by omega), Mo.refl _⟩
 by_cases h2 : pts[a]!.op = 2
 ·have h' := h.nw hN pts[a]!.n
  rw [GD h2 hgo]
  split
  ·exact ⟨(h'.fr _).mono (by omega), (Mo.app _ _).trans (Mo.fr _ _)⟩
  ·exact ⟨h'.mono (by omega), Mo.app _ _⟩
 by_cases h3 : pts[a]!.op = 3
 ·have hx := w.x a ha
  have hyb := w.y a ha
  have hne := (PA.t3 h3).2
  rw [HM h3 (fun q => hne (by omega))]
  split
  ·exact ⟨(h.fr _).mono (by omega), Mo.fr _ _⟩
  ·exact ⟨h.mono (by omega), Mo.refl _⟩
 by_cases h4 : pts[a]!.op = 4 ∨ pts[a]!.op = 5
 ·rw [(wH PA h4 hgo).2]; exact ⟨h.ln _ _, Mo.ln _ _ _⟩
 by_cases h6 : pts[a]!.op = 6
 ·rw [(oW PA h6 hgo).2]; exact ⟨(h.tch _ _).mono (by omega), Mo.tch _ _ _⟩
 by_cases h7 : pts[a]!.op = 7
 ·rw [(Df h7 hgo).2]; exact ⟨(h.wr _ _).mono (by omega), Mo.wr _ _ _⟩
 by_cases h8 : pts[a]!.op = 8
 ·rw [(Gv h8 hgo).2]; exact ⟨(h.fr _).mono (by omega), Mo.fr _ _⟩
 ·rw [wL (by omega) h11]; exact ⟨h.mono (by omega), Mo.refl _⟩
theorem Bs.step (w : WG ts pts) (A : WA ts pts) (ha : a < pts.length) (h11 : pts[a]!.op ≠ 11) (hN : 1 ≤ N) (B : Bs ts N s) (hu : dB ts s pts[a]! = false) (hgo : (dF ts s pts[a]!).2 = -1) : Bs ts (N + 1) (dF ts s pts[a]!).1 := by
 have PA := A.a a ha
 have hx := w.x a ha
 have hyb := w.y a ha
 have hop := w.op a ha
 have hs := w.doY A ha B.w.k.l hu h11 hgo
 obtain ⟨g1, g2⟩ := Me w A ha h11 hN B.sm hgo
 have hxn : ((pts[a]!.x.toNat : Nat) : Int) = pts[a]!.x := by omega
 have hyn : ((pts[a]!.y.toNat : Nat) : Int) = pts[a]!.y := by omega
 have hv2 : ∀ v : Nat, bD pts[a]! = (v : Int) → (1 ≤ pts[a]!.op ∧ pts[a]!.op ≤ 6) ∧ v = pts[a]!.x.toNat := fun v e => by
  by_cases q : 7 ≤ pts[a]!.op
  ·rw [oB q] at e; omega
  ·rw [fS (by omega)] at e; omega
 have old : ∀ v, v < ts.length → (dF ts s pts[a]!).1.slots[v]!.set = true → bD pts[a]! ≠ (v : Int) → bQ ts pts[a]! v ≠ 2 ∧ (dF ts s pts[a]!).1.slots[v]! = s.slots[v]! := fun v hv h1 h2 => by
  have e := hs v hv
  rw [if_neg h2] at e
  by_cases q : bQ ts pts[a]! v = 2
  ·rw [if_pos q] at e; rw [e] at h1; cases h1
  ·rw [if_neg q] at e; exact ⟨q, e⟩
 have oldf : ∀ v, v < ts.length → 3 ≤ ts[v]! → s.slots[v]!.set = true → 0 ≤ s.slots[v]!.ptr.cell ∧ s.slots[v]!.ptr.cell < (dF ts s pts[a]!).1.cells.length ∧ 1 ≤ s.slots[v]!.ptr.tag ∧ s.slots[v]!.ptr.tag < (dF ts s pts[a]!).1.cells[gT s.slots v]!.next := fun v h1 h2 h3 => by
  obtain ⟨f1, f2, f3, f4⟩ := B.f v h1 h2 h3
  have := g2.l
  have h5 := g2.n (gT s.slots v) (by unfold gT; omega)
  exact ⟨f1, by omega, f3, by omega⟩
 -- a new reference
 have newf : ∀ v : Nat, bD pts[a]! = (v : Int) → v < ts.length → 3 ≤ ts[v]! → (pts[a]!.op = 3 ∧ yF s pts[a]! = s.slots[pts[a]!.y.toNat]! ∧ pts[a]!.y.toNat < ts.length ∧ ts[pts[a]!.y.toNat]! = ts[v]! ∧ s.slots[pts[a]!.y.toNat]!.set = true) ∨
   (∃ c : Nat, c < s.cells.length ∧ (yF s pts[a]!).ptr = ⟨(c : Int), s.cells[c]!.next⟩ ∧ s.cells[c]!.next + 1 ≤ (dF ts s pts[a]!).1.cells[c]!.next) := fun v e hv h3 => by
  obtain ⟨o1, o2⟩ := hv2 v e
  by_cases h1 : pts[a]!.op = 1
  ·have := PA.t1 h1; rw [← o2] at this; omega
  by_cases h2 : pts[a]!.op = 2
  ·have := PA.t2 (.inl h2); rw [← o2] at this; omega
  by_cases h3' : pts[a]!.op = 3
  ·have hyl : pts[a]!.y.toNat < ts.length := by have := hyb.2 (by omega) (by omega); omega
   refine .inl ⟨h3', by unfold yF; rw [if_neg h1, if_neg h2, if_pos h3'], hyl, ?_, fR hu hyl (xM h3' hyn)⟩
   rw [o2]; exact (PA.t3 h3').1.symm
  by_cases h4 : pts[a]!.op = 4 ∨ pts[a]!.op = 5
  ·obtain ⟨hk, ec⟩ := wH PA h4 hgo
   have hx0 := eG (nW hk)
   refine .inr ⟨s.slots[pts[a]!.y.toNat]!.ptr.cell.toNat, hx0.2.2, ?_, ?_⟩
   ·unfold yF; rw [if_neg h1, if_neg h2, if_neg h3', if_pos h4]
    dsimp only
    unfold BT; rw [if_pos hk, Int.toNat_of_nonneg hx0.1]
   ·rw [ec, Du hk, if_pos rfl]
    show _ ≤ (iT _ _ _).next + 1
    exact Int.le_refl _
  ·have h6 : pts[a]!.op = 6 := by omega
   have := (PA.t6 h6).1; rw [← o2] at this; omega
 refine ⟨B.w.do PA h11 (fun h => ⟨hx.1, hx.2 h⟩) hop.1 (fun h1 h2 => ⟨hyb.1, hyb.2 h1 h2⟩) hu, fun v hv ht => ?_, g1, fun v hv h3 hset => ?_, fun v u hv hul h4 h4' hset hset' hce htg => ?_⟩
 ·rw [hs v hv]
  by_cases q : bD pts[a]! = (v : Int)
  ·rw [if_pos q]
   obtain ⟨o1, o2⟩ := hv2 v q
   unfold yF
   by_cases h1 : pts[a]!.op = 1
   ·rw [if_pos h1]; exact PA.n (.inl h1)
   rw [if_neg h1]
   by_cases h2 : pts[a]!.op = 2
   ·have := PA.t2 (.inl h2); rw [← o2] at this; omega
   rw [if_neg h2]
   by_cases h3 : pts[a]!.op = 3
   ·rw [if_pos h3]
    have hyl : pts[a]!.y.toNat < ts.length := by have := hyb.2 (by omega) (by omega); omega
    have := (PA.t3 h3).1
    rw [← o2, ht] at this
    exact B.i _ hyl this.symm
   rw [if_neg h3]
   by_cases h4 : pts[a]!.op = 4 ∨ pts[a]!.op = 5
   ·rcases h4 with h | h
    ·have := (PA.t4 h).1; rw [← o2] at this; omega
    ·have := (PA.t5 h).1; rw [← o2] at this; omega
   rw [if_neg h4]
   have h6 : pts[a]!.op = 6 := by omega
   have hk := (oW PA h6 hgo).1
   dsimp only
   unfold wC; rw [if_pos hk]
   exact (B.w.k.m.at (eG hk).2.2).v
  ·rw [if_neg q]
   split
   ·exact ⟨by decide, by decide⟩
   ·exact B.i v hv ht
 ·by_cases q : bD pts[a]! = (v : Int)
  ·have e := hs v hv
   rw [if_pos q] at e
   unfold gT
   rw [e]
   rcases newf v q hv h3 with ⟨n1, n2, n3, n4, n5⟩ | ⟨c, n1, n2, n3⟩
   ·rw [n2]; exact oldf _ n3 (by omega) n5
   ·rw [n2]
    have := g2.l
    have h5 := (B.w.k.m.at n1).n
    exact ⟨by dsimp only; omega, by dsimp only; omega, h5.1, by show s.cells[c]!.next < (dF ts s pts[a]!).1.cells[c]!.next; omega⟩
  ·obtain ⟨_, e⟩ := old v hv hset q
   unfold gT
   rw [e] at hset ⊢
   exact oldf v hv h3 hset
 ·have fresh : ∀ (v u : Nat), bD pts[a]! = (v : Int) → v < ts.length → u < ts.length → ts[v]! = 4 → ts[u]! = 4 → bD pts[a]! ≠ (u : Int) → (dF ts s pts[a]!).1.slots[u]!.set = true →
    gT (dF ts s pts[a]!).1.slots v = gT (dF ts s pts[a]!).1.slots u → (dF ts s pts[a]!).1.slots[v]!.ptr.tag = (dF ts s pts[a]!).1.slots[u]!.ptr.tag → False := fun v u e hv hul h4 h4' ne hset hce htg => by
   have e1 := hs v hv
   rw [if_pos e] at e1
   obtain ⟨n0, e2⟩ := old u hul hset ne
   unfold gT at hce
   rw [e1, e2] at hce htg
   rw [e2] at hset
   rcases newf v e hv (by omega) with ⟨n1, n2, n3, n4, n5⟩ | ⟨c, n1, n2, n3⟩
   ·rw [n2] at hce htg
    have := B.d _ u n3 hul (by omega) h4' n5 hset hce htg
    rw [← this] at n0
    exact n0 (K9 n1 hyn (.inr (by omega)))
   ·rw [n2] at hce htg
    have f := (B.f u hul (by omega) hset)
    dsimp only at hce htg
    have e3 : gT s.slots u = c := by unfold gT; omega
    rw [e3] at f
    omega
  by_cases q : bD pts[a]! = (v : Int)
  ·by_cases q' : bD pts[a]! = (u : Int)
   ·omega
   ·exact (fresh v u q hv hul h4 h4' q' hset' hce htg).elim
  ·by_cases q' : bD pts[a]! = (u : Int)
   ·exact (fresh u v q' hul hv h4' h4 q hset hce.symm htg.symm).elim
   ·obtain ⟨_, e⟩ := old v hv hset q
    obtain ⟨_, e'⟩ := old u hul hset' q'
    unfold gT at hce
    rw [e] at hset hce htg
    rw [e'] at hset' hce htg
    exact B.d v u hv hul h4 h4' hset hset' hce htg
theorem IV (w : WG ts pts) (A : WA ts pts) (ha : a < pts.length) (h11 : pts[a]!.op ≠ 11) (hN : N ≤ 198) (B : Bs ts N s) (R : RfI ts (fun v => Nd ts pts (a, v)) (Ln ts pts a) s.slots s.cells) (hu : dB ts s pts[a]! = false) : (dF ts s pts[a]!).2 = -1 ∨ (dF ts s pts[a]!).2 = 1 := by
 have PA := A.a a ha
 have hx := w.x a ha
 have hyb := w.y a ha
 have hop := w.op a ha
 have hxn : ((pts[a]!.x.toNat : Nat) : Int) = pts[a]!.x := by omega
 have hyn : ((pts[a]!.y.toNat : Nat) : Int) = pts[a]!.y := by omega
 by_cases h9 : 9 ≤ pts[a]!.op
 ·rw [wL h9 h11]; exact .inl rfl
 have hxl : pts[a]!.x.toNat < ts.length := by have := hx.2 (by omega); omega
 unfold dF
 by_cases h1 : pts[a]!.op = 1
 ·rw [if_pos h1]; exact .inl (B.w.put0 (by rw [PA.t1 h1]; decide) _).2
 rw [if_neg h1]
 by_cases h2 : pts[a]!.op = 2
 ·rw [if_pos h2]
  have ht := PA.t2 (.inl h2)
  by_cases h200 : s.cells.length = 200
  ·rw [if_pos h200]; exact .inr rfl
  ·rw [if_neg h200]
   exact .inl ((B.w.new (PA.n (.inr h2)) h200 s.read).putB (v := pts[a]!.x.toNat) hxl ht _ rfl rfl).2
 rw [if_neg h2]
 by_cases h3 : pts[a]!.op = 3
 ·rw [if_pos h3]
  have hyl : pts[a]!.y.toNat < ts.length := by have := hyb.2 (by omega) (by omega); omega
  obtain ⟨ht, hne⟩ := PA.t3 h3
  have hys := fR hu hyl (xM h3 hyn)
  by_cases q2 : ts[pts[a]!.y.toNat]! = 2
  ·rw [if_pos (tG.2 (.inl q2))]
   have g := B.w.give hyl q2 hys
   obtain ⟨b1, b2, b3, b4⟩ := B.w.o _ hyl q2 hys
   refine .inl (g.putB (v := pts[a]!.x.toNat) hxl (by rw [ht]; exact q2) _ hys ?_).2
   generalize s.slots[pts[a]!.y.toNat]! = z at b1 b3
   obtain ⟨zs, zn, zc, zt⟩ := z
   dsimp only at b1 b3 ⊢
   rw [b3, Int.toNat_of_nonneg b1]
  ·split
   ·exact .inl ((B.w.clr (v := pts[a]!.y.toNat) q2).put0 (by rw [ht]; exact q2) _).2
   ·exact .inl (B.w.put0 (by rw [ht]; exact q2) _).2
 rw [if_neg h3]
 by_cases h4 : pts[a]!.op = 4 ∨ pts[a]!.op = 5
 ·rw [if_pos h4]
  have hyl : pts[a]!.y.toNat < ts.length := by have := hyb.2 (by omega) (by omega); omega
  have huse : bQ ts pts[a]! (pts[a]!.y.toNat : Nat) ≠ 0 := jK (by omega) hyn
  have hty : 2 ≤ ts[pts[a]!.y.toNat]! ∧ (pts[a]!.op = 5 → ts[pts[a]!.y.toNat]! ≠ 3) := by
   rcases h4 with h | h
   ·exact ⟨(PA.t4 h).2.2, fun q => by omega⟩
   ·have := (PA.t5 h).2.2; exact ⟨by omega, fun _ => by omega⟩
  have hxt : ts[pts[a]!.x.toNat]! ≠ 2 := by
   rcases h4 with h4 | h4
   ·rw [(PA.t4 h4).1]; decide
   ·rw [(PA.t5 h4).1]; decide
  have hk : cS s.cells s.slots[pts[a]!.y.toNat]!.ptr (decide (pts[a]!.op = 5)) = 0 := R.code w B ha hu hyl hty.1 huse (fun q => hty.2 (by simpa using q))
  have hsh := (B.sm.at (eG hk).2.2).tch s.slots[pts[a]!.y.toNat]!.ptr (decide (pts[a]!.op = 5))
  have hl : rX s.cells s.slots[pts[a]!.y.toNat]!.ptr (decide (pts[a]!.op = 5)) = 0 := by
   unfold rX; rw [if_pos hk, if_neg]
   have h5 := hsh.l
   have h6 := hsh.n
   unfold Cs
   omega
  rw [if_pos hl]
  exact .inl ((B.w.cells (B.w.k.m.ln _ _) (B.w.h.ln B.w.k.m _ _) (sG _ _ _) (fun c hc => Gu _ _ _ c hc) _).put0 hxt _).2
 rw [if_neg h4]
 by_cases h6 : pts[a]!.op = 6
 ·rw [if_pos h6]
  have hyl : pts[a]!.y.toNat < ts.length := by have := hyb.2 (by omega) (by omega); omega
  have hxt : ts[pts[a]!.x.toNat]! ≠ 2 := by rw [(PA.t6 h6).1]; decide
  have hk : cS s.cells s.slots[pts[a]!.y.toNat]!.ptr false = 0 := R.code w B ha hu hyl (PA.t6 h6).2 (jK (by omega) hyn) (fun q => by cases q)
  rw [if_pos hk]
  exact .inl ((B.w.cells (B.w.k.m.tch _ _) (B.w.h.tch B.w.k.m _ _) (mV _ _ _) (fun c hc => D3 _ _ _ c hc) _).put0 hxt _).2
 rw [if_neg h6]
 by_cases h7 : pts[a]!.op = 7
 ·rw [if_pos h7]
  have hyl : pts[a]!.y.toNat < ts.length := by have := hyb.2 (by omega) (by omega); omega
  obtain ⟨ht, ht'⟩ := PA.t7 h7
  have hk : cS s.cells s.slots[pts[a]!.x.toNat]!.ptr true = 0 := R.code w B ha hu hxl (by omega) (Av h7 hxn) (fun _ => by omega)
  refine .inl ?_
  show l7 _ = -1
  unfold l7 r7; rw [if_pos (B.i _ hyl ht'), if_pos hk]
 rw [if_neg h7]
 have h8 : pts[a]!.op = 8 := by omega
 rw [if_pos h8]
 have hset := fR hu hxl (Ho h8 hxn)
 refine .inl ?_
 show l7 _ = -1
 unfold l7; rw [if_pos (B.w.k0 hxl (PA.t2 (.inr h8)) hset true)]
theorem HY (w : WG ts pts) (A : WA ts pts) (I : Nat → Nat → Mc → Prop)
  (hI : ∀ n a s k, a < pts.length → pts[a]!.op ≠ 11 → edge pts a k → I (n + 1) a s → dB ts s pts[a]! = false → (dF ts s pts[a]!).2 = -1 → I n k (dF ts s pts[a]!).1) :
  ∀ n a cs s last, a < pts.length → I n a s → Kh ts pts (fun a s => ∃ n, I n a s) (gI ts pts (eR pts n a cs).1 s last) := by
 intro n
 induction n with
 | zero =>
  intro a cs s last ha hs
  by_cases h11 : pts[a]!.op = 11
  ·have e : (eR pts 0 a cs).1 = [a] := by unfold eR; rw [if_pos h11]
   rw [e]; exact pT ha ⟨_, hs⟩ h11
  ·have e : (eR pts 0 a cs).1 = [] := by rw [eR, if_neg h11]
   rw [e]; exact .inl rfl
 | succ n ih =>
  intro a cs s last ha hs
  by_cases h11 : pts[a]!.op = 11
  ·have e : (eR pts (n + 1) a cs).1 = [a] := by unfold eR; rw [if_pos h11]
   rw [e]; exact pT ha ⟨_, hs⟩ h11
  ·have e : (eR pts (n + 1) a cs).1 = a :: (eR pts n (eE pts a cs).1 (eE pts a cs).2).1 := by rw [eR, if_neg h11]
   have he := iL w A ha h11 cs
   rw [e]
   exact x5 ha ⟨_, hs⟩ fun h1 h2 => ih _ _ _ _ (eH w he) (hI n a s _ ha h11 he hs h1 h2)
def Rt (pts : List Pnt) (c b : Nat) : Prop := Clo (fun b => edge pts c b) (fun a b => edge pts a b) b
structure Jv (ts : List Int) (pts : List Pnt) (n a : Nat) (s : Mc) : Prop where
 b : ∃ N : Int, 1 ≤ N ∧ N + n ≤ 198 ∧ Bs ts N s
 v : Vs ts pts a s
 r : (∃ c L, Cf ts pts c L ∧ Rt pts c a) ∨ RfI ts (fun v => Nd ts pts (a, v)) (Ln ts pts a) s.slots s.cells
theorem Jv.start {n : Nat} (hn : n ≤ 197) : Jv ts pts n 0 (mc0 ts.length) := by
 have e : ∀ v, v < ts.length → (mc0 ts.length).slots[v]! = jZ := fun v hv => by
  show (List.replicate ts.length jZ)[v]! = jZ
  rw [cK _ _ (by simpa using hv)]; simp
 refine ⟨⟨1, by omega, by omega, Own.start ts, fun v hv _ => ?_, fun c hc => ?_, fun v hv _ h => ?_, fun v u hv hul _ _ h => ?_⟩, Vs.start, .inr ⟨fun v hv _ h => ?_, fun v u hv hul _ _ h => ?_⟩⟩
 ·rw [e v hv]; exact ⟨by decide, by decide⟩
 ·have : c ∈ ([] : List Cl) := hc
  cases this
 all_goals (rw [e v hv] at h; cases h)
theorem HO (w : WG ts pts) (A : WA ts pts) (cs : List Int) (n : Nat) (hn : n ≤ 197) (h : (dI ts pts cs n).2.1 = 3 ∨ (dI ts pts cs n).2.1 = 4) : ∃ c L, Cf ts pts c L ∧ Rt pts c (dI ts pts cs n).2.2 := by
 have ho := HY w A (Jv ts pts) (fun n a s k ha h11 he hJ hu hgo => by
  obtain ⟨⟨N, hN1, hN2, B⟩, V, R⟩ := hJ
  refine ⟨⟨N + 1, by omega, by omega, B.step w A ha h11 hN1 hu hgo⟩, V.step w A a s k ha h11 he hu hgo, ?_⟩
  rcases R with ⟨c, L, h1, h2⟩ | R
  ·exact .inl ⟨c, L, h1, .step h2 he⟩
  ·by_cases hC : ∃ L, Cf ts pts a L
   ·obtain ⟨L, hL⟩ := hC
    exact .inl ⟨a, L, hL, .base he⟩
   ·exact .inr (R.step w A he h11 B V (fun L hL => hC ⟨L, hL⟩) hu hgo)) n 0 cs (mc0 ts.length) 0 w.p0 (Jv.start hn)
 change Kh ts pts _ (dI ts pts cs n) at ho
 rcases ho with ho | ⟨s', h0, ⟨m, J⟩, ⟨h3, _⟩ | ⟨h3, h4, h5, h6⟩⟩
 ·omega
 ·omega
 ·rcases J.r with hr | R
  ·exact hr
  ·exfalso
   obtain ⟨N, hN1, hN2, B⟩ := J.b
   by_cases q : pts[(dI ts pts cs n).2.2]!.op = 11
   ·rw [rK q, (Own.fin ts.length 0 s' B.w (by omega) (fun u hu => by omega)).1] at h6; omega
   ·rcases IV w A h0 q (by omega) B R h3 with e | e
    ·exact h4 e
    ·omega
end
end Go.AL
namespace Go.AL
section
variable {ts : List Int} {pts : List Pnt} {a : Nat} {s : Mc}
theorem CY {f : Flows ts pts} {i : Iss} (ha : a < pts.length) (h : i ∈ La ts pts f.Aa f.Am f.Al f.Af f.Ap a) : i ∈ f.iss := List.mem_flatMap.2 ⟨a, List.mem_range.2 ha, h⟩
theorem Ee {x : Pnt} {v : Nat} : (iK x).testBit v = decide (bD x = (v : Int)) := by
 unfold iK
 split
 ·rw [Nat.testBit_two_pow, decide_eq_decide]; omega
 ·rw [Nat.zero_testBit]; exact (decide_eq_false (by omega)).symm
theorem FX (w : WG ts pts) (f : Flows ts pts) {L : Nat} (ha : a < pts.length) (h : Cf ts pts a L) : (⟨a, if pts[L]!.op = 5 then 3 else 2, L⟩ : Iss) ∈ f.iss := by
 obtain ⟨v, u, wr, hk, hA, hf, hp, hy, hw⟩ := h
 obtain ⟨hl, hln⟩ := rF hp
 dsimp only at hl hln
 obtain ⟨_, hvl, _⟩ := Ag w hf
 dsimp only at hvl
 have htl := w.tl
 have hpl := w.pl
 have hyw := w.y L hl
 have hx := w.x a ha
 have hya := w.y a ha
 refine CY ha (List.mem_append_right _ (List.mem_map.2 ⟨(L : Int), dQ.2 ⟨L, by omega, ?_, rfl⟩, by rw [Int.toNat_natCast]⟩))
 rw [Bo w f ha hl hln, Bool.and_eq_true, Bool.and_eq_true]
 refine ⟨List.any_eq_true.2 ?_, ?_, (f.gp.2 a ha L).2 hp⟩
 ·have near : ∀ c : Acc, c.var = (u : Int) → c.write = wr → wY pts L c = true := fun c h1 h2 => by
   unfold wY
   rw [h1, h2, hy, decide_eq_true rfl, Bool.true_and]
   rcases hw with h | h
   ·rw [h]; rfl
   ·rw [decide_eq_true h]; simp
  unfold oP
  rcases hA with ⟨h, e, e2⟩ | ⟨h, e, e2⟩ | ⟨h, e, e2⟩ | ⟨h, ht, e, e2⟩ | ⟨h, ht, hm, e2⟩
  ·exact ⟨⟨pts[a]!.y, false⟩, List.mem_append_left _ (by rw [if_pos h]; simp), near _ e e2.symm⟩
  ·exact ⟨⟨pts[a]!.y, true⟩, List.mem_append_left _ (by rw [if_neg (by omega), if_pos h]; simp), near _ e e2.symm⟩
  ·exact ⟨⟨pts[a]!.x, true⟩, List.mem_append_left _ (by rw [if_neg (by omega), if_neg (by omega), if_pos h]; simp), near _ e e2.symm⟩
  ·refine ⟨⟨pts[a]!.y, true⟩, List.mem_append_left _ ?_, near _ e e2.symm⟩
   rw [if_neg (by omega), if_neg (by omega), if_neg (by omega), if_pos ⟨h, by rw [e, Int.toNat_natCast]; exact ht⟩]; simp
  ·refine ⟨⟨bD pts[a]!, true⟩, List.mem_append_right _ ?_, near _ h e2.symm⟩
   rw [if_pos ⟨by omega, by rw [h, Int.toNat_natCast]; exact ht, by rw [h, Int.toNat_natCast]; exact (f.gm.2 a ha u).2 hm⟩]; simp
 ·unfold zX
  rw [iM]
  refine .inr ⟨(v : Int), dQ.2 ⟨v, by omega, ?_, rfl⟩, ?_⟩
  ·rw [eB, (f.gl.2 a ha v).2 hk.1, Bool.true_and, Nat.testBit_or, dX, Ee, decide_eq_false hk.2.1]
   have : decide (bQ ts pts[a]! v ∈ ([2] : List Int)) = false := decide_eq_false (by simpa using hk.2.2)
   rw [this]; simp
  ·rw [Int.toNat_natCast, iE f.gf.1 ha (by omega)]
   exact (f.gf.2 a v ha (by omega) L).2 hf
theorem IL (w : WG ts pts) (f : Flows ts pts) (ha : a < pts.length) (V : Vs ts pts a s) (h : dB ts s pts[a]! = true) : ∃ v : Nat, (⟨a, 1, v⟩ : Iss) ∈ f.iss := by
 obtain ⟨v, hv, hu, hf⟩ := z8 h
 have htl := w.tl
 refine ⟨v, CY ha (List.mem_append_left _ (List.mem_map.2 ⟨(v : Int), dQ.2 ⟨v, by omega, ?_, rfl⟩, rfl⟩))⟩
 rw [eB, dX, decide_eq_true hv, Bool.true_and, Bool.and_eq_true]
 refine ⟨decide_eq_true (by have := o3 ts pts[a]! v; simp only [List.mem_cons, List.not_mem_nil, or_false]; omega), ?_⟩
 have := f.ga.2 a ha v
 cases q : f.Aa[a]!.testBit v with
 | false => rfl
 | true => exact absurd (V.u v hv hf) ((this.1 q).2)
theorem Fg (w : WG ts pts) (A : WA ts pts) (cs : List Int) (n : Nat) : (dI ts pts cs n).2.1 = 0 ∨ (dI ts pts cs n).2.1 = 1 ∨ (dI ts pts cs n).2.1 = 2 ∨ (dI ts pts cs n).2.1 = 3 ∨ (dI ts pts cs n).2.1 = 4 := by
 have h := DY w A (Vs ts pts) (Vs.step w A) n 0 cs (mc0 ts.length) 0 w.p0 Vs.start
 change Kh ts pts (Vs ts pts) (dI ts pts cs n) at h
 rcases h with h | ⟨s', h0, hI, ⟨h3, _⟩ | ⟨_, h4, _, h5⟩⟩
 ·exact .inr (.inl h)
 ·exact .inr (.inr (.inl h3))
 ·rw [h5]
  by_cases q : pts[(dI ts pts cs n).2.2]!.op = 11
  ·rw [rK q]
   rcases nP ts ts.length 0 s' with e | e | e <;> (rw [e]; simp)
  ·rcases yA (ts := ts) (s := s') q with e | e | e | e
   ·exact absurd e h4
   all_goals (rw [e]; simp)
theorem Jw (w : WG ts pts) (A : WA ts pts) (f : Flows ts pts) (cs : List Int) (n : Nat) (hn : n ≤ 197) (h : (dI ts pts cs n).2.1 ≠ 0 ∧ (dI ts pts cs n).2.1 ≠ 1) :
  ∃ (c : Nat) (i : Iss), i ∈ f.iss ∧ i.point = (c : Int) ∧ c < pts.length ∧ ((dI ts pts cs n).2.1 = 2 ∧ c = (dI ts pts cs n).2.2 ∨ (dI ts pts cs n).2.1 ≠ 2 ∧ i.kind ≠ 1 ∧ Rt pts c (dI ts pts cs n).2.2) := by
 by_cases h2 : (dI ts pts cs n).2.1 = 2
 ·have ho := DY w A (Vs ts pts) (Vs.step w A) n 0 cs (mc0 ts.length) 0 w.p0 Vs.start
  change Kh ts pts (Vs ts pts) (dI ts pts cs n) at ho
  rcases ho with ho | ⟨s', h0, hI, ⟨_, h3, _⟩ | ⟨_, h4, _, h5⟩⟩
  ·rw [ho] at h2; cases h2
  ·obtain ⟨v, hv⟩ := IL w f h0 hI h3
   exact ⟨_, _, hv, rfl, h0, .inl ⟨h2, rfl⟩⟩
  ·rw [h2] at h5
   by_cases q : pts[(dI ts pts cs n).2.2]!.op = 11
   ·rw [rK q] at h5
    rcases nP ts ts.length 0 s' with e | e | e <;> (rw [e] at h5; cases h5)
   ·rcases yA (ts := ts) (s := s') q with e | e | e | e <;> (rw [e] at h5; cases h5)
 ·have hc := Fg w A cs n
  obtain ⟨c, L, h3, h4⟩ := HO w A cs n hn (by omega)
  have hcl : c < pts.length := by
   clear h3 hc h h2
   generalize (dI ts pts cs n).2.2 = b at h4
   induction h4 with
   | base h => exact h.1
   | step _ _ ih => exact ih
  refine ⟨c, _, FX w f hcl h3, rfl, hcl, .inr ⟨h2, ?_, h4⟩⟩
  dsimp only
  split <;> decide
theorem wM (w : WG ts pts) (A : WA ts pts) (f : Flows ts pts) (cs : List Int) (n : Nat) (hn : n ≤ 197) (h : f.iss = []) : (dI ts pts cs n).2.1 = 0 ∨ (dI ts pts cs n).2.1 = 1 := by
 apply Classical.byContradiction; intro q
 obtain ⟨c, i, hi, _⟩ := Jw w A f cs n hn ⟨fun e => q (.inl e), fun e => q (.inr e)⟩
 rw [h] at hi; cases hi
end
end Go.AL
namespace Go.AL
open Go.RowKit Go.MapKept
set_option linter.unusedVariables false
set_option linter.unusedSimpArgs false
def MQ (r : Nat) (ks : List Int) (w : World) : Prop := ∃ es ck, w.heap[r]? = some (.map es ck) ∧ ∀ e ∈ es.toList, ∃ k ∈ ks, e.key = .int .i64 k
structure GsM (C : Ctx) (s : AS) (r : Nat) (ks : List Int) (a : Act) (w : World) : Prop where
 g : Gs C s a w
 m : MQ r ks w
 l : C.w0.heap.size ≤ r
theorem Fr.trans2 {W0 W1 : Nat → Prop} {w0 w w' : World} (h : Fr W0 w0 w) (k : Fr W1 w w') (hW : ∀ b, W1 b → W0 b ∨ w0.heap.size ≤ b) : Fr W0 w0 w' :=
 ⟨k.os.trans h.os, k.tape.trans h.tape, k.output.trans h.output, Nat.le_trans h.size k.size, fun b hb hw => by
  rw [k.block b (Nat.lt_of_lt_of_le hb h.size) (fun q => (hW b q).elim hw (fun h => by omega))]; exact h.block b hb hw, fun b => Nat.le_trans (h.bs b) (k.bs b)⟩
theorem GsM.base {C : Ctx} {s : AS} {r : Nat} {ks : List Int} {a : Act} {w : World} (h : GsM C s r ks a w) : ∃ C' : Ctx, C'.N = C.N ∧ Gs C' s a w ∧ ∀ s' a' w', Gs C' s' a' w' → GsM C s' r ks a' w' := by
 obtain ⟨⟨h0, ι, g, gh⟩, ⟨es, ck, hm, hk⟩, hl⟩ := h
 let C' : Ctx := { C with w0 := w, W0 := fun b => ∃ id cs β, cA s.hs id = some cs ∧ ι id = some (some (b, β)), xlt := fun b hb => Nat.lt_of_lt_of_le (C.xlt b hb) gh.fr.size }
 have hW : ∀ b, C'.W0 b → C.W0 b ∨ C.w0.heap.size ≤ b := by
  rintro b ⟨id, cs, β, h1, h2⟩
  rcases gh.obj id cs h1 with ⟨h3, _⟩ | ⟨b', β', arr, e, h3, h4, h5, h6, h7, h8⟩
  ·rw [h3] at h2; cases h2
  ·rw [h3] at h2; cases h2; exact h8
 have hr : ¬ C'.W0 r := by
  rintro ⟨id, cs, β, h1, h2⟩
  rcases gh.obj id cs h1 with ⟨h3, _⟩ | ⟨b', β', arr, e, h3, h4, h5, h6, h7, h8⟩
  ·rw [h3] at h2; cases h2
  ·rw [h3] at h2; cases h2; rw [hm] at h4; cases h4
 refine ⟨C', rfl, ⟨h0, ι, ⟨g.df, g.sz, g.tm⟩, ⟨fun id cs h => ?_, gh.sep, Fr.refl _ _, gh.ex, gh.fresh⟩⟩, ?_⟩
 ·rcases gh.obj id cs h with h1 | ⟨b', β', arr, e, h3, h4, h5, h6, h7, h8⟩
  ·exact .inl h1
  ·exact .inr ⟨b', β', arr, e, h3, h4, h5, h6, h7, .inl ⟨id, cs, β', h, h3⟩⟩
 ·rintro s' a' w' ⟨h0', ι', g', gh'⟩
  have f : Fr C'.W0 w w' := gh'.fr
  refine ⟨⟨h0', ι', ⟨g'.df, g'.sz, g'.tm⟩, ⟨fun id cs h => ?_, gh'.sep, gh.fr.trans2 f hW, gh'.ex, gh'.fresh⟩⟩, ⟨es, ck, by rw [f.block r (gR hm) hr]; exact hm, hk⟩, hl⟩
  rcases gh'.obj id cs h with h1 | ⟨b', β', arr, e, h3, h4, h5, h6, h7, h8⟩
  ·exact .inl h1
  ·refine .inr ⟨b', β', arr, e, h3, h4, h5, h6, h7, ?_⟩
   rcases h8 with h8 | h8
   ·exact hW _ h8
   ·exact .inr (Nat.le_trans gh.fr.size h8)
def sF (P : Program) (N : Nat) (c : Code) (Q : Exit → AS → List Int → Prop) (r : Nat) (ks : List Int) (s : AS) : Prop :=
 ∀ (C : Ctx) (a : Act) (w : World), C.N = N → GsM C s r ks a w → c.wp P (fun e a' w' => ∃ s' ks', Q e s' ks' ∧ GsM C s' r ks' a' w') a w
def FF (P : Program) (N : Nat) (all : Array Oper) (Q : Exit → AS → List Int → Prop) (r : Nat) (ks : List Int) (l : List Oper) (s : AS) : Prop :=
 ∀ (C : Ctx) (a : Act) (w : World), C.N = N → GsM C s r ks a w → wpList P all (fun e a' w' => ∃ s' ks', Q e s' ks' ∧ GsM C s' r ks' a' w') l a w
def vT (K : AS → List Int → Prop) (Q : Exit → AS → List Int → Prop) : Exit → AS → List Int → Prop
 | .normal, s, ks => K s ks
 | e, s, ks => Q e s ks
def I7 (id : Nat) (Q : Exit → AS → List Int → Prop) : Exit → AS → List Int → Prop
 | .exit i, s, ks => if i = id then Q .normal s ks else Q (.exit i) s ks
 | e, s, ks => Q e s ks
section
variable {P : Program} {N : Nat} {Q : Exit → AS → List Int → Prop} {s : AS} {r : Nat} {ks : List Int}
theorem pN {c : Code} (h : AW P N c (fun e s' => Q e s' ks) s) : sF P N c Q r ks s := by
 intro C a w hN g
 obtain ⟨C', h1, h2, h3⟩ := g.base
 exact wp_mono (h C' a w (h1.trans hN) h2) fun e a' w' ⟨s', q1, q2⟩ => ⟨s', ks, q1, h3 _ _ _ q2⟩
theorem lP {x y : Code} (h : sF P N x (vT (fun s' ks' => sF P N y Q r ks' s') Q) r ks s) : sF P N (.seq x y) Q r ks s := by
 intro C a w hN g
 refine wp_seq (wp_mono (h C a w hN g) ?_)
 rintro e a' w' ⟨s', ks', h1, h2⟩
 cases e with
 | normal => exact h1 C a' w' hN h2
 | _ => exact ⟨s', ks', h1, h2⟩
theorem A2 {x y : Code} {c : Operand} {b : Bool} (hc : ev (lk s.ts) c = some (.v (.bool b))) (h1 : b = true → sF P N x Q r ks s) (h2 : b = false → sF P N y Q r ks s) : sF P N (.cond c x y) Q r ks s := by
 rintro C a w hN ⟨⟨h0, ι, g, gh⟩, hm, hl⟩
 have h := dA g hc
 simp only [Rd] at h
 cases b
 ·exact wp_cond_false h (h2 rfl C a w hN ⟨⟨h0, ι, g, gh⟩, hm, hl⟩)
 ·exact wp_cond_true h (h1 rfl C a w hN ⟨⟨h0, ι, g, gh⟩, hm, hl⟩)
theorem xH {id : Nat} {c : Code} (h : sF P N c (I7 id Q) r ks s) : sF P N (.block id c) Q r ks s := by
 intro C a w hN g
 refine wp_block (wp_mono (h C a w hN g) ?_)
 rintro e a' w' ⟨s', ks', h1, h2⟩
 cases e with
 | exit i =>
  simp only [Exit.inBlock, I7] at h1 ⊢
  split
  ·rename_i hi; rw [if_pos hi] at h1; exact ⟨s', ks', h1, h2⟩
  ·rename_i hi; rw [if_neg hi] at h1; exact ⟨s', ks', h1, h2⟩
 | _ => exact ⟨s', ks', h1, h2⟩
theorem BS (h : Q .normal s ks) : sF P N .skip Q r ks s := fun C a w _ g => wp_skip ⟨s, ks, h, g⟩
theorem Ic {id : Nat} (h : Q (.exit id) s ks) : sF P N (.exit id) Q r ks s := fun C a w _ g => wp_exit ⟨s, ks, h, g⟩
theorem F3 {σ : Type} {c : Code} (p : σ → Prop) (I : σ → AS) (J : σ → List Int) (μ : σ → Nat) (h0 : ∃ i, p i ∧ Le s (I i) ∧ J i = ks)
  (round : ∀ i, p i → sF P N c (vT (fun s' ks' => ∃ j, p j ∧ μ j < μ i ∧ Le s' (I j) ∧ J j = ks') Q) r (J i) (I i)) : sF P N (.loop c) Q r ks s := by
 intro C a w hN g
 obtain ⟨i, h1, h2, h3⟩ := h0
 subst h3
 refine wp_loop (fun a w => ∃ i, p i ∧ GsM C (I i) r (J i) a w) (fun a w => pW fun n => ∃ i, p i ∧ GsM C (I i) r (J i) a w ∧ μ i = n) ⟨i, h1, ⟨h2 C a w g.g, g.m, g.l⟩⟩ ?_
 rintro a w ⟨i0, hp0, hg0⟩
 obtain ⟨⟨i, hp, hg, hm⟩, hmin⟩ := jJ (S := fun n => ∃ i, p i ∧ GsM C (I i) r (J i) a w ∧ μ i = n) ⟨_, i0, hp0, hg0, rfl⟩
 refine wp_mono (round i hp C a w hN hg) ?_
 rintro e a' w' ⟨s', ks', h3, h4⟩
 cases e with
 | normal =>
  obtain ⟨j, q1, q2, q3, rfl⟩ := h3
  have h5 : GsM C (I j) r (J j) a' w' := ⟨q3 C a' w' h4.g, h4.m, h4.l⟩
  refine ⟨⟨j, q1, h5⟩, ?_⟩
  have := (jJ (S := fun n => ∃ i, p i ∧ GsM C (I i) r (J i) a' w' ∧ μ i = n) ⟨_, j, q1, h5, rfl⟩).2 (μ j) ⟨j, q1, h5, rfl⟩
  omega
 | _ => exact ⟨s', ks', h3, h4⟩
theorem EA {σ : Type} {c : Code} {ts : List (Nat × AV)} {hs : List (Nat × Option (List AV))} {n : Nat} {z0 : Lo} (kl : List Nat) (kt : List (Nat × AV)) (js : List Nat) (kh : List (Nat × Option (List AV)))
  (ot : σ → List (Nat × AV)) (oh : σ → List (Nat × Option (List AV))) (J : σ → List Int) (p : σ → Prop) (μ : σ → Nat) (i0 : σ) (h0 : p i0) (hJ : J i0 = ks) (hk : Bf kl ts = kt) (hj : CW js hs = kh)
  (h1 : rU ts (ot i0)) (h2 : qB hs (oh i0))
  (round : ∀ i, p i → sF P N c (vT (fun s' ks' => ∃ j, p j ∧ μ j < μ i ∧ Le s' ⟨ot j ++ kt, oh j ++ kh, n, z0⟩ ∧ J j = ks') Q) r (J i) ⟨ot i ++ kt, oh i ++ kh, n, z0⟩) :
  sF P N (.loop c) Q r ks ⟨ts, hs, n, z0⟩ := by
 subst hk hj
 exact F3 p (fun i => ⟨ot i ++ Bf kl ts, oh i ++ CW js hs, n, z0⟩) J μ ⟨i0, h0, Le.lit (m9 h1 (mY kl)) (mI h2 (pI js)) (Nat.le_refl _), hJ⟩ round
theorem uD {id : Nat} {l : List Oper} (h : FF P N l.toArray Q r ks l s) : sF P N (.region id l.toArray false) Q r ks s :=
 fun C a w hN g => wp_region_lit (h C a w hN g)
variable {all : Array Oper}
theorem KN {o : Oper} {a : Act} {w : World} {K K' : Act → World → Prop} {Q1 Q2 : Exit → Act → World → Prop} (h : ∀ a w, K a w → K' a w) (hq : ∀ e a w, Q1 e a w → e = .normal)
  (hh : o.wp P a w K Q1) : o.wp P a w K' Q2 := by
 have hL : ¬ LetsOut Q1 := fun ⟨a, w, q⟩ => by cases hq _ _ _ q
 unfold Oper.wp at *
 generalize (execOp a.eval o).run P w = z at *
 cases z with
 | ok n w' =>
  cases n <;> simp only [Oper.upon] at hh ⊢ <;>
   first
    | exact h _ _ hh
    | exact Calls.mono hh (fun e w'' he => by cases e <;> first | exact h _ _ he | (cases hq _ _ _ he) | exact absurd he hL)
    | exact Rows.mono hh (fun _ _ he => h _ _ he)
 | halt x w' => cases x <;> simp only [Oper.upon] at hh ⊢ <;> (cases hq _ _ _ hh)
theorem jW {Q1 Q2 : Exit → Act → World → Prop} {l2 : List Oper} (k : ∀ e a w, Q1 e a w → e = .normal ∧ wpList P all Q2 l2 a w) : ∀ (l1 : List Oper) (a : Act) (w : World), wpList P all Q1 l1 a w → wpList P all Q2 (l1 ++ l2) a w
 | [], a, w, h => (k _ _ _ h).2
 | o :: l1, a, w, h => by
  have hL : ¬ LetsOut Q1 := fun ⟨a, w, q⟩ => by cases (k _ _ _ q).1
  rw [List.cons_append]
  unfold wpList at h ⊢
  split
  ·rename_i hw
   rw [if_pos hw] at h
   rcases h with h | ⟨_, h⟩
   ·exact .inl (KN (fun a w => jW k l1 a w) (fun e a w q => (k e a w q).1) h)
   ·exact absurd h hL
  ·rename_i hw; rw [if_neg hw] at h; exact jW k l1 _ _ h
theorem A7 {l1 l2 : List Oper} (h : RW P N all (fun e s' => e = .normal ∧ FF P N all Q r ks l2 s') .txt l1 s) : FF P N all Q r ks (l1 ++ l2) s := by
 intro C a w hN g
 obtain ⟨C', h1, h2, h3⟩ := g.base
 exact jW (fun e a' w' ⟨s', ⟨q1, q2⟩, q3⟩ => ⟨q1, q2 C a' w' hN (h3 _ _ _ q3)⟩) l1 a w (h C' a w (h1.trans hN) h2)
theorem IB (h : Q .normal s ks) : FF P N all Q r ks [] s := fun C a w _ g => wpList_nil ⟨s, ks, h, g⟩
variable {rest : List Oper} {ts : List (Nat × AV)} {hs : List (Nat × Option (List AV))} {n : Nat} {z0 : Lo} {d : Nat} {ty : TypeId} {pos : String} {af : Array Edge}
theorem ET {dst : Option Tmp} {op : Op} {j e : Nat} {want b : Bool} (hj : (all[j]?).bind (·.dst) = some e) (hb : lk s.ts e = some (.v (.bool b))) (hw : b = want) (h : FF P N all Q r ks (⟨dst, op, ty, pos, af, none⟩ :: rest) s) :
  FF P N all Q r ks (⟨dst, op, ty, pos, af, some (j, want)⟩ :: rest) s := by
 subst hw
 intro C a w hN g
 have h' := h C a w hN g
 obtain ⟨⟨h0, ι, g, gh⟩, hm, hl⟩ := g
 have hyl : yielded all a.tmps j = some b := by
  obtain ⟨y, hy, hr⟩ := g.tm e _ hb
  simp only [Rd] at hr
  subst hr
  simp [yielded, hj, hy]
 unfold wpList at h' ⊢
 simp only [Region.wanted, hyl, if_true, beq_self_eq_true] at h' ⊢
 exact h'
theorem rR {w : World} {mt kt et : TypeId} {es : Array MapEntry} {ck : Nat} {a : Int} (hu : P.underlying mt = some (.map kt et)) (hk : P.underlying kt = some (.int .i64)) (hz : (P.info? et).bind (·.zero) = some (.bool false))
  (hb : w.heap[r]? = some (.map es ck)) (hn : ∀ e ∈ es.toList, ∃ k, k ≠ a ∧ e.key = .int .i64 k) : (Instr.lookup mt (.map (some r)) (.int .i64 a) false).run P w = .ok (.bool false) w ∧ Instr.findNow (.int .i64) (.int .i64 a) es.toList 0 = some none := by
 have hkey : IsKey (.int .i64) (.int .i64 a) := by simp [IsKey]
 have hf : Instr.findNow (.int .i64) (.int .i64 a) es.toList 0 = some none := by
  rcases findNow_spec hkey es.toList 0 (fun x hx => by obtain ⟨k, _, h2⟩ := hn x hx; rw [h2]; simp [IsKey]) with ⟨h, _⟩ | ⟨j, e, _, h2, h3⟩
  ·exact h
  ·obtain ⟨k, h4, h5⟩ := hn e (List.mem_of_getElem? h2)
   rw [h5] at h3; cases h3; exact absurd rfl h4
 refine ⟨?_, hf⟩
 cases hi : P.info? et with
 | none => rw [hi] at hz; cases hz
 | some i =>
  rw [hi] at hz
  have hz2 : i.zero = some (.bool false) := hz
  simp [Instr.lookup, c5 hu, Go.MapKept.run_getObj_map hb, run_checkKey hk hkey, run_findKey hk hf, zeroValue, typeInfo, hi, hz2, Result.andThen]
theorem Cp {mt kt et : TypeId} {x y : Operand} {a : Int} (hu : P.underlying mt = some (.map kt et)) (hk : P.underlying kt = some (.int .i64)) (hz : (P.info? et).bind (·.zero) = some (.bool false))
  (hx : ev (lk ts) x = some (.v (.map (some r)))) (hy : ev (lk ts) y = some (.v (.int .i64 a))) (ha : a ∉ ks) (hN : Nat.blt d N = true) (kk : FF P N all Q r ks rest ⟨(d, .v (.bool false)) :: ts, hs, n, z0⟩) :
  FF P N all Q r ks (⟨some d, .lookup mt x y false, ty, pos, af, none⟩ :: rest) ⟨ts, hs, n, z0⟩ := by
 rintro C ac w hCN ⟨⟨h0, ι, g, gh⟩, ⟨es, ck, hm, hkk⟩, hl⟩
 refine wpList_plain rfl (fun K hK => ?_)
 have e1 := dA g hx
 have e2 := dA g hy
 simp only [Rd] at e1 e2
 have hr := (rR (P := P) hu hk hz hm (a := a) (fun e he => by obtain ⟨k, h1, h2⟩ := hkk e he; exact ⟨k, fun q => ha (q ▸ h1), h2⟩)).1
 have hop : (execOp ac.eval ⟨some d, .lookup mt x y false, ty, pos, af, none⟩).run P w = .ok (.value (.bool false)) w := by
  simp [execOp, e1, e2, hr]
 simp only [Oper.wp, hop, Oper.upon]
 refine hK _ _ (kk C _ _ hCN ⟨⟨h0, ι, ?_, gh⟩, ⟨es, ck, hm, hkk⟩, hl⟩)
 show TG C ι (lk ((d, _) :: ts)) _ _ _
 rw [jE]
 exact g.put (by have := eL hN; omega) (by simp [Rd])
theorem B4 {mt kt et : TypeId} {x y z : Operand} {a : Int} (hu : P.underlying mt = some (.map kt et)) (hk : P.underlying kt = some (.int .i64)) (hz : (P.info? et).bind (·.zero) = some (.bool false))
  (hx : ev (lk ts) x = some (.v (.map (some r)))) (hy : ev (lk ts) y = some (.v (.int .i64 a))) (ha : a ∉ ks) (kk : FF P N all Q r (ks ++ [a]) rest ⟨ts, hs, n, z0⟩) :
  FF P N all Q r ks (⟨none, .mapUpdate mt x y z, ty, pos, af, none⟩ :: rest) ⟨ts, hs, n, z0⟩ := by
 rintro C ac w hCN ⟨⟨h0, ι, g, gh⟩, ⟨es, ck, hm, hkk⟩, hl⟩
 refine wpList_plain rfl (fun K hK => ?_)
 have e1 := dA g hx
 have e2 := dA g hy
 simp only [Rd] at e1 e2
 have hkey : IsKey (.int .i64) (.int .i64 a) := by simp [IsKey]
 have hf := (rR (P := P) hu hk hz hm (a := a) (fun e he => by obtain ⟨k, h1, h2⟩ := hkk e he; exact ⟨k, fun q => ha (q ▸ h1), h2⟩)).2
 let o2 : Obj := .map (es.push { key := .int .i64 a, val := ac.eval z, born := ck }) (ck + 1)
 let w2 : World := { w with heap := w.heap.setIfInBounds r o2 }
 have hop : (execOp ac.eval ⟨none, .mapUpdate mt x y z, ty, pos, af, none⟩).run P w = .ok .skip w2 := by
  simp [execOp, e1, e2, Instr.mapUpdate, c5 hu, Go.MapKept.run_getObj_map hm, run_checkKey hk hkey, run_findKey hk hf, Go.MapKept.run_setObj_map _ hm, Result.andThen, w2, o2]
 obtain ⟨hs1, hs2⟩ := heap_set (o' := o2) hm
 have hne : ∀ b c e f, w.heap[b]? = some (.cells c e f) → b ≠ r := fun b c e f h q => by subst q; rw [hm] at h; cases h
 have hbs : ∀ b, sH w2 b = sH w b := fun b => by
  by_cases e : b = r
  ·subst e; show (match w2.heap[b]? with | some (.cells c _ _) => c.size | _ => 0) = _; rw [show w2.heap[b]? = some o2 from hs1]; simp [sH, hm, o2]
  ·exact pC (hs2 b e)
 have hcell : ∀ b o v, w.cell? ⟨b, o, none⟩ = some v → w2.cell? ⟨b, o, none⟩ = some v := fun b o v h => by
  have : b ≠ r := fun q => by subst q; rw [World.cell?] at h; simp [hm] at h
  rw [fL (hs2 b this)]; exact h
 have car : ∀ bad : Nat → Prop, Carry w bad ι w2 bad ι := fun bad => ⟨fun b o v h1 h2 => ⟨h1, hcell b o v h2⟩, fun _ _ h => h, fun b => Nat.le_of_eq (hbs b).symm⟩
 simp only [Oper.wp, hop, Oper.upon]
 refine hK _ _ (kk C _ _ hCN ⟨⟨h0, ι, ?_, ?_⟩, ⟨_, _, hs1, ?_⟩, hl⟩)
 ·exact g.carry (car _)
 ·refine ⟨fun id cs h => ?_, gh.sep, ⟨gh.fr.os, gh.fr.tape, gh.fr.output, by show C.w0.heap.size ≤ (w.heap.setIfInBounds r o2).size; rw [Array.size_setIfInBounds]; exact gh.fr.size, fun b hb hw => ?_, fun b => by rw [hbs]; exact gh.fr.bs b⟩, gh.ex, gh.fresh⟩
  ·rcases gh.obj id cs h with h1 | ⟨b', β', arr, e, h3, h4, h5, h6, h7, h8⟩
   ·exact .inl h1
   ·exact .inr ⟨b', β', arr, e, h3, by rw [show w2.heap[b']? = w.heap[b']? from hs2 b' (hne _ _ _ _ h4)]; exact h4, h5, RdC.carryB (car _) _ _ _ (fun o v hv => hcell b' o v hv) h6, h7, h8⟩
  ·rw [show w2.heap[b]? = w.heap[b]? from hs2 b (by omega)]; exact gh.fr.block b hb hw
 ·intro e he
  rw [Array.toList_push, List.mem_append, List.mem_singleton] at he
  rcases he with he | rfl
  ·obtain ⟨k, h1, h2⟩ := hkk e he; exact ⟨k, List.mem_append_left _ h1, h2⟩
  ·exact ⟨a, by simp, rfl⟩
theorem HZ {Q : Exit → AS → Prop} {id : Nat} {t : TypeId} {y : Code} (hN : Nat.blt d N = true)
  (h : ∀ r, FF P N (⟨some d, .makeMap t none, ty, pos, af, none⟩ :: rest).toArray (fun e s' ks' => e = .normal ∧ sF P N y (fun e s' _ => Q e s') r ks' s') r [] rest ⟨(d, .v (.map (some r))) :: ts, hs, n, z0⟩) :
  AW P N (.seq (.region id (⟨some d, .makeMap t none, ty, pos, af, none⟩ :: rest).toArray false) y) Q ⟨ts, hs, n, z0⟩ := by
 rintro C ac w hCN ⟨h0, ι, g, gh⟩
 refine wp_seq (wp_region_lit (wpList_plain rfl (fun K hK => ?_)))
 have hop : (execOp ac.eval ⟨some d, .makeMap t none, ty, pos, af, none⟩).run P w = .ok (.value (.map (some w.heap.size))) (w.alloc (.map #[] 0)) := by
  simp [execOp, Instr.makeMap, newObj, Sem.run]
 have f : Fr (fun _ => False) w (w.alloc (.map #[] 0)) := by
  refine ⟨rfl, rfl, rfl, by simp, fun b hb _ => Below.heap_alloc w _ b hb, fun b => ?_⟩
  rcases Nat.lt_or_ge b w.heap.size with hb | hb
  ·rw [pC (Below.heap_alloc w _ b hb)]; exact Nat.le_refl _
  ·simp [sH, Array.getElem?_eq_none hb]
 obtain ⟨g2, c2⟩ := gh.ext f
 simp only [Oper.wp, hop, Oper.upon]
 refine hK _ _ ?_
 have hh := h w.heap.size C (ac.put (some d) (.map (some w.heap.size))) (w.alloc (.map #[] 0)) hCN ⟨⟨h0, ι, ?_, g2⟩, ⟨#[], 0, heap_alloc_new w _, by simp⟩, gh.fr.size⟩
 ·have := jW (l2 := []) (P := P) (Q2 := Exit.then (y.wp P (fun e a' w' => ∃ s', Q e s' ∧ Gs C s' a' w')) (fun e a' w' => ∃ s', Q e s' ∧ Gs C s' a' w')) (all := (⟨some d, .makeMap t none, ty, pos, af, none⟩ :: rest).toArray)
   (k := fun e a' w' ⟨s', ks', ⟨q1, q2⟩, q3⟩ => ⟨q1, by
    subst q1
    exact wpList_nil (wp_mono (q2 C a' w' hCN q3) (fun e a'' w'' ⟨s'', ks'', u1, u2⟩ => ⟨s'', u1, u2.g⟩))⟩) rest _ _ hh
  rw [List.append_nil] at this
  exact this
 ·show TG C ι (lk ((d, _) :: ts)) _ _ _
  rw [jE]
  exact (g.carry c2).put (by have := eL hN; omega) (by simp [Rd])
theorem H2 {K K2 : AS → List Int → Prop} {id : Nat} (h : Q .normal s ks) : vT K (vT K2 (I7 id Q)) (.exit id) s ks := by
 have e : vT K (vT K2 (I7 id Q)) (.exit id) s ks = (if id = id then Q .normal s ks else Q (.exit id) s ks) := rfl
 rw [e, if_pos rfl]; exact h
theorem HN {Q : Exit → AS → Prop} {id : Nat} {t : TypeId} {y : Code} (h : Stop (AW P N (.seq (.region id (⟨some d, .makeMap t none, ty, pos, af, none⟩ :: rest).toArray false) y) Q s)) :
  AW P N (.seq (.region id (⟨some d, .makeMap t none, ty, pos, af, none⟩ :: rest).toArray false) y) Q s := h
theorem Kt {Q : Exit → AS → Prop} {c : Code} (h : AW P N c Q s) : Stop (AW P N c Q s) := h
theorem Bx {l : List Oper} (h : RW P N all (fun e s' => e = .normal ∧ Q e s' ks) .txt l s) : FF P N all Q r ks l s := by
 intro C a w hN g
 obtain ⟨C', h1, h2, h3⟩ := g.base
 have := jW (l2 := []) (P := P) (all := all) (Q1 := fun e a' w' => ∃ s', (e = .normal ∧ Q e s' ks) ∧ Gs C' s' a' w') (Q2 := fun e a' w' => ∃ s' ks', Q e s' ks' ∧ GsM C s' r ks' a' w')
  (k := fun e a' w' ⟨s', ⟨q1, q2⟩, q3⟩ => ⟨q1, by subst q1; exact wpList_nil ⟨s', ks, q2, h3 _ _ _ q3⟩⟩) l a w (h C' a w (h1.trans hN) h2)
 rwa [List.append_nil] at this
end
end Go.AL
namespace Go.AL
open Go.RowKit
set_option linter.unusedVariables false
section
variable {P : Program} {N : Nat} {Q : Exit → AS → Prop} {all : Array Oper} {rest : List Oper} {ts : List (Nat × AV)} {hs : List (Nat × Option (List AV))} {n : Nat} {z0 : Lo} {md : Md}
variable {d : Nat} {ty : TypeId} {pos : String} {af : Array Edge}
theorem jO {α : Type} {hα : Inhabited α} {f g : α → List AV} {xs : List α} {e id k j z : Nat} {t : TypeId} {x : Operand} {cs' : List AV} [ha : AgT P t true] [hz : SzT P t z] (hx : ev (lk ts) x = some (.optr id (0 + k * e + j)))
  (hH : cA hs id = some (flat f xs)) (hf : FlT f e) (hg : FE f g) (hk : k < xs.length) (hj : j + z ≤ e) (hc : ((g xs[k]!).drop j).take z = cs') (h0 : Nat.blt 0 z = true) (hN : Nat.blt d N = true) {md' : Md} [hmd : MdA md (rO x ++ rA (.optr id (0 + k * e + j))) [.inl d] md']
  (kk : RW P N all Q md' rest ⟨(d, .agg cs') :: ts, hs, n, z0⟩) : RW P N all Q md (⟨some d, .load t x, ty, pos, af, none⟩ :: rest) ⟨ts, hs, n, z0⟩ := by
 have hl : (g xs[k]!).length = e := by rw [← hg.pf]; exact hf.pf _
 subst hc
 refine kU (cs := (flat f xs).drop (0 + k * e + j)) hx ha.pf hz.pf (by simp only [deref, hH, Option.map_some]) (cs' := ((g xs[k]!).drop j).take z) ?_ (by rw [List.length_take, List.length_drop, hl]; omega) (by have := eL h0; omega) (eL hN) (by rw [hmd.pf]; exact kk)
 rw [Nat.zero_add, ← List.drop_drop, gE f xs k hk, ← hg.pf, List.drop_append_of_le_length (by rw [hf.pf]; omega), List.take_append_of_le_length (by rw [List.length_drop, hf.pf]; omega)]
end
end Go.AL
namespace Go.AL
open Go.RowKit
set_option linter.unusedVariables false
theorem EZ (c : Int) : g0 .and .i64 c 1 = some (.int .i64 (c % 2)) := by
 have h : (BitVec.ofInt 64 c &&& BitVec.ofInt 64 1).toNat = (c % 2).toNat := by
  rw [BitVec.toNat_and, show (BitVec.ofInt 64 1).toNat = 1 from rfl, Nat.and_one_is_mod, BitVec.toNat_ofInt]
  omega
 have e : g0 .and .i64 c 1 = some (.int .i64 (IntKind.i64.wrap ((BitVec.ofInt 64 c &&& BitVec.ofInt 64 1).toNat : Int))) := rfl
 rw [e, h]
 rcases Int.emod_two_eq c with h2 | h2 <;> rw [h2] <;> rfl
section
variable {P : Program} {N : Nat} {Q : Exit → AS → Prop} {all : Array Oper} {rest : List Oper} {ts : List (Nat × AV)} {hs : List (Nat × Option (List AV))} {n : Nat} {z0 : Lo} {md : Md}
variable {d : Nat} {ty : TypeId} {pos : String} {af : Array Edge}
theorem JU {t t' : TypeId} {x y : Operand} {c : Int} (hx : ev (lk ts) x = some (.v (.int .i64 c))) (hy : ev (lk ts) y = some (.v (.int .i64 1)))
  (hN : Nat.blt d N = true) {md' : Md} [hmd : MdA md (rO x ++ rO y) [.inl d] md'] (kk : RW P N all Q md' rest ⟨(d, .v (.int .i64 (c % 2))) :: ts, hs, n, z0⟩) : RW P N all Q md (⟨some d, .binOp .and t x y t', ty, pos, af, none⟩ :: rest) ⟨ts, hs, n, z0⟩ :=
 fD hx hy (.inl rfl) (EZ c) (eL hN) (by rw [hmd.pf]; exact kk)
end
end Go.AL
namespace Go.AL
open Go.RowKit
set_option linter.unusedVariables false
class EqS (P : Program) (t : Nat) (S : outParam (List Value → Prop)) : Prop where
 g : P.eqGuardType P.depth t = false
 e : ∀ l, S l → ∀ w : World, (Op.equalIn 10000 t (.agg l.toArray) (.agg l.toArray)).run P w = .ok true w
theorem GY {w : World} {bad : Nat → Prop} {ι : Pl} : ∀ {vs l : List Value}, RdL w bad ι (vs.map .v) l → l = vs
 | [], l, h => by simp only [List.map_nil, RdL] at h; exact h
 | n :: ns, l, h => by
  simp only [List.map_cons, RdL] at h
  obtain ⟨x, l', rfl, h0, h1, h2⟩ := h
  simp only [Rd] at h1
  rw [h1, GY h2]
section
variable {P : Program} {N : Nat} {Q : Exit → AS → Prop} {all : Array Oper} {rest : List Oper} {ts : List (Nat × AV)} {hs : List (Nat × Option (List AV))} {n : Nat} {z0 : Lo} {md : Md}
variable {d : Nat} {ty : TypeId} {pos : String} {af : Array Edge}
theorem Dy {t t' : TypeId} {x y : Operand} {cs : List AV} {S : List Value → Prop} (vs : List Value) [he : EqS P t S] (hx : ev (lk ts) x = some (.agg cs)) (hy : ev (lk ts) y = some (.agg cs)) (hc : vs.map .v = cs) (hS : S vs)
  (hN : Nat.blt d N = true) {md' : Md} [hmd : MdA md (rO x ++ rO y) [.inl d] md'] (kk : RW P N all Q md' rest ⟨(d, .v (.bool false)) :: ts, hs, n, z0⟩) : RW P N all Q md (⟨some d, .binOp .neq t x y t', ty, pos, af, none⟩ :: rest) ⟨ts, hs, n, z0⟩ := by
 subst hc
 refine eJ rfl rfl (eL hN) (fun C ι F T H a w ag g gh => ?_) (by rw [hmd.pf]; exact kk)
 have key : ∀ (z : Operand), ev T z = some (.agg (vs.map .v)) → a.eval z = .agg vs.toArray := by
  intro z hz
  have h1 := dA g hz
  simp only [Rd] at h1
  obtain ⟨l, h2, h3⟩ := h1
  rw [h2, GY h3]
 refine ⟨.bool false, ?_, by simp [Rd]⟩
 have hb : (binOp .neq t (.agg vs.toArray) (.agg vs.toArray)).run P w = .ok (.bool false) w := by
  rw [run_neq_struct, he.e _ hS]; rfl
 simp only [execOp, key x (ag.l.ev.trans hx), key y (ag.r.ev.trans hy), Sem.run_bind, run_eqGuard_agg w .neq t x y _ _ he.g, Result.andThen_ok, hb, Sem.run_pure]
end
end Go.AL
namespace Go.AL
open Go.RowKit
set_option linter.unusedVariables false
theorem EI {P : Program} {N : Nat} {Q : Exit → AS → Prop} {all : Array Oper} {rest : List Oper} {ts : List (Nat × AV)} {hs : List (Nat × Option (List AV))} {n : Nat} {z0 : Lo} {d : Nat} {ty : TypeId} {pos : String} {af : Array Edge}
  {t t' el : TypeId} {x : Operand} {id off m e : Nat} [ht : SlT P t el] (hx : ev (lk ts) x = some (.own id off m e)) (hN : Nat.blt d N = true)
  (kk : ∀ b : Bool, (b = true → m = 0) → RW P N all Q .txt rest ⟨(d, .v (.bool b)) :: ts, hs, n, z0⟩) : RW P N all Q .txt (⟨some d, .binOp .eql t x (.const (.slice none 0 0)) t', ty, pos, af, none⟩ :: rest) ⟨ts, hs, n, z0⟩ := by
 rintro C a w hCN ⟨h0, ι, g, gh⟩
 refine wpList_plain rfl (fun K hK => ?_)
 have h1 := dA g hx
 simp only [Rd] at h1
 obtain ⟨a', m', c, h2, hb⟩ : ∃ a' m' c, a.eval x = .slice a' m' c ∧ (a'.isNone = true → m = 0) := by
  rcases h1 with ⟨_, rfl, a', h2⟩ | ⟨b, β, c, _, h2, _⟩
  ·exact ⟨a', 0, 0, h2, fun _ => rfl⟩
  ·exact ⟨_, m, c, h2, fun h => by cases h⟩
 have hu := gQ ht.pf
 have hg : (eqGuard .eql t x (.const (.slice none 0 0)) (.slice a' m' c) (.slice none 0 0)).run P w = .ok () w := by simp [eqGuard]
 have hr : (execOp a.eval ⟨some d, .binOp .eql t x (.const (.slice none 0 0)) t', ty, pos, af, none⟩).run P w = .ok (.value (.bool a'.isNone)) w := by
  have e2 : a.eval (.const (.slice none 0 0)) = .slice none 0 0 := rfl
  simp only [execOp, h2, e2, Sem.run_bind, hg, Result.andThen_ok, xF w t el hu, Sem.run_pure]
 simp only [Oper.wp, hr, Oper.upon]
 refine hK _ _ (kk a'.isNone hb C _ _ hCN ⟨h0, ι, ?_, gh⟩)
 show TG C ι (lk ((d, AV.v (.bool a'.isNone)) :: ts)) _ _ _
 rw [jE]
 exact g.put (by have := eL hN; omega) (by simp [Rd])
end Go.AL
namespace Go.AL
structure Ren (ts ts' : List Int) (σ : Nat → Nat) : Prop where
 l : ts'.length = ts.length
 b : ∀ v, v < ts.length → σ v < ts.length
 i : ∀ v u, v < ts.length → u < ts.length → σ v = σ u → v = u
 t : ∀ v, v < ts.length → ts'[σ v]! = ts[v]!
 s : ∀ u, u < ts.length → ∃ v, v < ts.length ∧ σ v = u
structure XOk (n : Nat) (x : Pnt) : Prop where
 x0 : 0 ≤ x.x
 x1 : x.op ≤ 8 → x.x < n
 y0 : 0 ≤ x.y
 y1 : 3 ≤ x.op → x.op ≤ 7 → x.y < n
 o : 1 ≤ x.op
section
variable {ts ts' : List Int} {σ : Nat → Nat} {x : Pnt} {v : Nat}
theorem Ren.eq (r : Ren ts ts' σ) (hv : v < ts.length) {z : Int} (h0 : 0 ≤ z) (h1 : z < ts.length) : ((σ v : Nat) : Int) = (σ z.toNat : Nat) ↔ (v : Int) = z := by
 constructor
 ·intro h
  have := r.i v z.toNat hv (by omega) (by omega)
  omega
 ·intro h
  rw [← h, Int.toNat_natCast]
structure SimR (n : Nat) (σ : Nat → Nat) (s s' : Mc) : Prop where
 l : s.slots.length = n
 l' : s'.slots.length = n
 c : s'.cells = s.cells
 r : s'.read = s.read
 s : ∀ v, v < n → s'.slots[σ v]! = s.slots[v]!
theorem SimR.set {s s' : Mc} (r : Ren ts ts' σ) (h : SimR ts.length σ s s') (hv : v < ts.length) (z : Sl) (c : List Cl) (d : List Int) : SimR ts.length σ ⟨s.slots.set v z, c, d⟩ ⟨s'.slots.set (σ v) z, c, d⟩ := by
 refine ⟨by dsimp only; rw [List.length_set]; exact h.l, by dsimp only; rw [List.length_set]; exact h.l', rfl, rfl, fun u hu => ?_⟩
 dsimp only
 have b1 := r.b v hv
 have b2 := r.b u hu
 have l1 := h.l
 have l2 := h.l'
 have := h.s u hu
 rw [cK _ _ (by omega), cK _ _ (by omega)] at this
 rw [cK _ _ (by rw [List.length_set]; omega), cK _ _ (by rw [List.length_set]; omega), List.getElem_set, List.getElem_set]
 by_cases e : v = u
 ·rw [if_pos (by rw [e]), if_pos e]
 ·rw [if_neg (fun q => e (r.i v u hv hu q)), if_neg e]; exact this
end
end Go.AL
namespace Go.AL
section
variable {ts ts' : List Int} {pts : List Pnt} {σ : Nat → Nat}
theorem XOk.of (w : WG ts pts) {a : Nat} (ha : a < pts.length) : XOk ts.length pts[a]! :=
 ⟨(w.x a ha).1, (w.x a ha).2, (w.y a ha).1, (w.y a ha).2, (w.op a ha).1⟩
theorem SimR.start (r : Ren ts ts' σ) : SimR ts.length σ (mc0 ts.length) (mc0 ts'.length) := by
 refine ⟨by simp [mc0], by simp [mc0, r.l], rfl, rfl, fun v hv => ?_⟩
 have b := r.b v hv
 show (List.replicate ts'.length jZ)[σ v]! = (List.replicate ts.length jZ)[v]!
 rw [cK _ _ (by rw [List.length_replicate, r.l]; exact b), cK _ _ (by rw [List.length_replicate]; exact hv), List.getElem_replicate, List.getElem_replicate]
end
end Go.AL
namespace Go.AL
section
variable {ts ts' : List Int} {pts : List Pnt} {σ : Nat → Nat}
theorem DR {x : Pnt} (h : dZ x = true) : x.op = 4 ∨ x.op = 5 := by
 unfold dZ at h; simpa using h
end
end Go.AL
namespace Go.AL
section
variable {ts ts' : List Int} {pts : List Pnt} {σ : Nat → Nat}
theorem KY (w : WG ts pts) (f : Flows ts pts) {a l : Nat} (ha : a < pts.length) (h : (FG ts pts f.Am f.Al f.Af f.Ap a).testBit l = true) : Cf ts pts a l := by
 obtain ⟨hl, hln⟩ := Ja w f ha h
 have ho := DR hln
 have hyl := (w.y l hl).2 (by omega) (by omega)
 have hy0 := (w.y l hl).1
 have htl := w.tl
 rw [Bo w f ha hl hln, Bool.and_eq_true, Bool.and_eq_true] at h
 obtain ⟨h1, h2, h3⟩ := h
 obtain ⟨c, hc, hn⟩ := List.any_eq_true.1 h1
 unfold wY at hn
 rw [Bool.and_eq_true, decide_eq_true_eq] at hn
 obtain ⟨hv, hw⟩ := hn
 have hp := (f.gp.2 a ha l).1 h3
 unfold zX at h2
 rw [iM] at h2
 rcases h2 with h2 | ⟨z, hz, h2⟩
 ·simp at h2
 obtain ⟨v, _, hb, rfl⟩ := dQ.1 hz
 rw [eB, Nat.testBit_or, dX, Ee] at hb
 simp only [Bool.and_eq_true, Bool.not_eq_true', Bool.or_eq_false_iff] at hb
 obtain ⟨b1, b2, b3⟩ := hb
 have hvl : v < ts.length := by obtain ⟨k, _, q⟩ := (f.gl.2 a ha v).1 b1; exact tX w q
 rw [Int.toNat_natCast, iE f.gf.1 ha (by omega)] at h2
 have hk : Kp ts pts a v := by
  refine ⟨(f.gl.2 a ha v).1 b1, by simpa using b3, ?_⟩
  rw [decide_eq_true hvl, Bool.true_and] at b2
  simpa using b2
 have hf := (f.gf.2 a v ha (by omega) l).1 h2
 refine ⟨v, pts[l]!.y.toNat, c.write, hk, ?_, hf, hp, by omega, by simpa using hw⟩
 unfold oP at hc
 have ec : ∀ (x : Int) (b : Bool), c = ⟨x, b⟩ → x = ((pts[l]!.y.toNat : Nat) : Int) ∧ c.write = b := fun x b e => by
  rw [e] at hv ⊢; dsimp only at hv ⊢; exact ⟨by omega, rfl⟩
 rcases List.mem_append.1 hc with hc | hc
 ·split at hc
  ·rename_i q; obtain ⟨e1, e2⟩ := ec _ _ (List.mem_singleton.1 hc); exact .inl ⟨q, e1, e2⟩
  ·split at hc
   ·rename_i q; obtain ⟨e1, e2⟩ := ec _ _ (List.mem_singleton.1 hc); exact .inr (.inl ⟨q, e1, e2⟩)
   ·split at hc
    ·rename_i q; obtain ⟨e1, e2⟩ := ec _ _ (List.mem_singleton.1 hc); exact .inr (.inr (.inl ⟨q, e1, e2⟩))
    ·split at hc
     ·rename_i q; obtain ⟨e1, e2⟩ := ec _ _ (List.mem_singleton.1 hc)
      refine .inr (.inr (.inr (.inl ⟨q.1, ?_, e1, e2⟩)))
      have := q.2; rw [e1, Int.toNat_natCast] at this; exact this
     ·cases hc
 ·split at hc
  ·rename_i q; obtain ⟨e1, e2⟩ := ec _ _ (List.mem_singleton.1 hc)
   obtain ⟨q1, q2, q3⟩ := q
   rw [e1, Int.toNat_natCast] at q2 q3
   exact .inr (.inr (.inr (.inr ⟨e1, q2, (f.gm.2 a ha _).1 q3, e2⟩)))
  ·cases hc
end
end Go.AL
namespace Go.AL
theorem oK : ∀ (L M : List Int), L.Nodup → (∀ x ∈ L, x ∈ M) → L.length ≤ M.length
 | [], M, _, _ => Nat.zero_le _
 | x :: L, M, h, hs => by
  have hx := hs x List.mem_cons_self
  obtain ⟨h1, h2⟩ := List.nodup_cons.1 h
  have := oK L (M.erase x) h2 fun y hy => (List.mem_erase_of_ne (fun e => h1 (by rw [← e]; exact hy))).2 (hs y (List.mem_cons_of_mem _ hy))
  rw [List.length_erase_of_mem hx] at this
  have := List.length_pos_of_mem hx
  rw [List.length_cons]; omega
def nmOk (n : Nat) (nm : List Int) : Prop := ∀ v, v < n → 0 ≤ nm[v]! ∧ nm[v]! < n ∧ ∀ u, u < v → nm[u]! ≠ nm[v]!
def nmAll (n : Nat) (nm : List Int) : Prop := ∀ i : Nat, i < n → (i : Int) ∈ nm
theorem nmOk.all {n : Nat} {nm : List Int} (hl : nm.length = n) (h : nmOk n nm) : nmAll n nm := by
 intro i hi
 by_cases q : (i : Int) ∈ nm
 ·exact q
 exfalso
 have hn : nm.Nodup := by
  rw [List.nodup_iff_pairwise_ne, List.pairwise_iff_getElem]
  intro u v hu hv huv
  have := (h v (by omega)).2.2 u huv
  rw [cK _ _ hu, cK _ _ hv] at this; exact this
 have := oK ((i : Int) :: nm) ((List.range n).map fun v : Nat => (v : Int)) (List.nodup_cons.2 ⟨q, hn⟩) fun z hz => by
  rw [List.mem_map]
  rcases List.mem_cons.1 hz with rfl | hz
  ·exact ⟨i, List.mem_range.2 hi, rfl⟩
  ·obtain ⟨v, hv, e⟩ := List.getElem_of_mem hz
   have := h v (by omega)
   rw [cK _ _ hv, e] at this
   exact ⟨z.toNat, List.mem_range.2 (by omega), by omega⟩
 simp at this; omega
theorem nmAll.ok {n : Nat} {nm : List Int} (hl : nm.length = n) (h : nmAll n nm) : nmOk n nm := by
 intro v hv
 have bad : ¬ ((¬ (0 ≤ nm[v]! ∧ nm[v]! < n)) ∨ ∃ u, u < v ∧ nm[u]! = nm[v]!) := by
  intro q
  have hr : ((List.range n).map fun v : Nat => (v : Int)).Nodup := by
   rw [List.nodup_iff_pairwise_ne, List.pairwise_map]
   exact List.Pairwise.imp (fun {a b} (z : a < b) => by omega) List.pairwise_lt_range
  have := oK _ (nm.eraseIdx v) hr fun z hz => by
   obtain ⟨i, hi, rfl⟩ := List.mem_map.1 hz
   have hi := List.mem_range.1 hi
   obtain ⟨w, hw, e⟩ := List.getElem_of_mem (h i hi)
   rw [List.mem_eraseIdx_iff_getElem]
   by_cases hwv : w = v
   ·subst hwv
    rw [cK _ _ hw, e] at q
    rcases q with q | ⟨u, hu, q⟩
    ·omega
    ·refine ⟨u, by omega, by omega, ?_⟩
     rw [cK _ _ (by omega)] at q; exact q
   ·exact ⟨w, hw, hwv, e⟩
  rw [List.length_map, List.length_range, List.length_eraseIdx_of_lt (by omega)] at this
  omega
 refine ⟨?_, ?_, fun u hu e => bad (.inr ⟨u, hu, e⟩)⟩
 ·exact Decidable.byContradiction fun z => bad (.inl fun y => z y.1)
 ·exact Decidable.byContradiction fun z => bad (.inl fun y => z y.2)
theorem Ren.of {ts ts' : List Int} {nm : List Int} (hl : nm.length = ts.length) (hl' : ts'.length = ts.length) (h : nmOk ts.length nm) (ht : ∀ v, v < ts.length → ts'[nm[v]!.toNat]! = ts[v]!) : Ren ts ts' (fun v => nm[v]!.toNat) := by
 refine ⟨hl', fun v hv => ?_, fun v u hv hu e => ?_, ht, fun u hu => ?_⟩
 ·have := h v hv; omega
 ·have h1 := h v hv
  have h2 := h u hu
  rcases Nat.lt_trichotomy v u with q | q | q
  ·exact absurd (by omega) (h2.2.2 v q)
  ·exact q
  ·exact absurd (by omega) (h1.2.2 u q)
 ·obtain ⟨v, hv, e⟩ := List.getElem_of_mem (h.all hl u hu)
  refine ⟨v, by omega, ?_⟩
  rw [cK _ _ hv, e, Int.toNat_natCast]
end Go.AL
namespace Go.AL
section
variable {ts : List Int} {pts : List Pnt}
structure NoI (ts : List Int) (pts : List Pnt) : Prop where
 u : ∀ a v, a < pts.length → v < ts.length → bQ ts pts[a]! (v : Nat) ≠ 0 → ¬ Na ts pts (a, v)
 c : ∀ a L, a < pts.length → ¬ Cf ts pts a L
theorem NoI.iff (w : WG ts pts) (f : Flows ts pts) : f.iss = [] ↔ NoI ts pts := by
 have htl := w.tl
 constructor
 ·intro h
  refine ⟨fun a v ha hv hu hn => ?_, fun a L ha hc => ?_⟩
  ·have : (⟨(a : Int), 1, (v : Int)⟩ : Iss) ∈ f.iss := by
    refine CY ha (List.mem_append_left _ (List.mem_map.2 ⟨(v : Int), dQ.2 ⟨v, by omega, ?_, rfl⟩, rfl⟩))
    rw [eB, dX, decide_eq_true hv, Bool.true_and, Bool.and_eq_true]
    have hb := o3 ts pts[a]! (v : Int)
    refine ⟨decide_eq_true ?_, ?_⟩
    ·simp only [List.mem_cons, List.not_mem_nil, or_false]; omega
    ·cases q : f.Aa[a]!.testBit v with
     | false => rfl
     | true => exact absurd hn ((f.ga.2 a ha v).1 q).2
   rw [h] at this; cases this
  ·have := FX w f ha hc
   rw [h] at this; cases this
 ·intro h
  apply List.eq_nil_iff_forall_not_mem.2
  intro i hi
  obtain ⟨a, ha, h1⟩ := List.mem_flatMap.1 hi
  rw [List.mem_range] at ha
  rcases List.mem_append.1 h1 with h1 | h1
  ·obtain ⟨z, hz, _⟩ := List.mem_map.1 h1
   obtain ⟨v, _, hb, _⟩ := dQ.1 hz
   rw [eB, dX, Bool.and_eq_true, Bool.and_eq_true] at hb
   obtain ⟨⟨b1, b2⟩, b3⟩ := hb
   have hv := of_decide_eq_true b1
   refine h.u a v ha hv ?_ ?_
   ·intro q; rw [q] at b2; simp at b2
   ·apply Classical.byContradiction; intro hn
    rw [(f.ga.2 a ha v).2 ⟨hv, hn⟩] at b3; cases b3
  ·obtain ⟨z, hz, _⟩ := List.mem_map.1 h1
   obtain ⟨v, _, hb, _⟩ := dQ.1 hz
   exact h.c a v ha (KY w f ha hb)
end
def G4 (x : Pnt) : Prop := x.op = 9 ∨ x.op = 10
def Alike (x z : Pnt) : Prop := (x.op = z.op ∧ x.x = z.x ∧ x.y = z.y ∧ x.n = z.n) ∨ (G4 x ∧ G4 z)
section
variable {ts : List Int} {x z : Pnt}
theorem DA (h : G4 x) (v : Int) : bQ ts x v = 0 := by
 unfold G4 at h
 unfold bQ; rw [if_neg (by omega), if_neg (by omega), if_neg (by omega), if_neg (by omega)]
theorem Dk (h : G4 x) : bD x = -1 := oB (by unfold G4 at h; omega)
theorem GA (h : G4 x) : dZ x = false := by
 unfold G4 at h
 unfold dZ; rw [decide_eq_false (by omega), decide_eq_false (by omega)]; rfl
theorem Alike.use (h : Alike x z) (v : Int) : bQ ts x v = bQ ts z v := by
 rcases h with ⟨h1, h2, h3, _⟩ | ⟨h1, h2⟩
 ·unfold bQ; rw [h1, h2, h3]
 ·rw [DA h1, DA h2]
theorem Alike.set (h : Alike x z) : bD x = bD z := by
 rcases h with ⟨h1, h2, h3, _⟩ | ⟨h1, h2⟩
 ·unfold bD; rw [h1, h2]
 ·rw [Dk h1, Dk h2]
theorem Alike.ln (h : Alike x z) : dZ x = dZ z := by
 rcases h with ⟨h1, h2, h3, _⟩ | ⟨h1, h2⟩
 ·unfold dZ; rw [h1]
 ·rw [GA h1, GA h2]
theorem Alike.eq (h : Alike x z) (hn : ¬ G4 x) : x.op = z.op ∧ x.x = z.x ∧ x.y = z.y ∧ x.n = z.n := by
 rcases h with h | h
 ·exact h
 ·exact absurd h.1 hn
end
end Go.AL
namespace Go.AL
section
variable {ts : List Int} {P Q : List Pnt} {κ : Nat → Nat} {J c : Nat}
theorem oX {s : Mc} {x z : Pnt} (h : Alike x z) : dF ts s x = dF ts s z ∧ dB ts s x = dB ts s z := by
 have hu : dB ts s x = dB ts s z := by
  unfold dB
  simp only [h.use]
 refine ⟨?_, hu⟩
 rcases h with ⟨h1, h2, h3, h4⟩ | ⟨h1, h2⟩
 ·unfold dF; rw [h1, h2, h3, h4]
 ·unfold G4 at h1 h2
  rw [wL (by omega) (by omega), wL (by omega) (by omega)]
theorem pP {x z : Pnt} (h : Alike x z) : x.op = 11 ↔ z.op = 11 := by
 rcases h with ⟨h1, _⟩ | ⟨h1, h2⟩
 ·rw [h1]
 ·unfold G4 at h1 h2; omega
def iO (ts : List Int) (pts : List Pnt) (n a : Nat) (cs : List Int) (s : Mc) (last : Nat) : Mc × Int × Nat := gI ts pts (eR pts n a cs).1 s last
theorem L9 {a : Nat} {s : Mc} {l : Nat} : gI ts P [a] s l = if dB ts s P[a]! = true then (s, 2, a) else if (dF ts s P[a]!).2 = -1 then ((dF ts s P[a]!).1, 1, a) else ((dF ts s P[a]!).1, (dF ts s P[a]!).2, a) := by
 rw [gI]; rfl
theorem pM {n a : Nat} {cs : List Int} {s : Mc} {last : Nat} (h : P[a]!.op = 11) : iO ts P n a cs s last = gI ts P [a] s last := by
 have e : (eR P n a cs).1 = [a] := by cases n <;> (rw [eR, if_pos h])
 unfold iO; rw [e]
theorem qE {a : Nat} {cs : List Int} {s : Mc} {last : Nat} (h : P[a]!.op ≠ 11) : iO ts P 0 a cs s last = (s, 1, last) := by
 have e : (eR P 0 a cs).1 = [] := by rw [eR, if_neg h]
 unfold iO; rw [e]; rfl
theorem GK {n a : Nat} {cs : List Int} {s : Mc} {last : Nat} (h : P[a]!.op ≠ 11) : iO ts P (n + 1) a cs s last =
  if dB ts s P[a]! = true then (s, 2, a) else if (dF ts s P[a]!).2 = -1 then iO ts P n (eE P a cs).1 (eE P a cs).2 (dF ts s P[a]!).1 a else ((dF ts s P[a]!).1, (dF ts s P[a]!).2, a) := by
 have e : (eR P (n + 1) a cs).1 = a :: (eR P n (eE P a cs).1 (eE P a cs).2).1 := by rw [eR, if_neg h]
 unfold iO; rw [e, gI]
end
end Go.AL
namespace Go.AL
def DD (d : Nat) (x : Pnt) : Pnt := ⟨x.op, x.x, x.y, x.n, x.next.map (· + (d : Int))⟩
mutual
theorem KE (d : Nat) : ∀ (s : Stmt) (b : Nat), zT (b + d) s = (zT b s).map (DD d)
 | .mk op x y n th el, b => by
  have h1 := xX d th (b + 1)
  have h2 := xX d el (b + 2 + dK th)
  simp only [zT]
  rw [show b + d + 1 = b + 1 + d by omega, show b + d + 2 + dK th = b + 2 + dK th + d by omega, h1, h2]
  split
  ·simp only [List.map_append, List.map_cons, List.map_nil, DD]
   congr 1
   ·congr 1
    ·congr 1
     congr 1
     simp only [List.cons.injEq, Pnt.mk.injEq, and_true, true_and]
     omega
    ·simp only [List.cons.injEq, Pnt.mk.injEq, and_true, true_and]
     omega
  ·split
   ·simp only [List.map_append, List.map_cons, List.map_nil, DD]
    congr 1
    ·congr 1
     simp only [List.cons.injEq, Pnt.mk.injEq, and_true, true_and]
     omega
   ·simp only [List.map_cons, List.map_nil, DD, List.cons.injEq, Pnt.mk.injEq, and_true, true_and]
    omega
theorem xX (d : Nat) : ∀ (l : List Stmt) (b : Nat), fB (b + d) l = (fB b l).map (DD d)
 | [], b => rfl
 | s :: l, b => by
  simp only [fB, List.map_append]
  rw [KE d s b, show b + d + p9 s = b + p9 s + d by omega, xX d l (b + p9 s)]
end
mutual
theorem K0 : ∀ (s : Stmt) (b : Nat), ∀ x ∈ zT b s, ∀ k ∈ x.next, (b : Int) ≤ k ∧ k ≤ (b : Int) + p9 s
 | .mk op x y n th el, b => by
  have h1 := qT th (b + 1)
  have h2 := qT el (b + 2 + dK th)
  simp only [zT, p9]
  by_cases h9 : op = 9
  ·rw [if_pos h9, if_pos h9]
   intro z hz k hk
   simp only [List.mem_append, List.mem_singleton] at hz
   rcases hz with ((rfl | hz) | rfl) | hz
   ·simp only [List.mem_cons, List.not_mem_nil, or_false] at hk
    omega
   ·have := h1 z hz k hk; omega
   ·simp only [List.mem_cons, List.not_mem_nil, or_false] at hk
    omega
   ·have := h2 z hz k hk; omega
  ·rw [if_neg h9, if_neg h9]
   by_cases h10 : op = 10
   ·rw [if_pos h10, if_pos h10]
    intro z hz k hk
    simp only [List.mem_append, List.mem_singleton] at hz
    rcases hz with (rfl | hz) | rfl
    ·simp only [List.mem_cons, List.not_mem_nil, or_false] at hk
     omega
    ·have := h1 z hz k hk; omega
    ·simp only [List.mem_cons, List.not_mem_nil, or_false] at hk
     omega
   ·rw [if_neg h10, if_neg h10]
    intro z hz k hk
    rw [List.mem_singleton] at hz
    rw [hz] at hk
    simp only [List.mem_cons, List.not_mem_nil, or_false] at hk
    omega
theorem qT : ∀ (l : List Stmt) (b : Nat), ∀ x ∈ fB b l, ∀ k ∈ x.next, (b : Int) ≤ k ∧ k ≤ (b : Int) + dK l
 | [], b => by simp [fB]
 | s :: l, b => by
  have h1 := K0 s b
  have h2 := qT l (b + p9 s)
  simp only [fB, dK]
  intro z hz k hk
  rcases List.mem_append.1 hz with hz | hz
  ·have := h1 z hz k hk; omega
  ·have := h2 z hz k hk; omega
end
end Go.AL
namespace Go.AL
theorem lA {α : Type} [Inhabited α] {A B : List α} {n i : Nat} (h : A.length = n) : (A ++ B)[i]! = if i < n then A[i]! else B[i - n]! := by
 rw [I3, h]
theorem Ai {α : Type} [Inhabited α] {x : α} {R : List α} {i : Nat} : (x :: R)[i]! = if i < 1 then x else R[i - 1]! := by
 rw [show x :: R = [x] ++ R from rfl, lA (n := 1) rfl]
 by_cases h : i < 1
 ·rw [if_pos h, if_pos h]
  obtain rfl : i = 0 := by omega
  rfl
 ·rw [if_neg h, if_neg h]
theorem Ih {d : Nat} {x : Pnt} {j : Nat} (h : j < x.next.length) : (DD d x).next[j]! = x.next[j]! + d := by
 unfold DD
 dsimp only
 rw [cK _ _ (by rw [List.length_map]; exact h), List.getElem_map, cK _ _ h]
theorem JG {d : Nat} {X : List Pnt} {i : Nat} (h : i < X.length) : (X.map (DD d))[i]! = DD d X[i]! := by
 rw [cK _ _ (by rw [List.length_map]; exact h), List.getElem_map, cK _ _ h]
end Go.AL
namespace Go.AL
section
variable {ts : List Int} {P Q : List Pnt} {s t : Mc}
def vl (m : List Cl) (j : Nat) : Int := m[j]!.val
theorem F0 {m : List Cl} {k j : Nat} {c : Cl} : vl (m.set k c) j = if k = j ∧ k < m.length then c.val else vl m j := by
 unfold vl; rw [c8]
 by_cases q : k = j ∧ k < m.length
 ·rw [if_pos q, if_pos ⟨q.1, by omega⟩]
 ·rw [if_neg q, if_neg (fun z => q ⟨z.1, by omega⟩)]
theorem yO {m : List Cl} {k : Nat} {c : Cl} (h : c.val = m[k]!.val) (j : Nat) : vl (m.set k c) j = vl m j := by
 rw [F0]; split
 ·rename_i q; rw [h, q.1]; rfl
 ·rfl
theorem LB (m : List Cl) (x : Pt) (wr : Bool) (j : Nat) : vl (gG m x wr) j = vl m j := by
 unfold gG; split
 ·exact yO (by rfl) j
 ·rfl
theorem G7 (m : List Cl) (x : Pt) (j : Nat) : vl (jG m x) j = vl m j := by
 unfold jG; split
 ·exact yO (by rfl) j
 ·rfl
theorem MA (m : List Cl) (x : Pt) (b : Bool) (j : Nat) : vl (nX m x b) j = vl m j := by
 unfold nX; split
 ·exact yO (by rfl) j
 ·rfl
theorem M6 {m : List Cl} {x : Pt} {v : Int} (h : r7 m x v = 0) : cS m x true = 0 := by
 unfold r7 at h; split at h
 ·exact h
 ·cases h
theorem Kn {m : List Cl} {x : Pt} {v : Int} (h : r7 m x v = 0) (j : Nat) : vl (qK m x v) j = if x.cell.toNat = j then v else vl m j := by
 have hk := (eG (M6 h)).2.2
 unfold qK
 rw [if_pos h, F0]
 by_cases q : x.cell.toNat = j
 ·rw [if_pos ⟨q, hk⟩, if_pos q]
 ·rw [if_neg (fun z => q z.1), if_neg q]
theorem KH {m : List Cl} {n : Int} {j : Nat} (h : j ≤ m.length) : vl (m ++ [pX n]) j = if j = m.length then n else vl m j := by
 unfold vl
 by_cases q : j = m.length
 ·rw [if_pos q, q, C6]; rfl
 ·rw [if_neg q, l8 (by omega)]
theorem qP {x : Pnt} (A : PtA ts x) (hop : 1 ≤ x.op) (hx : x.op = 3 → x.x.toNat ≠ x.y.toNat) (h11 : x.op ≠ 11) (hgo : (dF ts s x).2 = -1) :
  (dF ts s x).1.cells.length = s.cells.length + (if x.op = 2 then 1 else 0) ∧
  ∀ j, j < (dF ts s x).1.cells.length → vl (dF ts s x).1.cells j = if x.op = 2 ∧ j = s.cells.length then x.n else if x.op = 7 ∧ s.slots[x.x.toNat]!.ptr.cell.toNat = j then s.slots[x.y.toNat]!.num else vl s.cells j := by
 have same : ∀ m : List Cl, x.op ≠ 2 → x.op ≠ 7 → (dF ts s x).1.cells = m → m.length = s.cells.length → (∀ j, vl m j = vl s.cells j) → (dF ts s x).1.cells.length = s.cells.length + (if x.op = 2 then 1 else 0) ∧
  ∀ j, j < (dF ts s x).1.cells.length → vl (dF ts s x).1.cells j = if x.op = 2 ∧ j = s.cells.length then x.n else if x.op = 7 ∧ s.slots[x.x.toNat]!.ptr.cell.toNat = j then s.slots[x.y.toNat]!.num else vl s.cells j := by
  intro m h2 h7 e el ev
  rw [e]
  refine ⟨by rw [if_neg h2, el]; rfl, fun j _ => ?_⟩
  rw [if_neg (fun q => h2 q.1), if_neg (fun q => h7 q.1), ev]
 by_cases h1 : x.op = 1
 ·exact same _ (by omega) (by omega) (FW A h1) rfl (fun _ => rfl)
 by_cases h2 : x.op = 2
 ·rw [GD h2 hgo]
  have key : ∀ m : List Cl, m.length = s.cells.length + 1 → (∀ j, vl m j = vl (s.cells ++ [pX x.n]) j) → m.length = s.cells.length + (if x.op = 2 then 1 else 0) ∧
   ∀ j, j < m.length → vl m j = if x.op = 2 ∧ j = s.cells.length then x.n else if x.op = 7 ∧ s.slots[x.x.toNat]!.ptr.cell.toNat = j then s.slots[x.y.toNat]!.num else vl s.cells j := by
   intro m e1 e2
   refine ⟨by rw [if_pos h2, e1], fun j hj => ?_⟩
   rw [e2, KH (by omega)]
   by_cases q : j = s.cells.length
   ·rw [if_pos q, if_pos ⟨h2, q⟩]
   ·rw [if_neg q, if_neg (fun z => q z.2), if_neg (fun z => by omega)]
  by_cases q : ts[x.x.toNat]! = 2 ∧ s.slots[x.x.toNat]!.set = true
  ·rw [if_pos q]; exact key (jG (s.cells ++ [pX x.n]) s.slots[x.x.toNat]!.ptr) (by rw [kH, List.length_append, List.length_singleton]) (fun j => G7 _ _ j)
  ·rw [if_neg q]; exact key (s.cells ++ [pX x.n]) (by rw [List.length_append, List.length_singleton]) (fun j => rfl)
 by_cases h3 : x.op = 3
 ·refine same _ (by omega) (by omega) (HM h3 (hx h3)) ?_ ?_
  ·split
   ·exact kH _ _
   ·rfl
  ·intro j; split
   ·exact G7 _ _ j
   ·rfl
 by_cases h4 : x.op = 4 ∨ x.op = 5
 ·exact same _ (by omega) (by omega) (wH A h4 hgo).2 (sG _ _ _) (MA _ _ _)
 by_cases h6 : x.op = 6
 ·exact same _ (by omega) (by omega) (oW A h6 hgo).2 (mV _ _ _) (LB _ _ _)
 by_cases h7 : x.op = 7
 ·obtain ⟨e1, e2⟩ := Df h7 hgo
  rw [e2]
  refine ⟨by rw [x8, if_neg h2]; rfl, fun j _ => ?_⟩
  rw [if_neg (fun q => h2 q.1), Kn e1]
  by_cases q : s.slots[x.x.toNat]!.ptr.cell.toNat = j
  ·rw [if_pos q, if_pos ⟨h7, q⟩]
  ·rw [if_neg q, if_neg (fun z => q z.2)]
 by_cases h8 : x.op = 8
 ·exact same _ (by omega) (by omega) (Gv h8 hgo).2 (kH _ _) (G7 _ _)
 ·exact same s.cells (by omega) (by omega) (by rw [wL (by omega) h11]) rfl (fun _ => rfl)
theorem Gq {x : Pnt} (h11 : x.op ≠ 11) (hgo : (dF ts s x).2 = -1) : (dF ts s x).1.read = if x.op = 6 then s.read ++ [wC s.cells s.slots[x.y.toNat]!.ptr] else s.read := by
 unfold dF at hgo ⊢
 by_cases h1 : x.op = 1
 ·rw [if_pos h1, fT, if_neg (by omega)]
 rw [if_neg h1] at hgo ⊢
 by_cases h2 : x.op = 2
 ·rw [if_pos h2] at hgo ⊢
  rw [if_neg (show ¬ x.op = 6 by omega)]
  split at hgo
  ·cases hgo
  ·rename_i q; rw [if_neg q, fT]
 rw [if_neg h2] at hgo ⊢
 by_cases h3 : x.op = 3
 ·rw [if_pos h3, fT, if_neg (show ¬ x.op = 6 by omega)]
  split <;> rfl
 rw [if_neg h3] at hgo ⊢
 by_cases h4 : x.op = 4 ∨ x.op = 5
 ·rw [if_pos h4] at hgo ⊢
  rw [if_neg (show ¬ x.op = 6 by omega)]
  split at hgo
  ·rename_i q; rw [if_pos q, fT]
  ·exact (nD hgo).elim
 rw [if_neg h4] at hgo ⊢
 by_cases h6 : x.op = 6
 ·rw [if_pos h6] at hgo ⊢
  rw [if_pos h6]
  split at hgo
  ·rename_i q; rw [if_pos q, fT]
  ·exact (nD hgo).elim
 rw [if_neg h6, if_neg h6]
 by_cases h7 : x.op = 7
 ·rw [if_pos h7]
 rw [if_neg h7]
 by_cases h8 : x.op = 8
 ·rw [if_pos h8]
 rw [if_neg h8, if_neg h11]
structure VE (ts : List Int) (π : Nat → Nat) (F : Nat → Prop) (r : Prop) (s t : Mc) : Prop where
 l : s.slots.length = ts.length ∧ t.slots.length = ts.length
 n : t.cells.length = s.cells.length
 c : ∀ j, j < s.cells.length → vl t.cells (π j) = vl s.cells j
 i : ∀ i j, π i = π j → i = j
 p : ∀ j, s.cells.length ≤ j → π j = j
 v : ∀ v, v < ts.length → F v → t.slots[v]!.set = s.slots[v]!.set ∧ t.slots[v]!.num = s.slots[v]!.num ∧ (2 ≤ ts[v]! → s.slots[v]!.set = true → t.slots[v]!.ptr.cell.toNat = π s.slots[v]!.ptr.cell.toNat)
 z : ∀ v, v < ts.length → ts[v]! = 1 → s.slots[v]!.ptr = ⟨0, 0⟩ ∧ t.slots[v]!.ptr = ⟨0, 0⟩
 r : r → t.read = s.read
theorem VE.mono {π : Nat → Nat} {F F' : Nat → Prop} {r : Prop} (h : VE ts π F r s t) (hF : ∀ v, F' v → F v) : VE ts π F' r s t := ⟨h.l, h.n, h.c, h.i, h.p, fun v hv q => h.v v hv (hF v q), h.z, h.r⟩
def Iz (ts : List Int) (s : Mc) : Prop := ∀ v, v < ts.length → ts[v]! = 1 → s.slots[v]!.ptr = ⟨0, 0⟩
theorem Iz.start : Iz ts (mc0 ts.length) := fun v hv _ => by
 show ((List.replicate ts.length jZ)[v]!).ptr = _
 rw [cK _ _ (by simpa using hv)]; simp [jZ]
theorem VE.refl (h : Iz ts s) (hl : s.slots.length = ts.length) (F : Nat → Prop) (r : Prop) : VE ts (fun j => j) F r s s :=
 ⟨⟨hl, hl⟩, rfl, fun _ _ => rfl, fun _ _ e => e, fun _ _ => rfl, fun _ _ _ => ⟨rfl, rfl, fun _ _ => rfl⟩, fun v hv h1 => ⟨h v hv h1, h v hv h1⟩, fun _ => rfl⟩
theorem LW (h : Iz ts s) {x : Pnt} (A : PtA ts x) {v : Nat} (hop : 1 ≤ x.op ∧ x.op ≤ 6) (hxv : x.x = (v : Int)) (hy : 3 ≤ x.op → 0 ≤ x.y ∧ x.y < ts.length) (h1 : ts[v]! = 1) : (yF s x).ptr = ⟨0, 0⟩ := by
 have hv : x.x.toNat = v := by omega
 have t2 := A.t2
 have t3 := A.t3
 have t4 := A.t4
 have t5 := A.t5
 rw [hv, h1] at t2 t3 t4 t5
 unfold yF
 by_cases c1 : x.op = 1
 ·rw [if_pos c1]
 rw [if_neg c1]
 by_cases c2 : x.op = 2
 ·have := t2 (.inl c2); omega
 rw [if_neg c2]
 by_cases c3 : x.op = 3
 ·rw [if_pos c3]
  have := hy (by omega)
  exact h _ (by omega) (t3 c3).1.symm
 rw [if_neg c3]
 by_cases c4 : x.op = 4 ∨ x.op = 5
 ·exfalso
  rcases c4 with c4 | c4
  ·have := (t4 c4).1; omega
  ·have := (t5 c4).1; omega
 rw [if_neg c4]
theorem Iz.step (w : WG ts P) (A : WA ts P) {a : Nat} (ha : a < P.length) (hl : s.slots.length = ts.length) (h : Iz ts s) (hu : dB ts s P[a]! = false) (h11 : P[a]!.op ≠ 11) (hgo : (dF ts s P[a]!).2 = -1) : Iz ts (dF ts s P[a]!).1 := by
 intro v hv h1
 rw [w.doY A ha hl hu h11 hgo v hv]
 by_cases q : bD P[a]! = (v : Int)
 ·rw [if_pos q]
  have hop : 1 ≤ P[a]!.op ∧ P[a]!.op ≤ 6 := by
   apply Classical.byContradiction; intro hh
   unfold bD at q; rw [if_neg hh] at q; omega
  rw [fS hop] at q
  exact LW h (A.a a ha) hop q (fun h3 => ⟨(w.y a ha).1, (w.y a ha).2 h3 (by omega)⟩) h1
 ·rw [if_neg q]
  split
  ·rfl
  ·exact h v hv h1
end
end Go.AL
namespace Go.AL
section
variable {ts : List Int} {P Q : List Pnt} {s t : Mc}
theorem Ad {m : List Cl} {x : Pt} (h : cS m x false = 0) : wC m x = vl m x.cell.toNat := by unfold wC; rw [if_pos h]; rfl
theorem VE.lt {π : Nat → Nat} {F : Nat → Prop} {r : Prop} (h : VE ts π F r s t) {j : Nat} (hj : j < s.cells.length) : π j < s.cells.length := by
 apply Classical.byContradiction; intro q
 have := h.i _ _ (h.p (π j) (by omega))
 omega
theorem VE.yF {π : Nat → Nat} {F : Nat → Prop} {r : Prop} (h : VE ts π F r s t) (w : WG ts P) (A : WA ts P) {a : Nat} (ha : a < P.length) (hu : dB ts s P[a]! = false) (hgo : (dF ts s P[a]!).2 = -1) (hgo' : (dF ts t P[a]!).2 = -1)
  (hF : ∀ v, v < ts.length → bQ ts P[a]! v ≠ 0 → F v) {v : Nat} (q : bD P[a]! = (v : Int)) :
  (yF t P[a]!).set = (yF s P[a]!).set ∧ (yF t P[a]!).num = (yF s P[a]!).num ∧ (2 ≤ ts[v]! → (yF s P[a]!).set = true → (yF t P[a]!).ptr.cell.toNat = π (yF s P[a]!).ptr.cell.toNat) := by
 have hop : 1 ≤ P[a]!.op ∧ P[a]!.op ≤ 6 := by
  apply Classical.byContradiction; intro hh
  unfold bD at q; rw [if_neg hh] at q; omega
 rw [fS hop] at q
 have PA := A.a a ha
 have hy := w.y a ha
 have hv' : P[a]!.x.toNat = v := by omega
 have t1 := PA.t1
 have t3 := PA.t3
 have t4 := PA.t4
 have t5 := PA.t5
 have t6 := PA.t6
 rw [hv'] at t1 t3 t4 t5 t6
 unfold Go.AL.yF
 by_cases c1 : P[a]!.op = 1
 ·rw [if_pos c1, if_pos c1]
  exact ⟨rfl, rfl, fun h2 => by have := t1 c1; omega⟩
 rw [if_neg c1, if_neg c1]
 by_cases c2 : P[a]!.op = 2
 ·rw [if_pos c2, if_pos c2]
  refine ⟨rfl, rfl, fun _ _ => ?_⟩
  dsimp only
  rw [h.n, Int.toNat_natCast, h.p _ (Nat.le_refl _)]
 rw [if_neg c2, if_neg c2]
 have hyb : 0 ≤ P[a]!.y ∧ P[a]!.y < ts.length := ⟨hy.1, hy.2 (by omega) (by omega)⟩
 have hyn : ((P[a]!.y.toNat : Nat) : Int) = P[a]!.y := by omega
 have hyl : P[a]!.y.toNat < ts.length := by omega
 by_cases c3 : P[a]!.op = 3
 ·rw [if_pos c3, if_pos c3]
  have hf := hF _ hyl (xM c3 hyn)
  have hh := h.v _ hyl hf
  refine ⟨hh.1, hh.2.1, fun h2 hs => hh.2.2 ?_ hs⟩
  rw [← (t3 c3).1]; exact h2
 rw [if_neg c3, if_neg c3]
 have hus : bQ ts P[a]! (P[a]!.y.toNat : Nat) ≠ 0 := jK (by omega) hyn
 have hf := hF _ hyl hus
 have hset := fR hu hyl hus
 have hh := h.v _ hyl hf
 by_cases c4 : P[a]!.op = 4 ∨ P[a]!.op = 5
 ·rw [if_pos c4, if_pos c4]
  refine ⟨rfl, rfl, fun _ _ => ?_⟩
  dsimp only
  unfold BT
  rw [if_pos (wH PA c4 hgo).1, if_pos (wH PA c4 hgo').1]
  refine hh.2.2 ?_ hset
  rcases c4 with c4 | c4
  ·exact (t4 c4).2.2
  ·have := (t5 c4).2.2; omega
 rw [if_neg c4, if_neg c4]
 have c6 : P[a]!.op = 6 := by omega
 have k1 := (oW PA c6 hgo).1
 have k2 := (oW PA c6 hgo').1
 refine ⟨rfl, ?_, fun h2 => by have := (t6 c6).1; omega⟩
 dsimp only
 rw [Ad k1, Ad k2, hh.2.2 (t6 c6).2 hset, h.c _ (eG k1).2.2]
theorem VE.step {π : Nat → Nat} {F : Nat → Prop} {r : Prop} (h : VE ts π F r s t) (w : WG ts P) (A : WA ts P) {a : Nat} (ha : a < P.length) (hu : dB ts s P[a]! = false) (hu' : dB ts t P[a]! = false) (h11 : P[a]!.op ≠ 11)
  (hgo : (dF ts s P[a]!).2 = -1) (hgo' : (dF ts t P[a]!).2 = -1) (hF : ∀ v, v < ts.length → bQ ts P[a]! v ≠ 0 → F v) :
  VE ts π (fun v => F v ∨ bD P[a]! = (v : Int)) r (dF ts s P[a]!).1 (dF ts t P[a]!).1 := by
 have PA := A.a a ha
 have hx := w.x a ha
 have hy := w.y a ha
 have hop := w.op a ha
 have ne3 : P[a]!.op = 3 → P[a]!.x.toNat ≠ P[a]!.y.toNat := fun c q => by
  have := (PA.t3 c).2; omega
 obtain ⟨e1, e2⟩ := qP (s := s) PA hop.1 ne3 h11 hgo
 obtain ⟨e1', e2'⟩ := qP (s := t) PA hop.1 ne3 h11 hgo'
 have hn := h.n
 refine ⟨⟨by rw [gH]; exact h.l.1, by rw [gH]; exact h.l.2⟩, by rw [e1, e1', hn], fun j hj => ?_, h.i, fun j hj => h.p j (by omega), fun v hv hf => ?_, fun v hv h1 => ?_, fun hr => ?_⟩
 ·rw [e2 j hj]
  rw [e1] at hj
  by_cases q : P[a]!.op = 2 ∧ j = s.cells.length
  ·have hp := h.p j (by omega)
   rw [if_pos q, hp, e2' j (by rw [e1', if_pos q.1]; omega), if_pos ⟨q.1, by omega⟩]
  ·have hjl : j < s.cells.length := by
    by_cases q2 : P[a]!.op = 2
    ·rw [if_pos q2] at hj
     have : j ≠ s.cells.length := fun z => q ⟨q2, z⟩
     omega
    ·rw [if_neg q2] at hj; omega
   have hpj := h.lt hjl
   rw [if_neg q, e2' (π j) (by rw [e1']; omega), if_neg (fun z => by omega)]
   by_cases c7 : P[a]!.op = 7
   ·have hxl : P[a]!.x.toNat < ts.length := by have := hx.2 (by omega); omega
    have hyl : P[a]!.y.toNat < ts.length := by have := hy.2 (by omega) (by omega); omega
    have ux : bQ ts P[a]! (P[a]!.x.toNat : Nat) ≠ 0 := Av c7 (by omega)
    have uy : bQ ts P[a]! (P[a]!.y.toNat : Nat) ≠ 0 := by
     unfold bQ; rw [if_neg (by omega), if_neg (by omega), if_pos c7]
     split
     ·decide
     ·rw [if_pos (by omega)]; decide
    have vx := (h.v _ hxl (hF _ hxl ux)).2.2 (by rcases (PA.t7 c7).1 with z | z <;> omega) (fR hu hxl ux)
    have vy := (h.v _ hyl (hF _ hyl uy)).2.1
    by_cases z : s.slots[P[a]!.x.toNat]!.ptr.cell.toNat = j
    ·rw [if_pos ⟨c7, by rw [vx, z]⟩, if_pos ⟨c7, z⟩, vy]
    ·rw [if_neg (fun y => z (h.i _ _ (by rw [← vx]; exact y.2))), if_neg (fun y => z y.2), h.c j hjl]
   ·rw [if_neg (fun z => c7 z.1), if_neg (fun z => c7 z.1), h.c j hjl]
 ·rw [w.doY A ha h.l.1 hu h11 hgo v hv, w.doY A ha h.l.2 hu' h11 hgo' v hv]
  by_cases q : bD P[a]! = (v : Int)
  ·rw [if_pos q, if_pos q]
   exact h.yF w A ha hu hgo hgo' hF q
  ·rw [if_neg q, if_neg q]
   by_cases q2 : bQ ts P[a]! v = 2
   ·rw [if_pos q2, if_pos q2]
    exact ⟨rfl, rfl, fun _ z => by cases z⟩
   ·rw [if_neg q2, if_neg q2]
    exact h.v v hv (hf.resolve_right q)
 ·exact ⟨Iz.step w A ha h.l.1 (fun v hv h1 => (h.z v hv h1).1) hu h11 hgo v hv h1, Iz.step w A ha h.l.2 (fun v hv h1 => (h.z v hv h1).2) hu' h11 hgo' v hv h1⟩
 ·rw [Gq h11 hgo, Gq h11 hgo']
  by_cases c6 : P[a]!.op = 6
  ·rw [if_pos c6, if_pos c6, h.r hr]
   have hyl : P[a]!.y.toNat < ts.length := by have := hy.2 (by omega) (by omega); omega
   have uy : bQ ts P[a]! (P[a]!.y.toNat : Nat) ≠ 0 := jK (by omega) (by omega)
   have k1 := (oW PA c6 hgo).1
   have k2 := (oW PA c6 hgo').1
   rw [Ad k1, Ad k2, (h.v _ hyl (hF _ hyl uy)).2.2 (PA.t6 c6).2 (fR hu hyl uy), h.c _ (eG k1).2.2]
  ·rw [if_neg c6, if_neg c6]; exact h.r hr
theorem j9 {n i : Nat} {cs : List Int} {l : Nat} (h11 : P[i]!.op = 11) (h : (iO ts P n i cs s l).2.1 = 0) : (iO ts P n i cs s l).1 = (dU ts ts.length 0 s).1 ∧ (dU ts ts.length 0 s).2 = 0 := by
 rw [pM h11, L9] at h ⊢
 by_cases q : dB ts s P[i]! = true
 ·rw [if_pos q] at h; cases h
 ·rw [if_neg q] at h ⊢
  by_cases q2 : (dF ts s P[i]!).2 = -1
  ·rw [if_pos q2] at h; cases h
  ·rw [if_neg q2] at h ⊢
   rw [rK h11] at h ⊢
   exact ⟨rfl, h⟩
theorem y5 {n i : Nat} {cs : List Int} {l : Nat} (h11 : P[i]!.op ≠ 11) (h : (iO ts P n i cs s l).2.1 = 0) : ∃ n', n = n' + 1 ∧ dB ts s P[i]! = false ∧ (dF ts s P[i]!).2 = -1 ∧ iO ts P n i cs s l = iO ts P n' (eE P i cs).1 (eE P i cs).2 (dF ts s P[i]!).1 i := by
 cases n with
 | zero => rw [qE h11] at h; cases h
 | succ n =>
  rw [GK h11] at h ⊢
  by_cases q : dB ts s P[i]! = true
  ·rw [if_pos q] at h; cases h
  ·rw [if_neg q] at h ⊢
   by_cases q2 : (dF ts s P[i]!).2 = -1
   ·rw [if_pos q2]; exact ⟨n, rfl, by simpa using q, q2, rfl⟩
   ·rw [if_neg q2] at h
    dsimp only at h
    rcases yA (ts := ts) (s := s) h11 with e | e | e | e
    ·exact absurd e q2
    all_goals (rw [e] at h; cases h)
theorem D7 {i k : Nat} {cs : List Int} (h : P[i]!.next = [(k : Int)]) : eE P i cs = (k, cs) := by unfold eE; rw [h]; rfl
structure Bis (ts : List Int) (P Q : List Pnt) (R : Nat → Nat → Nat → Mc → Mc → Prop) : Prop where
 h : ∀ n i j s t, R n i j s t → (P[i]!.op = 11 ∧ Q[j]!.op = 11) ∨
  (P[i]!.op ≠ 11 ∧ ∃ k : Nat, P[i]!.next = [(k : Int)] ∧ ∀ n', n = n' + 1 → dB ts s P[i]! = false → (dF ts s P[i]!).2 = -1 → R n' k j (dF ts s P[i]!).1 t) ∨
  (Q[j]!.op ≠ 11 ∧ ∃ k : Nat, Q[j]!.next = [(k : Int)] ∧ (dB ts t Q[j]! = false → (dF ts t Q[j]!).2 = -1 → R n i k s (dF ts t Q[j]!).1)) ∨
  (P[i]!.op ≠ 11 ∧ Q[j]!.op ≠ 11 ∧ ∀ n' cs, n = n' + 1 → dB ts s P[i]! = false → (dF ts s P[i]!).2 = -1 → dB ts t Q[j]! = false → (dF ts t Q[j]!).2 = -1 →
   (eE P i cs).2 = (eE Q j cs).2 ∧ R n' (eE P i cs).1 (eE Q j cs).1 (dF ts s P[i]!).1 (dF ts t Q[j]!).1)
theorem Bis.run {R : Nat → Nat → Nat → Mc → Mc → Prop} (H : Bis ts P Q R) : ∀ N n m, n + m ≤ N → ∀ i j cs s t l l', R n i j s t → (iO ts P n i cs s l).2.1 = 0 → (iO ts Q m j cs t l').2.1 = 0 →
  ∃ n' i' j' s' t', R n' i' j' s' t' ∧ P[i']!.op = 11 ∧ (iO ts P n i cs s l).1 = (dU ts ts.length 0 s').1 ∧ (dU ts ts.length 0 s').2 = 0 ∧ (iO ts Q m j cs t l').1 = (dU ts ts.length 0 t').1 ∧ (dU ts ts.length 0 t').2 = 0 := by
 intro N
 induction N with
 | zero =>
  intro n m hN i j cs s t l l' hR h1 h2
  have hn : n = 0 := by omega
  have hm : m = 0 := by omega
  subst hn hm
  rcases H.h _ _ _ _ _ hR with ⟨a, b⟩ | ⟨a, _⟩ | ⟨a, _⟩ | ⟨a, _⟩
  ·exact ⟨_, _, _, _, _, hR, a, (j9 a h1).1, (j9 a h1).2, (j9 b h2).1, (j9 b h2).2⟩
  ·rw [qE a] at h1; cases h1
  ·rw [qE a] at h2; cases h2
  ·rw [qE a] at h1; cases h1
 | succ N IH =>
  intro n m hN i j cs s t l l' hR h1 h2
  rcases H.h _ _ _ _ _ hR with ⟨a, b⟩ | ⟨a, k, b, c⟩ | ⟨a, k, b, c⟩ | ⟨a, b, c⟩
  ·exact ⟨_, _, _, _, _, hR, a, (j9 a h1).1, (j9 a h1).2, (j9 b h2).1, (j9 b h2).2⟩
  ·obtain ⟨n', rfl, p1, p2, p3⟩ := y5 a h1
   rw [D7 b] at p3
   rw [p3] at h1 ⊢
   exact IH n' m (by omega) k j cs _ t _ l' (c n' rfl p1 p2) h1 h2
  ·obtain ⟨m', rfl, p1, p2, p3⟩ := y5 a h2
   rw [D7 b] at p3
   rw [p3] at h2 ⊢
   exact IH n m' (by omega) i k cs s _ l _ (c p1 p2) h1 h2
  ·obtain ⟨n', rfl, p1, p2, p3⟩ := y5 a h1
   obtain ⟨m', rfl, q1, q2, q3⟩ := y5 b h2
   obtain ⟨c1, c2⟩ := c n' cs rfl p1 p2 q1 q2
   rw [p3] at h1 ⊢
   rw [q3, ← c1] at h2 ⊢
   exact IH n' m' (by omega) _ _ _ _ _ _ _ c2 h1 h2
end
end Go.AL
namespace Go.AL
theorem nZ {s : Stmt} (h : s.op ≠ 9 ∧ s.op ≠ 10) : p9 s = 1 := Dp s h.1 h.2
def FV (s : Stmt) (at_ : Nat) : Pnt := ⟨s.op, s.x, s.y, s.n, [(at_ : Int) + 1]⟩
theorem pZ {p : Prg} {k : Nat} (hk : k < p.body.length) (hs : p.body[k]!.op ≠ 9 ∧ p.body[k]!.op ≠ 10) :
  bX p = fB 0 (p.body.take k) ++ FV p.body[k]! (dK (p.body.take k)) :: (fB (dK (p.body.take k) + 1) (p.body.drop (k + 1)) ++ [⟨11, 0, 0, 0, []⟩]) := by
 have eb : p.body = p.body.take k ++ p.body[k]! :: p.body.drop (k + 1) := by
  have := List.take_append_drop k p.body
  rw [oF _ _ hk] at this; exact this.symm
 unfold bX
 conv => lhs; rw [eb]
 rw [jX, fB, gW, if_neg hs.1, if_neg hs.2, nZ hs, Nat.zero_add]
 simp only [List.append_assoc, List.cons_append, List.nil_append]
 rfl
structure Top (pts : List Pnt) (a : Nat) : Prop where
 n : pts[a]!.next = [(a : Int) + 1]
 l : a + 1 < pts.length
 lo : ∀ i, i < a → ∀ k ∈ pts[i]!.next, k ≤ (a : Int)
 hi : ∀ i, a < i → ∀ k ∈ pts[i]!.next, (a : Int) + 1 ≤ k
theorem Top.of {p : Prg} {k : Nat} (hk : k < p.body.length) (hs : p.body[k]!.op ≠ 9 ∧ p.body[k]!.op ≠ 10) : Top (bX p) (dK (p.body.take k)) ∧ (bX p)[dK (p.body.take k)]! = FV p.body[k]! (dK (p.body.take k)) := by
 have e := pZ hk hs
 have hA : (fB 0 (p.body.take k)).length = dK (p.body.take k) := dD _ _
 have hB : (fB (dK (p.body.take k) + 1) (p.body.drop (k + 1))).length = dK (p.body.drop (k + 1)) := dD _ _
 have loA := qT (p.body.take k) 0
 have M4 := qT (p.body.drop (k + 1)) (dK (p.body.take k) + 1)
 generalize dK (p.body.take k) = a at *
 rw [e]
 have get : ∀ i, (fB 0 (p.body.take k) ++ FV p.body[k]! a :: (fB (a + 1) (p.body.drop (k + 1)) ++ [⟨11, 0, 0, 0, []⟩]))[i]! = if i < a then (fB 0 (p.body.take k))[i]! else if i - a < 1 then FV p.body[k]! a else
   if i - a - 1 < dK (p.body.drop (k + 1)) then (fB (a + 1) (p.body.drop (k + 1)))[i - a - 1]! else [(⟨11, 0, 0, 0, []⟩ : Pnt)][i - a - 1 - dK (p.body.drop (k + 1))]! := fun i => by
  rw [lA hA, Ai, lA hB]
 have ga := get a
 rw [if_neg (by omega), if_pos (by omega)] at ga
 refine ⟨⟨by rw [ga]; rfl, ?_, fun i hi z hz => ?_, fun i hi z hz => ?_⟩, ga⟩
 ·simp only [List.length_append, List.length_cons, List.length_nil, hA]; omega
 ·rw [get i, if_pos hi] at hz
  have := loA _ (b9 _ _ (by omega)) z hz
  omega
 ·rw [get i, if_neg (by omega), if_neg (by omega)] at hz
  by_cases q : i - a - 1 < dK (p.body.drop (k + 1))
  ·rw [if_pos q] at hz
   have := M4 _ (b9 _ _ (by omega)) z hz
   omega
  ·rw [if_neg q] at hz
   by_cases q2 : i - a - 1 - dK (p.body.drop (k + 1)) < 1
   ·rw [show i - a - 1 - dK (p.body.drop (k + 1)) = 0 by omega] at hz
    cases hz
   ·rw [getElem!_neg _ _ (by simp; omega)] at hz
    cases hz
section
variable {ts : List Int} {P Q : List Pnt} {a : Nat}
theorem Top.from (T : Top P a) {i k : Nat} (he : edge P i k) : (i < a → k ≤ a) ∧ (i = a → k = a + 1) ∧ (a < i → a + 1 ≤ k) := by
 refine ⟨fun h => ?_, fun h => ?_, fun h => ?_⟩
 ·have := T.lo i h _ he.2; omega
 ·have := he.2
  rw [h, T.n, List.mem_singleton] at this; omega
 ·have := T.hi i h _ he.2; omega
theorem Top.edge (T : Top P a) : edge P a (a + 1) := ⟨by have := T.l; omega, by rw [T.n]; simp⟩
theorem JF (hop : ∀ i : Nat, P[i]!.op = 11 ↔ Q[i]!.op = 11) (hn : ∀ i : Nat, P[i]!.next = Q[i]!.next) : ∀ n a cs (s t : Mc) l l', s.cells.length + n ≤ 199 → t.cells.length + n ≤ 199 →
  ((iO ts P n a cs s l).2.1 = 0 ∨ (iO ts P n a cs s l).2.1 = 1) → ((iO ts Q n a cs t l').2.1 = 0 ∨ (iO ts Q n a cs t l').2.1 = 1) → (iO ts P n a cs s l).2.1 = (iO ts Q n a cs t l').2.1 := by
 have stop : ∀ (P : List Pnt) (s : Mc) a l, P[a]!.op = 11 → ((gI ts P [a] s l).2.1 = 0 ∨ (gI ts P [a] s l).2.1 = 1) → (gI ts P [a] s l).2.1 = 0 := by
  intro P s a l h11 h
  rw [L9, rK h11] at h ⊢
  by_cases q : dB ts s P[a]! = true
  ·rw [if_pos q] at h
   rcases h with h | h <;> cases h
  ·rw [if_neg q] at h ⊢
   have hf := nP ts ts.length 0 s
   by_cases q2 : (dU ts ts.length 0 s).2 = -1
   ·rcases hf with e | e | e <;> (rw [e] at q2; cases q2)
   ·rw [if_neg q2] at h ⊢
    dsimp only at h ⊢
    rcases h with h | h
    ·exact h
    ·rcases hf with e | e | e <;> (rw [e] at h; cases h)
 have step : ∀ (P : List Pnt) (s : Mc) n a cs l, P[a]!.op ≠ 11 → s.cells.length < 200 → ((iO ts P (n + 1) a cs s l).2.1 = 0 ∨ (iO ts P (n + 1) a cs s l).2.1 = 1) → iO ts P (n + 1) a cs s l = iO ts P n (eE P a cs).1 (eE P a cs).2 (dF ts s P[a]!).1 a := by
  intro P s n a cs l h11 hc h
  rw [GK h11] at h ⊢
  by_cases q : dB ts s P[a]! = true
  ·rw [if_pos q] at h
   rcases h with h | h <;> cases h
  ·rw [if_neg q] at h ⊢
   by_cases q2 : (dF ts s P[a]!).2 = -1
   ·rw [if_pos q2]
   ·exfalso
    rw [if_neg q2] at h
    dsimp only at h
    rcases yA (ts := ts) (s := s) h11 with e | e | e | e
    ·exact q2 e
    ·-- only a new cell may be refused
     unfold dF at e
     by_cases h1 : P[a]!.op = 1
     ·rw [if_pos h1] at e
      rcases nO ts s P[a]!.x.toNat ⟨true, P[a]!.n, ⟨0, 0⟩⟩ with z | z | z <;> (rw [z] at e; cases e)
     rw [if_neg h1] at e
     by_cases h2 : P[a]!.op = 2
     ·rw [if_pos h2, if_neg (by omega)] at e
      rcases nO ts ⟨s.slots, s.cells ++ [pX P[a]!.n], s.read⟩ P[a]!.x.toNat ⟨true, 0, ⟨s.cells.length, 0⟩⟩ with z | z | z <;> (rw [z] at e; cases e)
     rw [if_neg h2] at e
     by_cases h3 : P[a]!.op = 3
     ·rw [if_pos h3] at e
      rcases nO ts (if Ea ts[P[a]!.y.toNat]! = true then ⟨s.slots.set P[a]!.y.toNat jZ, s.cells, s.read⟩ else s) P[a]!.x.toNat s.slots[P[a]!.y.toNat]! with z | z | z <;> (rw [z] at e; cases e)
     rw [if_neg h3] at e
     by_cases h4 : P[a]!.op = 4 ∨ P[a]!.op = 5
     ·rw [if_pos h4] at e
      split at e
      ·rcases nO ts ⟨s.slots, nX s.cells s.slots[P[a]!.y.toNat]!.ptr (decide (P[a]!.op = 5)), s.read⟩ P[a]!.x.toNat ⟨true, 0, BT s.cells s.slots[P[a]!.y.toNat]!.ptr (decide (P[a]!.op = 5))⟩ with z | z | z <;> (rw [z] at e; cases e)
      ·rcases lR (rX s.cells s.slots[P[a]!.y.toNat]!.ptr (decide (P[a]!.op = 5))) with z | z <;> (rw [z] at e; cases e)
     rw [if_neg h4] at e
     by_cases h6 : P[a]!.op = 6
     ·rw [if_pos h6] at e
      split at e
      ·rcases nO ts ⟨s.slots, gG s.cells s.slots[P[a]!.y.toNat]!.ptr false, s.read ++ [wC s.cells s.slots[P[a]!.y.toNat]!.ptr]⟩ P[a]!.x.toNat ⟨true, wC s.cells s.slots[P[a]!.y.toNat]!.ptr, ⟨0, 0⟩⟩ with z | z | z <;> (rw [z] at e; cases e)
      ·rcases lR (cS s.cells s.slots[P[a]!.y.toNat]!.ptr false) with z | z <;> (rw [z] at e; cases e)
     rw [if_neg h6] at e
     by_cases h7 : P[a]!.op = 7
     ·rw [if_pos h7] at e
      rcases xT (r7 s.cells s.slots[P[a]!.x.toNat]!.ptr s.slots[P[a]!.y.toNat]!.num) with z | z | z <;> (rw [z] at e; cases e)
     rw [if_neg h7] at e
     by_cases h8 : P[a]!.op = 8
     ·rw [if_pos h8] at e
      rcases xT (cS s.cells s.slots[P[a]!.x.toNat]!.ptr true) with z | z | z <;> (rw [z] at e; cases e)
     rw [if_neg h8, if_neg h11] at e
     cases e
    ·rw [e] at h; rcases h with h | h <;> cases h
    ·rw [e] at h; rcases h with h | h <;> cases h
 intro n
 induction n with
 | zero =>
  intro a cs s t l l' h1 h2 h3 h4
  by_cases h11 : P[a]!.op = 11
  ·rw [pM h11] at h3 ⊢
   rw [pM ((hop a).1 h11)] at h4 ⊢
   rw [stop P s a l h11 h3, stop Q t a l' ((hop a).1 h11) h4]
  ·rw [qE h11, qE (fun q => h11 ((hop a).2 q))]
 | succ n IH =>
  intro a cs s t l l' h1 h2 h3 h4
  by_cases h11 : P[a]!.op = 11
  ·rw [pM h11] at h3 ⊢
   rw [pM ((hop a).1 h11)] at h4 ⊢
   rw [stop P s a l h11 h3, stop Q t a l' ((hop a).1 h11) h4]
  ·have e1 := step P s n a cs l h11 (by omega) h3
   have e2 := step Q t n a cs l' (fun q => h11 ((hop a).2 q)) (by omega) h4
   have c1 := z7 ts s P[a]!
   have c2 := z7 ts t Q[a]!
   have es : eE Q a cs = eE P a cs := by unfold eE; rw [hn a]
   rw [es] at e2
   rw [e1] at h3 ⊢
   rw [e2] at h4 ⊢
   exact IH _ _ _ _ _ _ (by omega) (by omega) h3 h4
end
end Go.AL
namespace Go.AL
theorem Km {ts : List Int} {P : List Pnt} (A : WA ts P) {b : Nat × Nat × Nat} (h : yY ts P b) : ts[b.2.1]! = 3 ∨ ts[b.2.1]! = 4 := by
 have ln : ∀ (i v : Nat), i < P.length → dZ P[i]! = true → bD P[i]! = (v : Int) → ts[v]! = 3 ∨ ts[v]! = 4 := by
  intro i v hi hl hs
  have hop := DR hl
  rw [fS (by omega)] at hs
  have hv : P[i]!.x.toNat = v := by omega
  have t4 := (A.a i hi).t4
  have t5 := (A.a i hi).t5
  rw [hv] at t4 t5
  rcases hop with q | q
  ·exact .inl (t4 q).1
  ·exact .inr (t5 q).1
 induction h with
 | base h =>
  obtain ⟨he, hl, hs⟩ := h
  exact ln _ _ he.1 hl hs
 | @step x y _ r ih =>
  obtain ⟨r1, r2, r3⟩ := r
  rcases r3 with ⟨_, r5, _⟩ | ⟨r4, r5, r6 | r6⟩
  ·rw [r5]; exact ih
  ·exact ln _ _ r2.1 r6.1 r4
  ·have ht := ((A.a _ r2.1).t3 r6).1
   rw [fS (by omega)] at r4
   rw [show P[x.1]!.x.toNat = y.2.1 by omega, show P[x.1]!.y.toNat = x.2.1 by omega] at ht
   rw [ht]; exact ih
structure Fwd (ts : List Int) (P Q : List Pnt) (a X Y Z : Nat) : Prop where
 t1 : Top P a
 t2 : Top P (a + 1)
 p1 : P[a]!.op = 7 ∧ P[a]!.x = (X : Int) ∧ P[a]!.y = (Y : Int)
 p2 : P[a + 1]!.op = 6 ∧ P[a + 1]!.x = (Z : Int) ∧ P[a + 1]!.y = (X : Int)
 q2 : Q[a + 1]!.op = 3 ∧ Q[a + 1]!.x = (Z : Int) ∧ Q[a + 1]!.y = (Y : Int) ∧ Q[a + 1]!.next = P[a + 1]!.next
 ne : ∀ i, i ≠ a + 1 → Q[i]! = P[i]!
 l : Q.length = P.length
 xl : X < ts.length
 yl : Y < ts.length
 zl : Z < ts.length
 tx : 2 ≤ ts[X]!
 ty : ts[Y]! = 1
 tz : ts[Z]! = 1
 yz : Y ≠ Z
section
variable {ts : List Int} {P Q : List Pnt} {a X Y Z : Nat}
theorem Fwd.nx (F : Fwd ts P Q a X Y Z) (i : Nat) : Q[i]!.next = P[i]!.next := by
 by_cases q : i = a + 1
 ·rw [q]; exact F.q2.2.2.2
 ·rw [F.ne i q]
theorem Fwd.edge (F : Fwd ts P Q a X Y Z) {i k : Nat} : edge Q i k ↔ edge P i k := by unfold Go.AL.edge; rw [F.l, F.nx]
theorem Fwd.set (F : Fwd ts P Q a X Y Z) (i : Nat) : bD Q[i]! = bD P[i]! := by
 by_cases q : i = a + 1
 ·have := F.q2
  have := F.p2
  rw [q, fS (by omega), fS (by omega)]; omega
 ·rw [F.ne i q]
theorem Fwd.ln (F : Fwd ts P Q a X Y Z) (i : Nat) : dZ Q[i]! = dZ P[i]! := by
 by_cases q : i = a + 1
 ·have := F.q2
  have := F.p2
  unfold dZ
  rw [q, decide_eq_false (by omega), decide_eq_false (by omega), decide_eq_false (by omega), decide_eq_false (by omega)]
 ·rw [F.ne i q]
theorem Fwd.usQ (F : Fwd ts P Q a X Y Z) (v : Nat) : bQ ts Q[a + 1]! v = if v = Y then 1 else 0 := by
 have h := F.q2
 have ht := F.ty
 unfold bQ
 rw [if_pos h.1, h.2.2.1]
 by_cases q : v = Y
 ·rw [if_pos (by omega), if_pos q, if_neg]
  rw [Int.toNat_natCast, q, ht]; omega
 ·rw [if_neg (by omega), if_neg q]
theorem Fwd.usP (F : Fwd ts P Q a X Y Z) (v : Nat) : bQ ts P[a + 1]! v = if v = X then 3 else 0 := by
 have h := F.p2
 unfold bQ
 rw [if_neg (by omega), if_pos (by omega), h.2.2]
 by_cases q : v = X
 ·rw [if_pos (by omega), if_pos q]
 ·rw [if_neg (by omega), if_neg q]
theorem Fwd.us2 (F : Fwd ts P Q a X Y Z) (i v : Nat) : bQ ts Q[i]! v = 2 ↔ bQ ts P[i]! v = 2 := by
 by_cases q : i = a + 1
 ·rw [q, F.usQ, F.usP]
  split <;> split <;> decide
 ·rw [F.ne i q]
theorem Fwd.usY (F : Fwd ts P Q a X Y Z) : bQ ts P[a]! Y = 1 := by
 have h := F.p1
 have hx := F.tx
 have hy := F.ty
 unfold bQ
 rw [if_neg (by omega), if_neg (by omega), if_pos h.1, if_neg, if_pos (by omega)]
 intro q
 have : Y = X := by omega
 rw [this] at hy; omega
theorem Fwd.Na (F : Fwd ts P Q a X Y Z) {b : Nat × Nat} (h : Na ts Q b) : Go.AL.Na ts P b := by
 induction h with
 | base h =>
  obtain ⟨hv, h | ⟨i, he, hu, hs⟩⟩ := h
  ·exact .base ⟨hv, .inl h⟩
  ·exact .base ⟨hv, .inr ⟨i, F.edge.1 he, (F.us2 _ _).1 hu, by rw [← F.set]; exact hs⟩⟩
 | step _ r ih => exact .step ih ⟨r.1, F.edge.1 r.2.1, by rw [← F.set]; exact r.2.2⟩
theorem Fwd.Mb (F : Fwd ts P Q a X Y Z) {b : Nat × Nat} (h : Mb ts Q b) : Go.AL.Mb ts P b := by
 induction h with
 | base h =>
  obtain ⟨i, he, hs⟩ := h
  exact .base ⟨i, F.edge.1 he, by rw [← F.set]; exact hs⟩
 | step _ r ih => exact .step ih ⟨r.1, F.edge.1 r.2.1, fun q => r.2.2 ((F.us2 _ _).2 q)⟩
theorem Fwd.Nd (F : Fwd ts P Q a X Y Z) {b : Nat × Nat} (h : Nd ts Q b) : Go.AL.Nd ts P b ∨ (b.1 = a + 1 ∧ b.2 = Y) := by
 induction h with
 | @base b h =>
  obtain ⟨hi, hv, hu⟩ := h
  by_cases q : b.1 = a + 1
  ·right
   rw [q, F.usQ] at hu
   refine ⟨q, ?_⟩
   apply Classical.byContradiction; intro z
   rw [if_neg z] at hu; exact hu rfl
  ·left
   rw [F.ne _ q] at hu
   exact .base ⟨by rw [← F.l]; exact hi, hv, hu⟩
 | @step x y _ r ih =>
  obtain ⟨r1, r2, r3⟩ := r
  have he := F.edge.1 r2
  rw [F.set] at r3
  rcases ih with ih | ⟨i1, i2⟩
  ·exact .inl (.step ih ⟨r1, he, r3⟩)
  ·left
   have e1 := F.t1.from he
   have e2 := F.t2.from he
   have : y.1 = a := by omega
   refine .base ⟨he.1, by rw [r1, i2]; exact F.yl, ?_⟩
   rw [this, r1, i2, F.usY]; decide
theorem Fwd.Fr (F : Fwd ts P Q a X Y Z) (A' : WA ts Q) {b : Nat × Nat × Nat} (h : yY ts Q b) : yY ts P b := by
 induction h with
 | base h =>
  obtain ⟨he, hl, hs⟩ := h
  exact .base ⟨F.edge.1 he, by rw [← F.ln]; exact hl, by rw [← F.set]; exact hs⟩
 | @step x y h r ih =>
  obtain ⟨r1, r2, r3⟩ := r
  refine .step ih ⟨r1, F.edge.1 r2, ?_⟩
  rcases r3 with ⟨r4, r5, r6⟩ | ⟨r4, r5, r6⟩
  ·exact .inl ⟨by rw [← F.set]; exact r4, r5, fun q => r6 ((F.us2 _ _).2 q)⟩
  ·by_cases q : x.1 = a + 1
   ·exfalso
    have ht := Km A' h
    have h2 := F.q2.2.2.1
    rw [q, h2] at r5
    rw [show x.2.1 = Y by omega, F.ty] at ht
    omega
   ·rw [F.ne _ q] at r4 r5 r6
    exact .inr ⟨r4, r5, r6⟩
theorem Fwd.Pl (F : Fwd ts P Q a X Y Z) {b : Nat × Nat} (h : BU ts Q b) : BU ts P b ∧ b.2 ≠ a + 1 := by
 induction h with
 | @base b h =>
  obtain ⟨he, hl⟩ := h
  refine ⟨.base ⟨F.edge.1 he, by rw [← F.ln]; exact hl⟩, fun q => ?_⟩
  have := DR hl
  rw [q] at this
  have := F.q2.1
  omega
 | @step x y _ r ih =>
  obtain ⟨r1, r2, r3, r4⟩ := r
  rw [F.ne _ ih.2] at r3 r4
  refine ⟨.step ih.1 ⟨r1, F.edge.1 r2, fun q => r3 ?_, by rw [← F.set]; exact r4⟩, by rw [r1]; exact ih.2⟩
  by_cases z : x.1 = a + 1
  ·rw [z] at q ⊢
   by_cases u : P[x.2]!.y = (X : Int)
   ·rw [u, F.usP, if_pos rfl] at q; cases q
   ·unfold bQ at q
    have := F.p2
    rw [if_neg (by omega), if_pos (by omega), if_neg (by omega)] at q; cases q
  ·rw [F.ne _ z]; exact q
theorem Fwd.noI (F : Fwd ts P Q a X Y Z) (A' : WA ts Q) (h : NoI ts P) : NoI ts Q := by
 have hp2 := F.p2
 have hq2 := F.q2
 refine ⟨fun i v hi hv hu hn => ?_, fun i L hi hc => ?_⟩
 ·have hn' := F.Na hn
  have hi' : i < P.length := by rw [← F.l]; exact hi
  by_cases q : i = a + 1
  ·rw [q, F.usQ] at hu
   have hvY : v = Y := by
    apply Classical.byContradiction; intro z
    rw [if_neg z] at hu; exact hu rfl
   rw [q, hvY] at hn'
   have hl := F.t1.l
   refine h.u a Y (by omega) F.yl (by rw [F.usY]; decide) ?_
   generalize hb : (a + 1, Y) = b at hn'
   cases hn' with
   | base z =>
    subst hb
    obtain ⟨_, z | ⟨j, z1, z2, _⟩⟩ := z
    ·dsimp only at z; omega
    ·have e1 := F.t1.from z1
     have e2 := F.t2.from z1
     dsimp only at e1 e2 z2
     rw [show j = a by omega, F.usY] at z2; cases z2
   | @step x y z r =>
    subst hb
    obtain ⟨r1, r2, r3⟩ := r
    have e1 := F.t1.from r2
    have e2 := F.t2.from r2
    dsimp only at r1 e1 e2
    have : x = (a, Y) := Prod.ext (by omega) r1.symm
    rw [← this]; exact z
  ·rw [F.ne i q] at hu
   exact h.u i v hi' hv hu hn'
 ·obtain ⟨v, u, wr, h1, h2, h3, h4, h5, h6⟩ := hc
  have hi' : i < P.length := by rw [← F.l]; exact hi
  obtain ⟨p1, p2⟩ := F.Pl h4
  dsimp only at p2
  rw [F.ne L p2] at h5 h6
  have ht := Km A' h3
  dsimp only at ht
  have vY : v ≠ Y := fun q => by rw [q, F.ty] at ht; omega
  have k1 : Kp ts P i v := by
   obtain ⟨⟨k, he, hk⟩, k2, k3⟩ := h1
   refine ⟨⟨k, F.edge.1 he, ?_⟩, by rw [← F.set]; exact k2, fun q => k3 ((F.us2 _ _).2 q)⟩
   rcases F.Nd hk with z | z
   ·exact z
   ·exact absurd z.2 vY
  refine h.c i L hi' ⟨v, u, wr, k1, ?_, F.Fr A' h3, p1, h5, h6⟩
  by_cases q : i = a + 1
  ·exfalso
   subst q
   rcases h2 with z | z | z | z | z
   ·omega
   ·omega
   ·omega
   ·obtain ⟨_, z2, z3, _⟩ := z
    rw [show u = Y by omega, F.ty] at z2
    cases z2
   ·obtain ⟨z1, z2, _⟩ := z
    rw [fS (by omega)] at z1
    rw [show u = Z by omega, F.tz] at z2
    cases z2
  ·unfold Ac at h2 ⊢
   rw [F.ne i q] at h2
   rcases h2 with z | z | z | z | ⟨z1, z2, z3, z4⟩
   ·exact .inl z
   ·exact .inr (.inl z)
   ·exact .inr (.inr (.inl z))
   ·exact .inr (.inr (.inr (.inl z)))
   ·exact .inr (.inr (.inr (.inr ⟨z1, z2, F.Mb z3, z4⟩)))
theorem Fwd.bis (F : Fwd ts P Q a X Y Z) (w : WG ts P) (A : WA ts P) (w' : WG ts Q) (A' : WA ts Q) :
  Bis ts P Q (fun _ i j s t => i = j ∧ i < P.length ∧ s.slots.length = ts.length ∧ Iz ts s ∧ (i ≤ a → s = t) ∧ (i = a + 1 → s = t ∧ vl s.cells s.slots[X]!.ptr.cell.toNat = s.slots[Y]!.num) ∧ (a + 2 ≤ i → VE ts (fun j => j) (fun _ => True) False s t)) := by
 have hp1 := F.p1
 have hp2 := F.p2
 have hq2 := F.q2
 refine ⟨fun n i j s t ⟨e, hi, hl, hz, r1, r2, r3⟩ => ?_⟩
 subst e
 by_cases h11 : P[i]!.op = 11
 ·left
  refine ⟨h11, ?_⟩
  rw [F.ne i (fun q => by rw [q] at h11; omega)]; exact h11
 ·right; right; right
  have hi' : i < Q.length := by rw [F.l]; exact hi
  have h11' : Q[i]!.op ≠ 11 := by
   by_cases q : i = a + 1
   ·rw [q]; omega
   ·rw [F.ne i q]; exact h11
  refine ⟨h11, h11', fun n' cs _ u1 u2 u3 u4 => ?_⟩
  have es : eE Q i cs = eE P i cs := by unfold eE; rw [F.nx i]
  have he := iL w A hi h11 cs
  have b1 := F.t1.from he
  have b2 := F.t2.from he
  rw [es]
  refine ⟨rfl, rfl, eH w he, by rw [gH]; exact hl, Iz.step w A hi hl hz u1 h11 u2, fun hk => ?_, fun hk => ?_, fun hk => ?_⟩
  ·have e := r1 (by omega)
   subst e
   rw [F.ne i (by omega)]
  ·have hia : i = a := by omega
   subst hia
   have e := r1 (by omega)
   subst e
   rw [F.ne i (by omega)]
   refine ⟨rfl, ?_⟩
   have hx : bQ ts P[i]! X ≠ 0 := Av hp1.1 hp1.2.1.symm
   have dy := w.doY A hi hl u1 h11 u2
   have s7 : bD P[i]! = -1 := oB (by omega)
   have n2 : ∀ v : Nat, bQ ts P[i]! v ≠ 2 := fun v => by
    unfold bQ; rw [if_neg (by omega), if_neg (by omega), if_pos hp1.1]
    split
    ·decide
    ·split <;> decide
   rw [dy X F.xl, dy Y F.yl, if_neg (by rw [s7]; omega), if_neg (n2 X), if_neg (by rw [s7]; omega), if_neg (n2 Y)]
   obtain ⟨c1, c2⟩ := Df hp1.1 u2
   rw [c2, hp1.2.1, hp1.2.2, Int.toNat_natCast, Int.toNat_natCast, Kn (by rw [hp1.2.1, hp1.2.2, Int.toNat_natCast, Int.toNat_natCast] at c1; exact c1), if_pos rfl]
  ·by_cases q : i = a + 1
   ·obtain ⟨e, hv⟩ := r2 q
    subst e q
    have dy := w.doY A hi hl u1 h11 u2
    have dy' := w'.doY A' hi' hl u3 h11' u4
    have sP : bD P[a + 1]! = (Z : Int) := by rw [fS (by omega)]; exact hp2.2.1
    have sQ : bD Q[a + 1]! = (Z : Int) := by rw [fS (by omega)]; exact hq2.2.1
    obtain ⟨v1, v2⟩ := qP (A.a _ hi) (by omega) (fun q => by omega) h11 u2
    obtain ⟨v3, v4⟩ := qP (A'.a _ hi') (by omega) (fun _ => by rw [hq2.2.1, hq2.2.2.1]; have := F.yz; omega) h11' u4
    rw [if_neg (by omega)] at v1 v3
    obtain ⟨k1, _⟩ := oW (A.a _ hi) hp2.1 u2
    rw [hp2.2.2, Int.toNat_natCast] at k1
    have hsY := fR u3 F.yl (by rw [F.usQ, if_pos rfl]; decide)
    refine ⟨⟨by rw [gH]; exact hl, by rw [gH]; exact hl⟩, by rw [v1, v3], fun j hj => ?_, fun _ _ z => z, fun _ _ => rfl, fun v hv' _ => ?_, fun v hv' h1 => ⟨Iz.step w A hi hl hz u1 h11 u2 v hv' h1, Iz.step w' A' hi' hl hz u3 h11' u4 v hv' h1⟩, fun z => z.elim⟩
    ·rw [v2 j hj, v4 j (by omega), if_neg (fun z => by omega), if_neg (fun z => by omega), if_neg (fun z => by omega), if_neg (fun z => by omega)]
    ·rw [dy v hv', dy' v hv', sP, sQ]
     by_cases hvZ : (Z : Int) = v
     ·rw [if_pos hvZ, if_pos hvZ]
      have eP : yF s P[a + 1]! = ⟨true, s.slots[Y]!.num, ⟨0, 0⟩⟩ := by
       unfold yF
       rw [if_neg (by omega), if_neg (by omega), if_neg (by omega), if_neg (by omega), hp2.2.2, Int.toNat_natCast, Ad k1, hv]
      have eQ : yF s Q[a + 1]! = s.slots[Y]! := by
       unfold yF
       rw [if_neg (by omega), if_neg (by omega), if_pos hq2.1, hq2.2.2.1, Int.toNat_natCast]
      rw [eP, eQ]
      refine ⟨hsY, rfl, fun h2 => ?_⟩
      rw [← show Z = v by omega, F.tz] at h2
      omega
     ·rw [if_neg hvZ, if_neg hvZ, F.usP, F.usQ]
      rw [if_neg (by split <;> decide), if_neg (by split <;> decide)]
      exact ⟨rfl, rfl, fun _ _ => rfl⟩
   ·have h3 := r3 (by omega)
    rw [F.ne i q] at u3 u4 ⊢
    exact (h3.step w A hi u1 u3 h11 u2 u4 (fun _ _ _ => trivial)).mono (fun _ _ => .inl trivial)
theorem Fwd.run (F : Fwd ts P Q a X Y Z) (w : WG ts P) (A : WA ts P) (w' : WG ts Q) (A' : WA ts Q) (cs : List Int) (n : Nat) (h1 : (dI ts P cs n).2.1 = 0) (h2 : (dI ts Q cs n).2.1 = 0) (v : Nat) (hv : v < ts.length) (ht : ts[v]! = 1) :
  (dI ts P cs n).1.slots[v]! = (dI ts Q cs n).1.slots[v]! := by
 obtain ⟨n', i, j, s, t, ⟨e, hi, hl, hz, r1, r2, r3⟩, q1, q2, q3, q4, q5⟩ := (F.bis w A w' A').run _ n n (Nat.le_refl _) 0 0 cs (mc0 ts.length) (mc0 ts.length) 0 0
  ⟨rfl, w.p0, by simp [mc0], Iz.start, fun _ => rfl, fun h => by omega, fun h => by omega⟩ h1 h2
 change (dI ts P cs n).1 = _ at q2
 change (dI ts Q cs n).1 = _ at q4
 have hp1 := F.p1
 have hp2 := F.p2
 rw [q2, q4, jM _ _ _ _ _ (by omega), jM _ _ _ _ _ (by omega)]
 by_cases c1 : i ≤ a
 ·rw [r1 c1]
 ·by_cases c2 : i = a + 1
  ·rw [(r2 c2).1]
  ·have h := r3 (by omega)
   have hv1 := h.v v hv trivial
   have hv2 := h.z v hv ht
   generalize s.slots[v]! = x at *
   generalize t.slots[v]! = y at *
   cases x; cases y
   simp only at hv1 hv2
   simp [hv1.1, hv1.2.1, hv2.1, hv2.2]
end
end Go.AL
