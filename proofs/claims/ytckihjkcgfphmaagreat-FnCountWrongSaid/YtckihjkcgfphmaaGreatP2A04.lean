/-
 A part of the proofs over this program: rules and contracts of its functions (the rules).
-/
import Derived.Test.YtckihjkcgfphmaaGreatP2A03
import Derived.Laws.BytesString
import Derived.Laws.StructEq
import Derived.Lib.SlicesCompact
set_option linter.unusedVariables false
set_option linter.unusedSimpArgs false
namespace Go.AL
mutual
def qH : Stmt → Nat
 | .mk op _ _ _ th el => if op = 9 then 2 + dQ th + dQ el else if op = 10 then 2 + dQ th else 1
def dQ : List Stmt → Nat
 | [] => 0
 | s :: l => qH s + dQ l
end
mutual
def x5 (b : Nat) : Stmt → List Pnt
 | .mk op x y n th el =>
  if op = 9 then [⟨9, 0, 0, 0, [(b : Int) + 1, (b : Int) + 1 + dQ th + 1]⟩] ++ fO (b + 1) th ++ [⟨10, 0, 0, 1, [(b : Int) + 2 + dQ th + dQ el]⟩] ++ fO (b + 2 + dQ th) el
  else if op = 10 then [⟨10, 0, 0, 0, [(b : Int) + 1, (b : Int) + 2 + dQ th]⟩] ++ fO (b + 1) th ++ [⟨10, 0, 0, 1, [(b : Int)]⟩]
  else [⟨op, x, y, n, [(b : Int) + 1]⟩]
def fO (b : Nat) : List Stmt → List Pnt
 | [] => []
 | s :: l => x5 b s ++ fO (b + qH s) l
end
mutual
theorem Dq : ∀ (s : Stmt) (b : Nat), (x5 b s).length = qH s
 | .mk op x y n th el, b => by
  have h1 := cT th (b + 1)
  have h2 := cT el (b + 2 + dQ th)
  simp only [x5, qH]
  split
  ·simp [h1, h2]; omega
  ·split
   ·simp [h1]; omega
   ·simp
theorem cT : ∀ (l : List Stmt) (b : Nat), (fO b l).length = dQ l
 | [], b => by simp [fO, dQ]
 | s :: l, b => by simp only [fO, dQ, List.length_append, Dq s b, cT l (b + qH s)]
end
mutual
theorem Fa : ∀ (s : Stmt), qH s ≤ 2 * c9 s
 | .mk op x y n th el => by
  have h1 := kD th
  have h2 := kD el
  simp only [qH, c9]; split
  ·omega
  ·split <;> omega
theorem kD : ∀ (l : List Stmt), dQ l ≤ 2 * bO l
 | [] => by simp [dQ, bO]
 | s :: l => by have h1 := Fa s; have h2 := kD l; simp only [dQ, bO]; omega
end
theorem k8 : ∀ a b, dQ (a ++ b) = dQ a + dQ b
 | [], b => by simp [dQ]
 | s :: a, b => by simp only [List.cons_append, dQ, k8 a b]; omega
theorem pI : ∀ (a b : List Stmt) (k : Nat), fO k (a ++ b) = fO k a ++ fO (k + dQ a) b
 | [], b, k => by simp [fO, dQ]
 | s :: a, b, k => by simp only [List.cons_append, fO, dQ, pI a b, List.append_assoc, Nat.add_assoc]
theorem fH (l : List Stmt) (b k : Nat) (hk : k < l.length) : fO b (l.take (k + 1)) = fO b (l.take k) ++ x5 (b + dQ (l.take k)) l[k]! := by
 rw [cQ _ _ hk, pI]; simp [fO]
theorem e5 (l : List Stmt) (k : Nat) (hk : k < l.length) : dQ (l.take (k + 1)) = dQ (l.take k) + qH l[k]! := by
 rw [cQ _ _ hk, k8]; simp [dQ]
theorem uF (l : List Stmt) (k : Nat) : dQ (l.take k) ≤ dQ l := by
 conv => rhs; rw [← List.take_append_drop k l]
 rw [k8]; omega
theorem sR (s : Stmt) : qH s = if s.op = 9 then 2 + dQ s.th + dQ s.el else if s.op = 10 then 2 + dQ s.th else 1 := by
 cases s; simp only [qH, Stmt.op, Stmt.th, Stmt.el]; rfl
theorem gP (b : Nat) (s : Stmt) : x5 b s = if s.op = 9 then [⟨9, 0, 0, 0, [(b : Int) + 1, (b : Int) + 1 + dQ s.th + 1]⟩] ++ fO (b + 1) s.th ++ [⟨10, 0, 0, 1, [(b : Int) + 2 + dQ s.th + dQ s.el]⟩] ++ fO (b + 2 + dQ s.th) s.el
  else if s.op = 10 then [⟨10, 0, 0, 0, [(b : Int) + 1, (b : Int) + 2 + dQ s.th]⟩] ++ fO (b + 1) s.th ++ [⟨10, 0, 0, 1, [(b : Int)]⟩]
  else [⟨s.op, s.x, s.y, s.n, [(b : Int) + 1]⟩] := by
 cases s; simp only [x5, Stmt.op, Stmt.th, Stmt.el, Stmt.x, Stmt.y, Stmt.n]; rfl
def cX (p : Prg) : List Pnt := fO 0 p.body ++ [⟨11, 0, 0, 0, []⟩]
theorem nT (p : Prg) : (cX p).length = dQ p.body + 1 := by simp [cX, cT]

theorem gD {α : Type} {f : α → List AV} {e : Nat} [h : FlT f e] {xs : List α} {m : Nat} {new : List AV} {y : α} (hm : m = xs.length) (hn : new = f y) : ((aI f xs).drop 0).take (m * e) ++ new = aI f (xs ++ [y]) := by
 subst hm hn
 rw [List.drop_zero, List.take_of_length_le (by rw [aT f (e := e)]; exact Nat.le_refl _), ← dC, u4]
theorem j4 {xs : List Pnt} {m : Nat} {a b c d : Int} (hm : m = xs.length) : ((aI dA xs).drop 0).take (m * 5) ++ [iv a, iv b, iv c, iv d, .imm 0 []] = aI dA (xs ++ [⟨a, b, c, d, []⟩]) := gD hm rfl
theorem oZ {xs : List Pnt} {m : Nat} {a b c d e : Int} (hm : m = xs.length) : ((aI dA xs).drop 0).take (m * 5) ++ [iv a, iv b, iv c, iv d, .imm 1 [iv e]] = aI dA (xs ++ [⟨a, b, c, d, [e]⟩]) := gD hm rfl
theorem fW {xs : List Int} {m : Nat} {a : Int} (hm : m = xs.length) : ((aI cI xs).drop 0).take (m * 1) ++ [iv a] = aI cI (xs ++ [a]) := gD hm rfl
theorem D2 (A B C new : List AV) (j : Nat) (hj : j + new.length ≤ B.length) : gO (A ++ (B ++ C)) (A.length + j) new = A ++ (gO B j new ++ C) := by
 unfold gO
 rw [List.take_length_add_append, Nat.add_assoc, List.drop_length_add_append, List.take_append_of_le_length (by omega), List.drop_append_of_le_length hj]
 simp only [List.append_assoc]
theorem xJ {α : Type} [Inhabited α] {f : α → List AV} {e : Nat} [h : FlT f e] {xs : List α} {k : Nat} (hk : k < xs.length) : aI f xs = aI f (xs.take k) ++ (f xs[k]! ++ aI f (xs.drop (k + 1))) := by
 rw [← fR f (e := e) xs k hk, ← eV f (e := e), List.take_append_drop]
theorem dZ {α : Type} [Inhabited α] {f : α → List AV} {e : Nat} [h : FlT f e] {xs : List α} {k j : Nat} {new : List AV} {y : α} (hk : k < xs.length) (hj : j + new.length ≤ e) (hy : gO (f xs[k]!) j new = f y) : gO (aI f xs) (0 + k * e + j) new = aI f (xs.set k y) := by
 have h3 : (aI f (xs.take k)).length = k * e := by rw [aT f (e := e), List.length_take]; congr 1; omega
 rw [xJ (e := e) hk, Nat.zero_add, ← h3, D2 _ _ _ _ _ (by rw [h.pf]; exact hj), hy, List.set_eq_take_append_cons_drop, if_pos hk, ← dC]
 simp only [aI, List.flatMap_cons]
theorem uR {α : Type} [Inhabited α] {f : α → List AV} {e : Nat} [h : FlT f e] {xs : List α} {k : Nat} {new : List AV} {y : α} (hk : k < xs.length) (hy : new = f y) : gO (aI f xs) (0 + k * e) new = aI f (xs.set k y) := by
 subst hy
 rw [Nat.zero_add]; exact CO f xs k y hk
theorem pC {xs : List Pnt} {k : Nat} {a : Int} (hk : k < xs.length) : gO (aI dA xs) (0 + k * 5 + 4) [.imm 1 [iv a]] = aI dA (xs.set k { xs[k]! with next := [a] }) := dZ hk (by simp) rfl
theorem oN {xs : List Pnt} {k : Nat} {a b : Int} (hk : k < xs.length) : gO (aI dA xs) (0 + k * 5 + 4) [.imm 2 [iv a, iv b]] = aI dA (xs.set k { xs[k]! with next := [a, b] }) := dZ hk (by simp) rfl
end Go.AL
namespace Go.AL
theorem Bb (s : Stmt) : s.op = 9 → qH s = 2 + dQ s.th + dQ s.el := by intro h; rw [sR, if_pos h]
theorem xQ (s : Stmt) : s.op = 10 → qH s = 2 + dQ s.th := by intro h; rw [sR, if_neg (by omega), if_pos h]
theorem CI (s : Stmt) : ¬ s.op = 9 → ¬ s.op = 10 → qH s = 1 := by intro h h2; rw [sR, if_neg h, if_neg h2]
theorem xA (l : List Stmt) (k : Nat) : k < l.length → dQ (l.take k) + qH l[k]! ≤ dQ l := by
 intro h; have := uF l (k + 1); rw [e5 l k h] at this; exact this
end Go.AL
namespace Go.AL
theorem sS {α : Type} (A : List α) (x y : α) (B : List α) : (A ++ x :: B).set A.length y = A ++ y :: B := by
 rw [List.set_append_right _ _ (Nat.le_refl _), Nat.sub_self, List.set_cons_zero]
theorem r8 {α : Type} [Inhabited α] (A : List α) (x : α) (B : List α) : (A ++ x :: B)[A.length]! = x := by
 rw [cV _ _ (by simp), List.getElem_append_right (Nat.le_refl _)]; simp
theorem rZ {xs T E : List Pnt} {p q : Pnt} {m : Nat} (hm : m = xs.length) : (xs ++ [p] ++ T ++ [q] ++ E)[m]! = p := by
 subst hm; simp only [List.append_assoc, List.singleton_append, List.cons_append, List.nil_append]; exact r8 _ _ _
theorem rU {xs T E : List Pnt} {p q p' : Pnt} {m : Nat} (hm : m = xs.length) : (xs ++ [p] ++ T ++ [q] ++ E).set m p' = xs ++ [p'] ++ T ++ [q] ++ E := by
 subst hm; simp only [List.append_assoc, List.singleton_append, List.cons_append, List.nil_append]; exact sS _ _ _ _
theorem sB {xs T E : List Pnt} {p q : Pnt} {j : Nat} (hj : j = xs.length + 1 + T.length) : (xs ++ [p] ++ T ++ [q] ++ E)[j]! = q := by
 have h : j = (xs ++ [p] ++ T).length := by simp [hj]; omega
 subst h
 rw [show xs ++ [p] ++ T ++ [q] ++ E = (xs ++ [p] ++ T) ++ q :: E by simp]; exact r8 _ _ _
theorem rX {xs T E : List Pnt} {p q q' : Pnt} {j : Nat} (hj : j = xs.length + 1 + T.length) : (xs ++ [p] ++ T ++ [q] ++ E).set j q' = xs ++ [p] ++ T ++ [q'] ++ E := by
 have h : j = (xs ++ [p] ++ T).length := by simp [hj]; omega
 subst h
 rw [show xs ++ [p] ++ T ++ [q] ++ E = (xs ++ [p] ++ T) ++ q :: E by simp, sS]; simp
theorem wV {xs T : List Pnt} {p q : Pnt} {m : Nat} (hm : m = xs.length) : (xs ++ [p] ++ T ++ [q])[m]! = p := by
 subst hm; simp only [List.append_assoc, List.singleton_append, List.cons_append, List.nil_append]; exact r8 _ _ _
theorem wF {xs T : List Pnt} {p q p' : Pnt} {m : Nat} (hm : m = xs.length) : (xs ++ [p] ++ T ++ [q]).set m p' = xs ++ [p'] ++ T ++ [q] := by
 subst hm; simp only [List.append_assoc, List.singleton_append, List.cons_append, List.nil_append]; exact sS _ _ _ _
end Go.AL

namespace Go.AL
structure WG (ts : List Int) (pts : List Pnt) : Prop where
 tl : ts.length ≤ 6
 ty : ∀ v, v < ts.length → 1 ≤ ts[v]! ∧ ts[v]! ≤ 4
 pl : pts.length ≤ 61
 p0 : 0 < pts.length
 nx : ∀ i, i < pts.length → ∀ k ∈ pts[i]!.next, 0 ≤ k ∧ k < pts.length
 nl : ∀ i, i < pts.length → pts[i]!.next.length ≤ 2
 op : ∀ i, i < pts.length → 1 ≤ pts[i]!.op ∧ pts[i]!.op ≤ 11
 x : ∀ i, i < pts.length → 0 ≤ pts[i]!.x ∧ (pts[i]!.op ≤ 8 → pts[i]!.x < ts.length)
 y : ∀ i, i < pts.length → 0 ≤ pts[i]!.y ∧ (3 ≤ pts[i]!.op → pts[i]!.op ≤ 7 → pts[i]!.y < ts.length)
def Fc (nv b e : Nat) (x : Pnt) : Prop := (∀ k ∈ x.next, 0 ≤ k ∧ k < (e : Int)) ∧ x.next.length ≤ 2 ∧ 1 ≤ x.op ∧ x.op ≤ 11 ∧ 0 ≤ x.x ∧ (x.op ≤ 8 → x.x < (nv : Int)) ∧ 0 ≤ x.y ∧ (3 ≤ x.op → x.op ≤ 7 → x.y < (nv : Int))
theorem wA {ts : List Int} (ht : cP ts = true) {s : Stmt} (h : dO ts s = true) : 1 ≤ s.op ∧ s.op ≤ 8 ∧ 0 ≤ s.x ∧ s.x < ts.length ∧ 0 ≤ s.y ∧ (3 ≤ s.op → s.op ≤ 7 → s.y < ts.length) := by
 have hx := jS ht s.x
 have hy := jS ht s.y
 have bx := gV ht s.x
 have by' := gV ht s.y
 unfold dO at h
 dsimp only at h
 repeat' split at h
 all_goals first
  | (simp only [decide_eq_true_eq] at h; omega)
  | (cases h; done)
mutual
theorem Ex {ts : List Int} (ht : cP ts = true) : ∀ (s : Stmt) (d b e : Nat), nS ts d s = true → b + qH s < e → ∀ x ∈ x5 b s, Fc ts.length b e x
 | .mk op x y n th el, d, b, e, h, hb => by
  simp only [nS] at h
  split at h
  ·rename_i hop
   simp only [Bool.and_eq_true] at h
   have hs := wA ht h.2
   simp only [Stmt.op, Stmt.x, Stmt.y] at hs
   simp only [qH, hop.1, hop.2, if_false] at hb
   simp only [x5, hop.1, hop.2, if_false, List.mem_singleton]
   rintro z rfl
   refine ⟨?_, by simp, hs.1, by show op ≤ 11; omega, hs.2.2.1, fun _ => hs.2.2.2.1, hs.2.2.2.2.1, hs.2.2.2.2.2⟩
   simp only [List.mem_singleton]; rintro k rfl; omega
  ·rename_i hop
   cases d with
   | zero => cases h
   | succ d =>
    simp only [Bool.and_eq_true, decide_eq_true_eq] at h
    obtain ⟨⟨⟨_, _⟩, h1⟩, h2⟩ := h
    by_cases h9 : op = 9
    ·subst h9
     simp only [qH, if_true] at hb
     simp only [x5, if_true, List.mem_append, List.mem_singleton]
     rintro z (((rfl | hz) | rfl) | hz)
     ·refine ⟨?_, by simp, by simp, by simp, by simp, by simp, by simp, by simp⟩
      simp only [List.mem_cons, List.not_mem_nil, or_false]; rintro k (rfl | rfl) <;> omega
     ·exact oE ht th d (b + 1) e h1 (by omega) z hz
     ·refine ⟨?_, by simp, by simp, by simp, by simp, by simp, by simp, by simp⟩
      simp only [List.mem_singleton]; rintro k rfl; omega
     ·exact oE ht el d (b + 2 + dQ th) e h2 (by omega) z hz
    ·have h10 : op = 10 := by omega
     subst h10
     simp only [qH, if_true, show ((10 : Int) = 9) = False by simp, if_false] at hb
     simp only [x5, if_true, show ((10 : Int) = 9) = False by simp, if_false, List.mem_append, List.mem_singleton]
     rintro z ((rfl | hz) | rfl)
     ·refine ⟨?_, by simp, by simp, by simp, by simp, by simp, by simp, by simp⟩
      simp only [List.mem_cons, List.not_mem_nil, or_false]; rintro k (rfl | rfl) <;> omega
     ·exact oE ht th d (b + 1) e h1 (by omega) z hz
     ·refine ⟨?_, by simp, by simp, by simp, by simp, by simp, by simp, by simp⟩
      simp only [List.mem_singleton]; rintro k rfl; omega
theorem oE {ts : List Int} (ht : cP ts = true) : ∀ (l : List Stmt) (d b e : Nat), okL ts d l = true → b + dQ l < e → ∀ x ∈ fO b l, Fc ts.length b e x
 | [], d, b, e, h, hb => by simp [fO]
 | s :: l, d, b, e, h, hb => by
  simp only [okL, Bool.and_eq_true] at h
  simp only [dQ] at hb
  simp only [fO, List.mem_append]
  rintro x (hx | hx)
  ·exact Ex ht s d b e h.1 (by omega) x hx
  ·exact oE ht l d (b + qH s) e h.2 (by omega) x hx
end
theorem WG.of_valid {p : Prg} (h : c8 p = true) : WG p.types (cX p) := by
 unfold c8 at h
 simp only [Bool.and_eq_true, decide_eq_true_eq] at h
 obtain ⟨⟨ht, hl⟩, hc⟩ := h
 have hn := kD p.body
 have hlen := nT p
 have key : ∀ i, i < (cX p).length → Fc p.types.length 0 (cX p).length (cX p)[i]! := by
  intro i hi
  have hm := cN _ i hi
  unfold cX at hm
  rw [List.mem_append, List.mem_singleton] at hm
  rcases hm with hm | hm
  ·exact oE ht p.body 4 0 _ hl (by omega) _ hm
  ·unfold cX; rw [hm]; exact ⟨by simp, by simp, by simp, by simp, by simp, by simp, by simp, by simp⟩
 exact ⟨gA ht, jK ht, by omega, by omega, fun i hi => (key i hi).1, fun i hi => (key i hi).2.1, fun i hi => ⟨(key i hi).2.2.1, (key i hi).2.2.2.1⟩,
  fun i hi => ⟨(key i hi).2.2.2.2.1, (key i hi).2.2.2.2.2.1⟩, fun i hi => ⟨(key i hi).2.2.2.2.2.2.1, (key i hi).2.2.2.2.2.2.2⟩⟩
def FU (pts : List Pnt) (i k : Nat) : Prop := i < pts.length ∧ (k : Int) ∈ pts[i]!.next
def fD (f : Nat → Bool) : Nat → Nat
 | 0 => 0
 | n + 1 => fD f n ||| (if f n then 2 ^ n else 0)
theorem hR (f : Nat → Bool) : ∀ (n i : Nat), (fD f n).testBit i = (decide (i < n) && f i)
 | 0, i => by simp [fD]
 | n + 1, i => by
  rw [fD, Nat.testBit_or, hR f n i]
  by_cases h : i = n
  ·subst h; cases hf : f i <;> simp [Nat.testBit_two_pow_self]
  ·have : ((if f n = true then 2 ^ n else 0).testBit i) = false := by
    split
    ·exact Nat.testBit_two_pow_of_ne (fun e => h e.symm)
    ·simp
   rw [this, Bool.or_false]
   congr 1
   simp only [decide_eq_decide]; omega
theorem zX (f : Nat → Bool) (n : Nat) : fD f n < 2 ^ n := by
 apply Nat.lt_pow_two_of_testBit
 intro i hi
 rw [hR]; simp; omega
theorem dU {f : Nat → Bool} {n : Nat} (h : n ≤ 62) : Sm (fD f n) := ⟨Nat.lt_of_lt_of_le (zX f n) (Nat.pow_le_pow_right (by decide) h)⟩
end Go.AL
namespace Go.AL
abbrev aG (ts : List Int) (bd : List Stmt) (pts : List Pnt) : AV := .iptr [sl cI ts, sl bB bd, sl dA pts]
def yO (t : Int) : Bool := decide (t = 2) || decide (t = 4)
def wS (ts : List Int) (x : Pnt) (us : List Int) : Nat := fD (fun v => decide (fN ts x v ∈ us)) ts.length
theorem BD (ts : List Int) (x : Pnt) (v : Int) : 0 ≤ fN ts x v ∧ fN ts x v ≤ 3 := by
 unfold fN; grind
theorem WG.set {ts : List Int} {pts : List Pnt} (h : WG ts pts) (i : Nat) (hi : i < pts.length) : yA pts[i]! < ts.length ∧ (0 ≤ yA pts[i]! ∨ yA pts[i]! = -1) := by
 have := h.x i hi
 have := h.tl
 unfold yA; split <;> omega
end Go.AL
namespace Go.AL
theorem u5 (f : Nat → Bool) (k : Nat) (h : f k = true) : fD f k ||| 2 ^ k = fD f (k + 1) := by rw [fD, if_pos h]
theorem tI (f : Nat → Bool) (k : Nat) (h : f k = false) : fD f k = fD f (k + 1) := by rw [fD, if_neg (by simp [h]), Nat.or_zero]
end Go.AL

namespace Go.AL
open Go.RowKit
set_option linter.unusedVariables false
set_option linter.unusedSimpArgs false

theorem jI {i : Nat} {hs : List (Nat × Option (List AV))} {id : Nat} {cs : List AV} (h : b8 ((i, none) :: hs) id = some cs) : b8 hs id = some cs ∧ id ≠ i := by
 rw [e6] at h
 split at h
 ·cases h
 ·rename_i e; exact ⟨h, e⟩
theorem Le.frzD {ts : List (Nat × AV)} {hs : List (Nat × Option (List AV))} {n : Nat} {z0 : Lo} {d i m e : Nat} {cs : List AV} (hd : lk ts d = some (.own i 0 m e)) (hi : b8 hs i = some cs) :
  Le ⟨ts, hs, n, z0⟩ ⟨(d, .imm m cs) :: ts, (i, none) :: hs, n, z0⟩ := by
 rintro C a w ⟨h0, ι, g, gh⟩
 obtain ⟨gh', car⟩ := gh.less (F' := Fn n z0) (H' := b8 ((i, none) :: hs)) (fun id c h => (jI h).1) (fun _ h => h)
 refine ⟨h0, ι, ⟨g.df, g.sz, fun t av ht => ?_⟩, gh'⟩
 rw [show lk (⟨(d, .imm m cs) :: ts, (i, none) :: hs, n, z0⟩ : AS).ts t = lk ((d, .imm m cs) :: ts) t from rfl, kT] at ht
 split at ht
 ·rename_i et
  subst et
  cases ht
  obtain ⟨y, hy, hr⟩ := g.tm t _ hd
  refine ⟨y, hy, ?_⟩
  simp only [Rd] at hr ⊢
  rcases hr with ⟨_, h2, a', h3⟩ | ⟨b, β, c, h1, h2, h3, h4⟩
  ·subst h2; exact ⟨a', 0, h3, .inl rfl⟩
  ·refine ⟨_, c, h2, ?_⟩
   rcases Nat.eq_zero_or_pos m with h5 | h5
   ·exact .inl h5
   ·refine .inr ⟨b, β + 0, h3, rfl, ?_⟩
    rcases gh.obj i cs hi with ⟨q1, q2⟩ | ⟨b', β', arr, e', q1, q2, q3, q4, q5, q6⟩
    ·rw [h1] at q1; cases q1
    ·rw [h1] at q1; cases q1
     refine .inr ⟨?_, RdC.carryB car _ _ _ (fun o x hx => hx) q4⟩
     rintro (h | ⟨id', cs', β', r1, r2⟩)
     ·exact q5 h
     ·exact (jI r1).2 (gh.sep _ _ _ _ _ _ _ (jI r1).1 hi r2 h1)
 ·obtain ⟨y, hy, hr⟩ := g.tm t av ht
  exact ⟨y, hy, Rd.carry car _ _ hr⟩
theorem Le.frzP {ts : List (Nat × AV)} {hs : List (Nat × Option (List AV))} {n : Nat} {z0 : Lo} {d i : Nat} {cs : List AV} (hd : lk ts d = some (.optr i 0)) (hi : b8 hs i = some cs) :
  Le ⟨ts, hs, n, z0⟩ ⟨(d, .iptr cs) :: ts, (i, none) :: hs, n, z0⟩ := by
 rintro C a w ⟨h0, ι, g, gh⟩
 obtain ⟨gh', car⟩ := gh.less (F' := Fn n z0) (H' := b8 ((i, none) :: hs)) (fun id c h => (jI h).1) (fun _ h => h)
 refine ⟨h0, ι, ⟨g.df, g.sz, fun t av ht => ?_⟩, gh'⟩
 rw [show lk (⟨(d, .iptr cs) :: ts, (i, none) :: hs, n, z0⟩ : AS).ts t = lk ((d, .iptr cs) :: ts) t from rfl, kT] at ht
 split at ht
 ·rename_i et
  subst et
  cases ht
  obtain ⟨y, hy, hr⟩ := g.tm t _ hd
  refine ⟨y, hy, ?_⟩
  simp only [Rd] at hr ⊢
  obtain ⟨b, β, h1, h2⟩ := hr
  refine ⟨b, β + 0, h2, ?_⟩
  rcases gh.obj i cs hi with ⟨q1, q2⟩ | ⟨b', β', arr, e', q1, q2, q3, q4, q5, q6⟩
  ·rw [h1] at q1; cases q1
  ·rw [h1] at q1; cases q1
   refine .inr ⟨?_, RdC.carryB car _ _ _ (fun o x hx => hx) q4⟩
   rintro (h | ⟨id', cs', β', r1, r2⟩)
   ·exact q5 h
   ·exact (jI r1).2 (gh.sep _ _ _ _ _ _ _ (jI r1).1 hi r2 h1)
 ·obtain ⟨y, hy, hr⟩ := g.tm t av ht
  exact ⟨y, hy, Rd.carry car _ _ hr⟩
theorem Le.nilOwn {ts : List (Nat × AV)} {hs : List (Nat × Option (List AV))} {n : Nat} {z0 : Lo} {d : Nat} (e : Nat) (hd : lk ts d = some (.v (.slice none 0 0))) (hn : n < dR) :
  Le ⟨ts, hs, n, z0⟩ ⟨(d, .own n 0 0 e) :: ts, (n, some []) :: hs, n + 1, z0⟩ := by
 rintro C a w ⟨h0, ι, g, gh⟩
 have hf : ι n = none := gh.fresh n ⟨Nat.le_refl _, .inl hn⟩
 let ι' : Pl := eC ι n (some none)
 have hne : ∀ id p, ι id = some p → ι' id = some p := by
  intro id p h
  have : id ≠ n := by rintro rfl; rw [hf] at h; cases h
  simp only [ι', cL _ _ this, h]
 have hback : ∀ id b β, ι' id = some (some (b, β)) → id ≠ n ∧ ι id = some (some (b, β)) := by
  intro id b β h
  by_cases q : id = n
  ·subst q; simp only [ι', upd_same] at h; cases h
  ·simp only [ι', cL _ _ q] at h; exact ⟨q, h⟩
 have hH : ∀ id cs, id ≠ n → b8 ((n, some []) :: hs) id = some cs → b8 hs id = some cs := by
  intro id cs q h; rw [e6, if_neg q] at h; exact h
 have car : Carry w (a6 C.X ι (b8 hs)) ι w (a6 C.X ι' (b8 ((n, some []) :: hs))) ι' := by
  refine ⟨fun b o x h1 h2 => ⟨?_, h2⟩, hne, fun _ => Nat.le_refl _⟩
  rintro (h | ⟨id, cs, β, q1, q2⟩)
  ·exact h1 (.inl h)
  ·obtain ⟨r1, r2⟩ := hback _ _ _ q2
   exact h1 (.inr ⟨id, cs, β, hH _ _ r1 q1, r2⟩)
 refine ⟨h0, ι', ⟨g.df, g.sz, fun t av ht => ?_⟩, ⟨fun id cs h => ?_, fun id id' cs cs' b β β' q1 q2 q3 q4 => ?_, gh.fr, fun id p h => hne _ _ (gh.ex _ _ h), fun id h => ?_⟩⟩
 ·rw [show lk (⟨(d, .own n 0 0 e) :: ts, (n, some []) :: hs, n + 1, z0⟩ : AS).ts t = lk ((d, .own n 0 0 e) :: ts) t from rfl, kT] at ht
  split at ht
  ·rename_i et
   subst et
   cases ht
   obtain ⟨y, hy, hr⟩ := g.tm t _ hd
   refine ⟨y, hy, ?_⟩
   simp only [Rd] at hr ⊢
   exact .inl ⟨⟨none, by simp only [ι', upd_same]⟩, trivial, none, hr⟩
  ·obtain ⟨y, hy, hr⟩ := g.tm t av ht
   exact ⟨y, hy, Rd.carry car _ _ hr⟩
 ·by_cases q : id = n
  ·subst q
   simp only [e6, if_true, Option.some.injEq] at h
   exact .inl ⟨by simp only [ι', upd_same], h.symm⟩
  ·rcases gh.obj id cs (hH _ _ q h) with ⟨r1, r2⟩ | ⟨b, β, arr, e', r1, r2, r3, r4, r5, r6⟩
   ·exact .inl ⟨hne _ _ r1, r2⟩
   ·exact .inr ⟨b, β, arr, e', hne _ _ r1, r2, r3, RdC.carryB car _ _ _ (fun o x hx => hx) r4, r5, r6⟩
 ·obtain ⟨r1, r2⟩ := hback _ _ _ q3
  obtain ⟨r3, r4⟩ := hback _ _ _ q4
  exact gh.sep _ _ _ _ _ _ _ (hH _ _ r1 q1) (hH _ _ r3 q2) r2 r4
 ·have h1 : n + 1 ≤ id := h.1
  have h2 : id < dR ∨ z0.fb ≤ id := h.2
  have q : id ≠ n := by omega
  simp only [ι', cL _ _ q]
  exact gh.fresh id ⟨by show n ≤ id; omega, h2⟩
section
variable {P : Program} {N : Nat} {Q : Exit → AS → Prop} {all : Array Oper} {rest : List Oper} {ts : List (Nat × AV)} {hs : List (Nat × Option (List AV))} {n : Nat} {z0 : Lo} {md : Md}
variable {d : Nat} {ty : TypeId} {pos : String} {af : Array Edge}
theorem gI {l : List Oper} {s s' : AS} (h : RW P N all Q .txt l s') (k : Le s s') : RW P N all Q .txt l s := fun C a w hN g => h C a w hN (k C a w g)
theorem Le.trans {s s' s'' : AS} (h : Le s s') (k : Le s' s'') : Le s s'' := fun C a w g => k C a w (h C a w g)
theorem Le.frzTop {ts : List (Nat × AV)} {hs : List (Nat × Option (List AV))} {n : Nat} {z0 : Lo} {d i m e : Nat} {cs : List AV} :
  Le ⟨(d, .own i 0 m e) :: ts, (i, some cs) :: hs, n, z0⟩ ⟨(d, .imm m cs) :: ts, (i, none) :: hs, n, z0⟩ := by
 refine (Le.frzD (d := d) (i := i) (m := m) (e := e) (cs := cs) (by simp [kT]) (by simp [e6])).trans ?_
 refine Le.of (fun t av h => ?_) (fun j c h => ?_) (Nat.le_refl _) rfl
 ·show lk ((d, .imm m cs) :: (d, .own i 0 m e) :: ts) t = _
  have h' : lk ((d, .imm m cs) :: ts) t = some av := h
  simp only [kT] at h' ⊢
  split
  ·rename_i q; rw [if_pos q] at h'; exact h'
  ·rename_i q; rw [if_neg q] at h'; exact h'
 ·show b8 ((i, none) :: (i, some cs) :: hs) j = _
  have h' : b8 ((i, none) :: hs) j = some c := h
  simp only [e6] at h' ⊢
  split
  ·rename_i q; rw [if_pos q] at h'; exact h'
  ·rename_i q; rw [if_neg q] at h'; exact h'
theorem bF {t el len e : Nat} {parts : Array (Nat × Operand)} {zs : List Value} {l : List (Nat × AV)} {cs : List AV} [ht : SlT P t el] [he : SzT P el e] [hz : ZrT P el zs] (hze : zs.length = e) (hsm : Nat.ble (len * e) 16777216 = true)
  (hl : evs (lk ts) parts.toList = some l) (hfl : hZ (fun i => some (i * e, e)) ((List.replicate len (zs.map .v)).flatten) l = some cs) (hM : Nat.blt n dR = true) (hN : Nat.blt d N = true) (kk : RW P N all Q .txt rest ⟨(d, .imm len cs) :: ts, (n, none) :: hs, n + 1, z0⟩) :
  RW P N all Q .txt (⟨some d, .buildSlice t len parts, ty, pos, af, none⟩ :: rest) ⟨ts, hs, n, z0⟩ :=
 bQ hze hsm hl hfl hM hN (md' := .txt) (gI kk Le.frzTop)
end
end Go.AL

namespace Go.AL
open Go.RowKit
set_option linter.unusedVariables false
set_option linter.unusedSimpArgs false
theorem Le.mv {ts : List (Nat × AV)} {hs : List (Nat × Option (List AV))} {n : Nat} {z0 : Lo} {d i o m e : Nat} {cs : List AV} (hd : lk ts d = some (.own i o m e)) (hi : b8 hs i = some cs) (hn : n < dR) :
  Le ⟨ts, hs, n, z0⟩ ⟨(d, .own n o m e) :: ts, (n, some cs) :: (i, none) :: hs, n + 1, z0⟩ := by
 rintro C a w ⟨h0, ι, g, gh⟩
 have hf : ι n = none := gh.fresh n ⟨Nat.le_refl _, .inl hn⟩
 have hin : ∃ p, ι i = some p := by
  rcases gh.obj i cs hi with ⟨r1, _⟩ | ⟨b, β, _, _, r1, _⟩
  ·exact ⟨_, r1⟩
  ·exact ⟨_, r1⟩
 obtain ⟨pi, hpi⟩ := hin
 have hni : n ≠ i := by rintro rfl; rw [hf] at hpi; cases hpi
 let ι' : Pl := eC ι n (ι i)
 have hnn : ι' n = ι i := by simp only [ι', upd_same]
 have hne' : ∀ id, id ≠ n → ι' id = ι id := fun id h => by simp only [ι', cL _ _ h]
 have hne : ∀ id p, ι id = some p → ι' id = some p := by
  intro id p h
  have : id ≠ n := by rintro rfl; rw [hf] at h; cases h
  rw [hne' _ this, h]
 -- the objects of the new state, under their old ids
 let σ : Nat → Nat := fun id => if id = n then i else id
 have hσ : ∀ id c, b8 ((n, some cs) :: (i, none) :: hs) id = some c → b8 hs (σ id) = some c ∧ ι' id = ι (σ id) ∧ (id = n ∨ id ≠ i) := by
  intro id c h
  simp only [e6] at h
  by_cases q : id = n
  ·subst q
   rw [if_pos rfl] at h; cases h
   exact ⟨by simp only [σ, if_true]; exact hi, by simp only [σ, if_true]; exact hnn, .inl rfl⟩
  ·rw [if_neg q] at h
   by_cases q2 : id = i
   ·rw [if_pos q2] at h; cases h
   ·rw [if_neg q2] at h
    exact ⟨by simp only [σ, if_neg q]; exact h, by simp only [σ, if_neg q]; exact hne' _ q, .inr q2⟩
 have car : Carry w (a6 C.X ι (b8 hs)) ι w (a6 C.X ι' (b8 ((n, some cs) :: (i, none) :: hs))) ι' := by
  refine ⟨fun b o x h1 h2 => ⟨?_, h2⟩, hne, fun _ => Nat.le_refl _⟩
  rintro (h | ⟨id, c, β, q1, q2⟩)
  ·exact h1 (.inl h)
  ·obtain ⟨r1, r2, _⟩ := hσ id c q1
   exact h1 (.inr ⟨σ id, c, β, r1, by rw [← r2]; exact q2⟩)
 refine ⟨h0, ι', ⟨g.df, g.sz, fun t av ht => ?_⟩, ⟨fun id c h => ?_, fun id id' c c' b β β' q1 q2 q3 q4 => ?_, gh.fr, fun id p h => hne _ _ (gh.ex _ _ h), fun id h => ?_⟩⟩
 ·have ht' : lk ((d, .own n o m e) :: ts) t = some av := ht
  rw [kT] at ht'
  split at ht'
  ·rename_i et
   subst et
   cases ht'
   obtain ⟨y, hy, hr⟩ := g.tm t _ hd
   refine ⟨y, hy, ?_⟩
   have hr' := Rd.carry car _ _ hr
   simp only [Rd, hnn] at hr' ⊢
   rw [hne' i (fun h => hni h.symm)] at hr'
   exact hr'
  ·obtain ⟨y, hy, hr⟩ := g.tm t av ht'
   exact ⟨y, hy, Rd.carry car _ _ hr⟩
 ·obtain ⟨r1, r2, _⟩ := hσ id c h
  rcases gh.obj _ c r1 with ⟨s1, s2⟩ | ⟨b, β, arr, e', s1, s2, s3, s4, s5, s6⟩
  ·exact .inl ⟨by rw [r2]; exact s1, s2⟩
  ·exact .inr ⟨b, β, arr, e', by rw [r2]; exact s1, s2, s3, RdC.carryB car _ _ _ (fun o x hx => hx) s4, s5, s6⟩
 ·obtain ⟨r1, r2, r3⟩ := hσ id c q1
  obtain ⟨t1, t2, t3⟩ := hσ id' c' q2
  have := gh.sep _ _ _ _ _ _ _ r1 t1 (by rw [← r2]; exact q3) (by rw [← t2]; exact q4)
  simp only [σ] at this
  split at this <;> split at this
  ·omega
  ·rename_i u1 u2; rcases t3 with t3 | t3
   ·exact absurd t3 u2
   ·exact absurd this.symm t3
  ·rename_i u1 u2; rcases r3 with r3 | r3
   ·exact absurd r3 u1
   ·exact absurd this r3
  ·exact this
 ·have h1 : n + 1 ≤ id := h.1
  have h2 : id < dR ∨ z0.fb ≤ id := h.2
  rw [hne' id (by omega)]
  exact gh.fresh id ⟨by show n ≤ id; omega, h2⟩
end Go.AL

namespace Go.AL
open Go.RowKit
set_option linter.unusedVariables false
theorem Le.slot {ts : List (Nat × AV)} {hs : List (Nat × Option (List AV))} {n : Nat} {z0 : Lo} {d : Nat} {v v' : AV} (hd : lk ts d = some v) (h : ∀ (w : World) (bad : Nat → Prop) (ι : Pl) (y : Value), Rd w bad ι v y → Rd w bad ι v' y) :
  Le ⟨ts, hs, n, z0⟩ ⟨(d, v') :: ts, hs, n, z0⟩ := by
 rintro C a w ⟨h0, ι, g, gh⟩
 refine ⟨h0, ι, ⟨g.df, g.sz, fun t av ht => ?_⟩, gh⟩
 have ht' : lk ((d, v') :: ts) t = some av := ht
 rw [kT] at ht'
 split at ht'
 ·rename_i et
  subst et
  cases ht'
  obtain ⟨y, hy, hr⟩ := g.tm t _ hd
  exact ⟨y, hy, h _ _ _ _ hr⟩
 ·exact g.tm t av ht'
theorem Le.nilImm {ts : List (Nat × AV)} {hs : List (Nat × Option (List AV))} {n : Nat} {z0 : Lo} {d : Nat} (hd : lk ts d = some (.v (.slice none 0 0))) : Le ⟨ts, hs, n, z0⟩ ⟨(d, .imm 0 []) :: ts, hs, n, z0⟩ :=
 Le.slot hd fun w bad ι y h => k5 (av := .v (.slice none 0 0)) h
theorem Ay {α : Type} {f : α → List AV} {hs : List (Nat × Option (List AV))} {i : Nat} (h : b8 hs i = some []) : b8 hs i = some (aI f []) := h
end Go.AL

namespace Go.AL
theorem kY {ts : List Int} {x : Pnt} {us : List Int} {v : Nat} : (wS ts x us).testBit v = (decide (v < ts.length) && decide (fN ts x v ∈ us)) := hR _ _ _
end Go.AL
namespace Go.AL
theorem lN {l : List Nat} {k x : Nat} (h : l[k]! = x) (hk : k < l.length) : l.set k x = l := by
 subst h; rw [cV _ _ hk]; exact List.set_getElem_self hk
end Go.AL
namespace Go.AL
end Go.AL
namespace Go.AL
end Go.AL
namespace Go.AL
end Go.AL

namespace Go.AL
end Go.AL

namespace Go.AL
open Go.RowKit
set_option linter.unusedVariables false
instance (fn : Go.Fn) (f c : List AV) [h : Pur f] [h2 : Pur c] : PurV (.clos fn f c) := ⟨by simp only [AV.pur, h.pf, h2.pf, Bool.and_self]⟩
theorem BX {α : Type} {f : α → List AV} {x : α} {l : List AV} {m : Nat} (h : l = f x) : (List.replicate m l).flatten = aI f (List.replicate m x) := by
 subst h; simp [aI, List.flatMap_def]
section
variable {P : Program} {N : Nat} {Q : Exit → AS → Prop} {all : Array Oper} {rest : List Oper} {ts : List (Nat × AV)} {hs : List (Nat × Option (List AV))} {n : Nat} {z0 : Lo} {md : Md}
variable {d : Nat} {ty : TypeId} {pos : String} {af : Array Edge}
theorem kV {t el e by' m : Nat} {x y : Operand} {zs : List Value} {cs : List AV} {k k' : IntKind} [ht : SlT P t el] [he : SzT P el e] [hb : ByT P el by'] [hz : ZrT P el zs]
  (hx : ev (lk ts) x = some (.v (.int k (m : Int)))) (hy : ev (lk ts) y = some (.v (.int k' (m : Int)))) (hze : zs.length = e) (hsm : by' * m ≤ 281474976710656) (hmx : m ≤ 9223372036854775807)
  (hcs : (List.replicate m (zs.map .v)).flatten = cs) (hM : Nat.blt n dR = true) (hN : Nat.blt d N = true) {md' : Md} [hmd : MdA md (rO x ++ rO y) [.inr n, .inl d] md'] (kk : RW P N all Q md' rest ⟨(d, .own n 0 m e) :: ts, (n, some cs) :: hs, n + 1, z0⟩) :
  RW P N all Q md (⟨some d, .makeSlice t x y, ty, pos, af, none⟩ :: rest) ⟨ts, hs, n, z0⟩ := by
 subst hcs
 exact r7 hx hy hze hsm hmx hM hN (md' := md') (hmd := hmd) kk
end
end Go.AL

namespace Go.AL
open Go.RowKit
theorem mS {H : Nat → Option (List AV)} : iL H [] = some [] := rfl
theorem k6 {H : Nat → Option (List AV)} {c x : AV} {cs l : List AV} (h1 : jA H c = some x) (h2 : iL H cs = some l) : iL H (c :: cs) = some (x :: l) := by
 simp only [iL, h1, h2]
theorem l8 {H : Nat → Option (List AV)} {i m e : Nat} {cs : List AV} (h : H i = some cs) (hp : Pur cs) : jA H (.own i 0 m e) = some (.imm m cs) := by
 simp only [jA, h, Option.bind_some, hp.pf, if_true, List.drop_zero]
theorem y9 {H : Nat → Option (List AV)} {x : Value} : jA H (.v x) = some (.v x) := rfl
section
variable {P : Program} {N : Nat} {Q : Exit → AS → Prop} {all : Array Oper} {rest : List Oper} {ts : List (Nat × AV)} {hs : List (Nat × Option (List AV))} {n : Nat} {z0 : Lo} {md : Md}
variable {d : Nat} {ty : TypeId} {pos : String} {af : Array Edge}
theorem nP {k : FuncId} {args : Array Operand} {tys : Array TypeId} {avs avs2 : List AV} {r : AV} {md' : Md} [hc : CaT P k] (ha : evL (lk ts) args.toList = some avs) (hl : iL (b8 hs) avs = some avs2) (h : PC P k avs2 (fun x => x = r)) (hfr : r.free = true) (hN : Nat.blt d N = true)
  (hmd : MdA md (e7 args.toList ++ rL avs) [.inl d] md') (kk : RW P N all Q md' rest ⟨(d, r) :: ts, hs, n, z0⟩) : RW P N all Q md (⟨some d, .call ⟨.value (.func k), args, tys⟩, ty, pos, af, none⟩ :: rest) ⟨ts, hs, n, z0⟩ := by
 exact Dh ha hl h hfr hN (hmd := hmd) kk
end
theorem AN {k : IntKind} [hk : K6 k] (a : Nat) [ha : Sm a] : fT .and k a 1 = some (.int k ((a &&& 1 : Nat) : Int)) := Bq a 1
section
variable {P : Program} {N : Nat} {Q : Exit → AS → Prop} {all : Array Oper} {rest : List Oper} {ts : List (Nat × AV)} {hs : List (Nat × Option (List AV))} {n : Nat} {z0 : Lo} {md : Md}
variable {d : Nat} {ty : TypeId} {pos : String} {af : Array Edge}
theorem yJ {k : IntKind} {t t' : TypeId} {x y : Operand} {a : Nat} (hx : ev (lk ts) x = some (.v (.int k (a : Int)))) (hy : ev (lk ts) y = some (.v (.int k 1))) (hk : K6 k) (ha : Sm a)
  (hN : Nat.blt d N = true) {md' : Md} [hmd : MdA md (rO x ++ rO y) [.inl d] md'] (kk : RW P N all Q md' rest ⟨(d, .v (.int k ((a &&& 1 : Nat) : Int))) :: ts, hs, n, z0⟩) : RW P N all Q md (⟨some d, .binOp .and t x y t', ty, pos, af, none⟩ :: rest) ⟨ts, hs, n, z0⟩ :=
 eJ hx hy (.inl rfl) (AN a) (eA hN) (by rw [hmd.pf]; exact kk)
end
theorem tT (A v : Nat) : ((A >>> v &&& 1 : Nat) : Int) = 1 ↔ A.testBit v = true := by
 rw [Nat.testBit, Nat.and_comm]
 have : 1 &&& (A >>> v) = (A >>> v) % 2 := by rw [Nat.and_comm, Nat.and_one_is_mod]
 rw [this]
 have := Nat.mod_two_eq_zero_or_one (A >>> v)
 simp only [bne_iff_ne, ne_eq]
 omega
def fI (A : Nat) : List Int := ((List.range 62).filter (A.testBit ·)).map (fun v : Nat => (v : Int))
theorem Am {A k : Nat} (h : ∀ v, k ≤ v → A.testBit v = false) (hk : k ≤ 64) (hA : Sm A) : fI A = ((List.range k).filter (A.testBit ·)).map (fun v : Nat => (v : Int)) := by
 unfold fI
 congr 1
 have e : ∀ (a b : Nat), (∀ v, a ≤ v → v < a + b → A.testBit v = false) → (List.range (a + b)).filter (A.testBit ·) = (List.range a).filter (A.testBit ·) := by
  intro a b hb
  rw [List.range_add, List.filter_append]
  have : List.filter (A.testBit ·) (List.map (fun x => a + x) (List.range b)) = [] := by
   rw [List.filter_eq_nil_iff]
   intro x hx
   rw [List.mem_map] at hx
   obtain ⟨y, hy, rfl⟩ := hx
   rw [List.mem_range] at hy
   rw [hb _ (by omega) (by omega)]; simp
  rw [this, List.append_nil]
 rcases Nat.le_total k 62 with h1 | h1
 ·have := e k (62 - k) (fun v h2 _ => h v h2)
  rwa [show k + (62 - k) = 62 by omega] at this
 ·have := e 62 (k - 62) (fun v h2 _ => Nat.testBit_lt_two_pow (Nat.lt_of_lt_of_le hA.pf (Nat.pow_le_pow_right (by decide) h2)))
  rw [show 62 + (k - 62) = k by omega] at this
  exact this.symm
theorem qZ (p : Nat → Bool) (k : Nat) : (List.range (k + 1)).filter p = (List.range k).filter p ++ (if p k = true then [k] else []) := by
 rw [List.range_succ, List.filter_append]
 congr 1
 by_cases h : p k = true <;> simp [h]
theorem mR {A : Nat} {z : Int} : z ∈ fI A ↔ ∃ v : Nat, v < 62 ∧ A.testBit v = true ∧ z = v := by
 unfold fI
 simp only [List.mem_map, List.mem_filter, List.mem_range]
 constructor
 ·rintro ⟨v, ⟨h1, h2⟩, rfl⟩; exact ⟨v, h1, h2, rfl⟩
 ·rintro ⟨v, h1, h2, rfl⟩; exact ⟨v, ⟨h1, h2⟩, rfl⟩
end Go.AL

namespace Go.AL
theorem zB {A k : Nat} (hA : Sm A) (h : 0 < ((A >>> k : Nat) : Int)) : k < 62 := by
 rcases Nat.lt_or_ge k 62 with h1 | h1
 ·exact h1
 ·have : A >>> k = 0 := by rw [Nat.shiftRight_eq_div_pow]; exact Nat.div_eq_of_lt (Nat.lt_of_lt_of_le hA.pf (Nat.pow_le_pow_right (by decide) h1))
  rw [this] at h; simp at h
theorem Ce {A k : Nat} (h : ((A >>> k : Nat) : Int) ≤ 0) (v : Nat) (hv : k ≤ v) : A.testBit v = false := by
 have h0 : A >>> k = 0 := Nat.le_zero.1 (Int.ofNat_le.1 h)
 have : A.testBit v = (A >>> k).testBit (v - k) := by rw [Nat.testBit_shiftRight]; congr 1; omega
 rw [this, h0]; simp
theorem Al {A k : Nat} {u : List Int} (h : ((A >>> k &&& 1 : Nat) : Int) = 1) (hu : u = ((List.range k).filter (A.testBit ·)).map (fun v : Nat => (v : Int))) : u ++ [(k : Int)] = ((List.range (k + 1)).filter (A.testBit ·)).map (fun v : Nat => (v : Int)) := by
 rw [qZ, if_pos ((tT A k).1 h), List.map_append, hu]; rfl
theorem Ax {A k : Nat} {u : List Int} (h : ¬ ((A >>> k &&& 1 : Nat) : Int) = 1) (hu : u = ((List.range k).filter (A.testBit ·)).map (fun v : Nat => (v : Int))) : u = ((List.range (k + 1)).filter (A.testBit ·)).map (fun v : Nat => (v : Int)) := by
 rw [qZ, if_neg (fun q => h ((tT A k).2 q)), List.append_nil, hu]
end Go.AL

namespace Go.AL
open Go.RowKit
set_option linter.unusedVariables false
section
variable {P : Program} {N : Nat} {Q : Exit → AS → Prop} {all : Array Oper} {rest : List Oper} {ts : List (Nat × AV)} {hs : List (Nat × Option (List AV))} {n : Nat} {z0 : Lo} {md : Md}
variable {d : Nat} {ty : TypeId} {pos : String} {af : Array Edge}
end
end Go.AL

namespace Go.AL
end Go.AL
namespace Go.AL
end Go.AL

namespace Go.AL
theorem eG (A : Nat) : (fI A).length ≤ 62 := by
 unfold fI; rw [List.length_map]; exact Nat.le_trans (List.length_filter_le _ _) (by simp)
end Go.AL
namespace Go.AL
end Go.AL

namespace Go.AL
end Go.AL
namespace Go.AL
end Go.AL

namespace Go.AL
open Go.RowKit
set_option linter.unusedVariables false
section
variable {P : Program} {N : Nat} {Q : Exit → AS → Prop} {all : Array Oper} {rest : List Oper} {ts : List (Nat × AV)} {hs : List (Nat × Option (List AV))} {n : Nat} {z0 : Lo} {md : Md}
variable {d : Nat} {ty : TypeId} {pos : String} {af : Array Edge}
theorem sE {e : Nat} (hM : Nat.blt n dR = true) (hN : Nat.blt d N = true) (kk : RW P N all Q .txt rest ⟨(d, .own n 0 0 e) :: ts, (n, some []) :: hs, n + 1, z0⟩) :
  RW P N all Q .txt (⟨some d, .assign (.const (.slice none 0 0)), ty, pos, af, none⟩ :: rest) ⟨ts, hs, n, z0⟩ := by
 refine aC (av := .v (.slice none 0 0)) rfl hN (md' := .txt) (gI kk ((Le.nilOwn (d := d) e (by simp [kT]) (eA hM)).trans ?_))
 refine Le.of (fun t av h => ?_) (fun i c h => h) (Nat.le_refl _) rfl
 show lk ((d, .own n 0 0 e) :: (d, .v (.slice none 0 0)) :: ts) t = _
 have h' : lk ((d, .own n 0 0 e) :: ts) t = some av := h
 simp only [kT] at h' ⊢
 split
 ·rename_i q; rw [if_pos q] at h'; exact h'
 ·rename_i q; rw [if_neg q] at h'; exact h'
end
end Go.AL

namespace Go.AL
end Go.AL

namespace Go.AL
end Go.AL

namespace Go.AL
end Go.AL
namespace Go.AL
end Go.AL

namespace Go.AL
open Go.RowKit
set_option linter.unusedVariables false
section
variable {P : Program} {N : Nat} {Q : Exit → AS → Prop} {all : Array Oper} {rest : List Oper} {ts : List (Nat × AV)} {hs : List (Nat × Option (List AV))} {n : Nat} {z0 : Lo} {md : Md}
variable {d : Nat} {ty : TypeId} {pos : String} {af : Array Edge}
end
end Go.AL

namespace Go.AL
end Go.AL

namespace Go.AL
open Go.RowKit
set_option linter.unusedVariables false
class BoT (P : Program) (t : Nat) : Prop where pf : P.underlying t = some .bool
theorem yP {P : Program} {t : TypeId} (h : P.underlying t = some .bool) (a b : Bool) (w : World) : (Op.equal t (.bool a) (.bool b)).run P w = .ok (decide (a = b)) w := by
 have e : ∀ d : Nat, (Op.equalIn (d + 1) t (.bool a) (.bool b)).run P w = .ok (a == b) w := fun d => by
  simp [Op.equalIn, run_underlying h]
 have : (a == b) = decide (a = b) := by cases a <;> cases b <;> rfl
 rw [← this]; exact e 9999
def Fl (op : BinOp) (a b : Bool) : Option Value :=
 match op with
 | .eql => some (.bool (decide (a = b)))
 | .neq => some (.bool (!decide (a = b)))
 | _ => none
section
variable {P : Program} {C : Ctx} {ι : Pl} {T : Nat → Option AV} {H : Nat → Option (List AV)} {a : Act} {w : World} {o : Oper}
theorem C4 (g : TG C ι T H a w) {op : BinOp} {t t' : TypeId} {x y : Operand} {m n : Bool} {v : Value} (ht : P.underlying t = some .bool) (ho : o.op = .binOp op t x y t')
  (hx : ev T x = some (.v (.bool m))) (hy : ev T y = some (.v (.bool n))) (h : Fl op m n = some v) : Pu P C ι H a w o (.v v) := by
 have h1 := cS g hx
 have h2 := cS g hy
 simp only [Rd] at h1 h2
 refine ⟨v, ?_, by simp [Rd]⟩
 have hg : (eqGuard op t x y (.bool m) (.bool n)).run P w = .ok () w := by
  unfold eqGuard
  cases op <;> simp
 have hb : (binOp op t (.bool m) (.bool n)).run P w = .ok v w := by
  cases op <;> simp only [Fl] at h <;> cases h
  ·simp [binOp, yP (P := P) ht]
  ·simp [binOp, yP (P := P) ht]
 simp only [execOp, ho, h1, h2, Sem.run_bind, hg, Result.andThen_ok, hb, Sem.run_pure]
end
section
variable {P : Program} {N : Nat} {Q : Exit → AS → Prop} {all : Array Oper} {rest : List Oper} {ts : List (Nat × AV)} {hs : List (Nat × Option (List AV))} {n : Nat} {z0 : Lo} {md : Md}
variable {d : Nat} {ty : TypeId} {pos : String} {af : Array Edge}
theorem yF {op : BinOp} {t t' : TypeId} {x y : Operand} {m m' : Bool} {v : Value} [ht : BoT P t] (hx : ev (lk ts) x = some (.v (.bool m))) (hy : ev (lk ts) y = some (.v (.bool m')))
  (h : Fl op m m' = some v) (hN : Nat.blt d N = true) {md' : Md} [hmd : MdA md (rO x ++ rO y) [.inl d] md'] (kk : RW P N all Q md' rest ⟨(d, .v v) :: ts, hs, n, z0⟩) : RW P N all Q md (⟨some d, .binOp op t x y t', ty, pos, af, none⟩ :: rest) ⟨ts, hs, n, z0⟩ :=
 eE rfl rfl (eA hN) (fun C ι F T H a w ag g gh => C4 g ht.pf rfl (ag.l.ev.trans hx) (ag.r.ev.trans hy) h) (by rw [hmd.pf]; exact kk)
end
theorem gF {α : Type} {f : α → List AV} {e m : Nat} [h : FlT f e] {ys : List α} {H : Nat → Option (List AV)} (hm : m = ys.length) : sCells H e (mU (.imm m (aI f ys))) = some (m, aI f ys) := by
 subst hm
 have hl : (aI f ys).length = ys.length * e := aT f ys
 show (if ys.length * e ≤ (aI f ys).length then some (ys.length, (aI f ys).take (ys.length * e)) else none) = _
 rw [if_pos (by omega), List.take_of_length_le (by omega)]
theorem dW {α : Type} {f : α → List AV} {ys : List α} {e m : Nat} {L : List AV} (h : m = 0) : (((List.replicate 0 L).flatten).drop 0).take (m * e) ++ aI f ys = aI f ys := by subst h; simp
theorem Le.cells {ts : List (Nat × AV)} {hs : List (Nat × Option (List AV))} {n : Nat} {z0 : Lo} {i : Nat} {cs cs' : List AV} (hi : b8 hs i = some cs) (hl : cs'.length = cs.length)
  (h : ∀ (w : World) (bad : Nat → Prop) (ι : Pl) (b β : Nat), RdC w bad ι cs b β → RdC w bad ι cs' b β) :
  Le ⟨ts, hs, n, z0⟩ ⟨ts, (i, some cs') :: hs, n, z0⟩ := by
 rintro C a w ⟨h0, ι, g, gh⟩
 have hk : ∀ id c, b8 ((i, some cs') :: hs) id = some c → (id = i ∧ c = cs') ∨ (id ≠ i ∧ b8 hs id = some c) := by
  intro id c hc
  rw [e6] at hc
  split at hc
  ·rename_i e; cases hc; exact .inl ⟨e, rfl⟩
  ·rename_i e; exact .inr ⟨fun h => e h, hc⟩
 have hk2 : ∀ id c, b8 hs id = some c → ∃ c', b8 ((i, some cs') :: hs) id = some c' := by
  intro id c hc
  rw [e6]
  split
  ·exact ⟨_, rfl⟩
  ·exact ⟨_, hc⟩
 have hb : a6 C.X ι (b8 ((i, some cs') :: hs)) = a6 C.X ι (b8 hs) := by
  funext b
  refine propext ⟨?_, ?_⟩
  ·rintro (h | ⟨id, c, β, h1, h2⟩)
   ·exact .inl h
   ·rcases hk id c h1 with ⟨rfl, _⟩ | ⟨_, h3⟩
    ·exact .inr ⟨_, _, _, hi, h2⟩
    ·exact .inr ⟨_, _, _, h3, h2⟩
  ·rintro (h | ⟨id, c, β, h1, h2⟩)
   ·exact .inl h
   ·obtain ⟨c', h3⟩ := hk2 id c h1
    exact .inr ⟨_, _, _, h3, h2⟩
 refine ⟨h0, ι, ⟨g.df, g.sz, fun t av ht => ?_⟩, ?_, ?_, gh.fr, gh.ex, gh.fresh⟩
 ·show ∃ y, a.tmps[t]? = some y ∧ Rd w (a6 C.X ι (b8 ((i, some cs') :: hs))) ι av y
  rw [hb]; exact g.tm t av ht
 ·intro id c hc
  show _ ∨ ∃ b β arr e, ι id = some (some (b, β)) ∧ w.heap[b]? = some (.cells arr e (0, 0)) ∧ β + c.length ≤ arr.size ∧ RdC w (a6 C.X ι (b8 ((i, some cs') :: hs))) ι c b β ∧ ¬ C.X b ∧ (C.W0 b ∨ C.w0.heap.size ≤ b)
  rw [hb]
  rcases hk id c hc with ⟨rfl, rfl⟩ | ⟨_, h3⟩
  ·rcases gh.obj _ _ hi with ⟨q1, q2⟩ | ⟨b, β, arr, e, q1, q2, q3, q4, q5⟩
   ·subst q2
    exact .inl ⟨q1, List.eq_nil_of_length_eq_zero hl⟩
   ·exact .inr ⟨b, β, arr, e, q1, q2, by rw [hl]; exact q3, h _ _ _ _ _ q4, q5⟩
  ·exact gh.obj _ _ h3
 ·intro id id' c c' b β β' h1 h2 h3 h4
  obtain ⟨d1, e1⟩ : ∃ d, b8 hs id = some d := by
   rcases hk id c h1 with ⟨rfl, _⟩ | ⟨_, h⟩
   ·exact ⟨_, hi⟩
   ·exact ⟨_, h⟩
  obtain ⟨d2, e2⟩ : ∃ d, b8 hs id' = some d := by
   rcases hk id' c' h2 with ⟨rfl, _⟩ | ⟨_, h⟩
   ·exact ⟨_, hi⟩
   ·exact ⟨_, h⟩
  exact gh.sep id id' d1 d2 b β β' e1 e2 h3 h4
end Go.AL

namespace Go.AL
theorem BH {α : Type} [Inhabited α] (xs : List α) (i : Nat) : xs[i]! = if h : i < xs.length then xs[i] else default := by
 split
 ·rw [cV _ _ ‹_›]
 ·rw [getElem!_neg xs i ‹_›]
end Go.AL

namespace Go.AL
end Go.AL

namespace Go.AL
end Go.AL

namespace Go.AL
open Go.RowKit
set_option linter.unusedVariables false
set_option linter.unusedSimpArgs false
section
variable {P : Program} {N : Nat} {Q : Exit → AS → Prop} {all : Array Oper} {rest : List Oper} {ts : List (Nat × AV)} {hs : List (Nat × Option (List AV))} {n : Nat} {z0 : Lo} {md : Md}
variable {d : Nat} {ty : TypeId} {pos : String} {af : Array Edge}
def Stop (p : Prop) : Prop := p
theorem cF {op : Op} {g : Option (Nat × Bool)} (h : Stop (RW P N all Q md (⟨some d, op, ty, pos, af, g⟩ :: rest) ⟨ts, hs, n, z0⟩)) : RW P N all Q md (⟨some d, op, ty, pos, af, g⟩ :: rest) ⟨ts, hs, n, z0⟩ := h
theorem dB {l : List Oper} {s : AS} (h : RW P N all Q md l s) : Stop (RW P N all Q md l s) := h
theorem wL {t el : TypeId} {x : Operand} {lo : Option Operand} {i o m e l : Nat} [ht : SlT P t el] [he : SzT P el e] (hx : ev (lk ts) x = some (.own i o m e))
  (hl : fL (lk ts) lo 0 = some l) (hb : l ≤ m) (hN : Nat.blt d N = true) {md' : Md} [hmd : MdA md (rO x ++ (rB lo ++ rB none)) [.inl d] md'] (kk : RW P N all Q md' rest ⟨(d, .own i (o + l * e) (m - l) e) :: ts, hs, n, z0⟩) :
  RW P N all Q md (⟨some d, .slice t x lo none none, ty, pos, af, none⟩ :: rest) ⟨ts, hs, n, z0⟩ :=
 gB (m := m) (h := m) hx rfl hl rfl (by simp [E2, hb]) hN (md' := md') (hmd := hmd) kk
end
end Go.AL

namespace Go.AL
end Go.AL

namespace Go.AL
end Go.AL

namespace Go.AL
end Go.AL

namespace Go.AL
end Go.AL

namespace Go.AL
open Go.RowKit
set_option linter.unusedVariables false
set_option linter.unusedSimpArgs false

section
variable {P : Program} {N : Nat} {Q : Exit → AS → Prop} {all : Array Oper} {rest : List Oper} {ts : List (Nat × AV)} {hs : List (Nat × Option (List AV))} {n : Nat} {z0 : Lo} {md : Md}
variable {d : Nat} {ty : TypeId} {pos : String} {af : Array Edge}
end
mutual
inductive Ld (D : List Nat) (H : Nat → Option (List AV)) : AV → AV → Prop
 | pur {v : AV} : v.pur = true → Ld D H v v
 | own {id m e : Nat} {cs cs' : List AV} : id ∈ D → H id = some cs → LdL D H cs cs' → Ld D H (.own id 0 m e) (.imm m cs')
 | optr {id : Nat} {cs cs' : List AV} : id ∈ D → H id = some cs → LdL D H cs cs' → Ld D H (.optr id 0) (.iptr cs')
 | imm {m : Nat} {cs cs' : List AV} : LdL D H cs cs' → Ld D H (.imm m cs) (.imm m cs')
 | agg {cs cs' : List AV} : LdL D H cs cs' → Ld D H (.agg cs) (.agg cs')
inductive LdL (D : List Nat) (H : Nat → Option (List AV)) : List AV → List AV → Prop
 | pur {v : List AV} : cO v = true → LdL D H v v
 | nil : LdL D H [] []
 | cons {c c' : AV} {cs cs' : List AV} : Ld D H c c' → LdL D H cs cs' → LdL D H (c :: cs) (c' :: cs')
end
mutual
theorem Ld.agr {D : List Nat} {H H' : Nat → Option (List AV)} (h : ∀ id ∈ D, H id = H' id) : ∀ {v v' : AV}, Ld D H v v' → Ld D H' v v'
 | _, _, .pur hp => .pur hp
 | _, _, .own h1 h2 h3 => .own h1 (by rw [← h _ h1]; exact h2) (LdL.agr h h3)
 | _, _, .optr h1 h2 h3 => .optr h1 (by rw [← h _ h1]; exact h2) (LdL.agr h h3)
 | _, _, .imm h3 => .imm (LdL.agr h h3)
 | _, _, .agg h3 => .agg (LdL.agr h h3)
theorem LdL.agr {D : List Nat} {H H' : Nat → Option (List AV)} (h : ∀ id ∈ D, H id = H' id) : ∀ {v v' : List AV}, LdL D H v v' → LdL D H' v v'
 | _, _, .pur hp => .pur hp
 | _, _, .nil => .nil
 | _, _, .cons h1 h2 => .cons (Ld.agr h h1) (LdL.agr h h2)
end
theorem LdL.len {D : List Nat} {H : Nat → Option (List AV)} : ∀ {v v' : List AV}, LdL D H v v' → v.length = v'.length
 | _, _, .pur hp => rfl
 | _, _, .nil => rfl
 | _, _, .cons h1 h2 => by simp [LdL.len h2]
mutual
theorem Ld.ok {C : Ctx} {ι : Pl} {F : Nat → Prop} {D : List Nat} {H : Nat → Option (List AV)} {w : World} (g : HG C ι F H w) : ∀ {v v' : AV}, Ld D H v v' → ∀ {y : Value}, Rd w (a6 C.X ι H) ι v y → Rd w C.X (fun _ => none) v' y
 | _, _, .pur hp, y, k => Rd.pur _ y hp (Rd.carry (⟨fun b o x h1 h2 => ⟨fun q => h1 (.inl q), h2⟩, fun _ _ h => h, fun _ => Nat.le_refl _⟩ : Carry w (a6 C.X ι H) ι w C.X ι) _ _ k)
 | _, _, .own (id := id) (m := m) h1 h2 h3, y, k => by
  have hlen := LdL.len h3
  simp only [Rd] at k ⊢
  rcases k with ⟨_, rfl, a, rfl⟩ | ⟨b, β, c, q1, rfl, q2, q3⟩
  ·exact ⟨a, 0, rfl, .inl rfl⟩
  ·rcases g.obj id _ h2 with ⟨p1, _⟩ | ⟨b', β', arr, e', p1, p2, p3, p4, p5, p6⟩
   ·rw [p1] at q1; cases q1
   ·rw [p1] at q1; cases q1
    exact ⟨_, c, rfl, .inr ⟨b, β + 0, q2, rfl, .inr ⟨p5, LdL.okC g h3 p4⟩⟩⟩
 | _, _, .optr (id := id) h1 h2 h3, y, k => by
  simp only [Rd] at k ⊢
  obtain ⟨b, β, q1, rfl⟩ := k
  rcases g.obj id _ h2 with ⟨p1, _⟩ | ⟨b', β', arr, e', p1, p2, p3, p4, p5, p6⟩
  ·rw [p1] at q1; cases q1
  ·rw [p1] at q1; cases q1
   exact ⟨b, β + 0, rfl, .inr ⟨p5, LdL.okC g h3 p4⟩⟩
 | _, _, .imm (cs := cs) (cs' := cs') h3, y, k => by
  have hlen := LdL.len h3
  simp only [Rd] at k ⊢
  obtain ⟨a, c, rfl, k⟩ := k
  refine ⟨a, c, rfl, ?_⟩
  rcases k with k | ⟨b, o, hn, rfl, k⟩
  ·exact .inl k
  ·refine .inr ⟨b, o, hn, rfl, ?_⟩
   rcases k with k | ⟨hb, k⟩
   ·subst k; exact .inl (List.eq_nil_of_length_eq_zero (by rw [← hlen]; rfl))
   ·exact .inr ⟨fun q => hb (.inl q), LdL.okC g h3 k⟩
 | _, _, .agg h3, y, k => by
  simp only [Rd] at k ⊢
  obtain ⟨l, h1, h2⟩ := k
  exact ⟨l, h1, LdL.okL g h3 h2⟩
theorem LdL.okC {C : Ctx} {ι : Pl} {F : Nat → Prop} {D : List Nat} {H : Nat → Option (List AV)} {w : World} (g : HG C ι F H w) : ∀ {v v' : List AV}, LdL D H v v' → ∀ {b o : Nat}, RdC w (a6 C.X ι H) ι v b o → RdC w C.X (fun _ => none) v' b o
 | _, _, .pur hp, b, o, k => RdC.pur _ b o hp (RdC.carryB (⟨fun b o x h1 h2 => ⟨fun q => h1 (.inl q), h2⟩, fun _ _ h => h, fun _ => Nat.le_refl _⟩ : Carry w (a6 C.X ι H) ι w C.X ι) _ _ _ (fun o x hx => hx) k)
 | _, _, .nil, b, o, k => by simp only [RdC]
 | _, _, .cons h1 h2, b, o, k => by
  simp only [RdC] at k ⊢
  obtain ⟨⟨x, q1, q2, q3⟩, q4⟩ := k
  exact ⟨⟨x, q1, q2, Ld.ok g h1 q3⟩, LdL.okC g h2 q4⟩
theorem LdL.okL {C : Ctx} {ι : Pl} {F : Nat → Prop} {D : List Nat} {H : Nat → Option (List AV)} {w : World} (g : HG C ι F H w) : ∀ {v v' : List AV}, LdL D H v v' → ∀ {y : List Value}, RdL w (a6 C.X ι H) ι v y → RdL w C.X (fun _ => none) v' y
 | _, _, .pur hp, y, k => RdL.pur _ y hp (RdL.carry (⟨fun b o x h1 h2 => ⟨fun q => h1 (.inl q), h2⟩, fun _ _ h => h, fun _ => Nat.le_refl _⟩ : Carry w (a6 C.X ι H) ι w C.X ι) _ _ k)
 | _, _, .nil, y, k => by simpa only [RdL] using k
 | _, _, .cons h1 h2, y, k => by
  simp only [RdL] at k ⊢
  obtain ⟨x, l', q0, q1, q2, q3⟩ := k
  exact ⟨x, l', q0, q1, Ld.ok g h1 q2, LdL.okL g h2 q3⟩
end
theorem LdL.okV {C : Ctx} {ι : Pl} {F : Nat → Prop} {D : List Nat} {H : Nat → Option (List AV)} {w : World} (g : HG C ι F H w) : ∀ {v v' : List AV}, LdL D H v v' → ∀ {y : List Value}, RdV w (a6 C.X ι H) ι v y → RdV w C.X (fun _ => none) v' y
 | _, _, .pur hp, y, k => RdV.pur _ y hp (RdV.carry (⟨fun b o x h1 h2 => ⟨fun q => h1 (.inl q), h2⟩, fun _ _ h => h, fun _ => Nat.le_refl _⟩ : Carry w (a6 C.X ι H) ι w C.X ι) _ _ k)
 | _, _, .nil, y, k => by simpa only [RdV] using k
 | _, _, .cons h1 h2, y, k => by
  simp only [RdV] at k ⊢
  obtain ⟨x, l', q0, q2, q3⟩ := k
  exact ⟨x, l', q0, Ld.ok g h1 q2, LdL.okV g h2 q3⟩
section
variable {P : Program} {N : Nat} {Q : Exit → AS → Prop} {all : Array Oper} {rest : List Oper} {ts : List (Nat × AV)} {hs : List (Nat × Option (List AV))} {n : Nat} {z0 : Lo} {md : Md}
variable {d : Nat} {ty : TypeId} {pos : String} {af : Array Edge}
theorem lG {k : FuncId} {args : Array Operand} {tys : Array TypeId} {avs avs2 : List AV} {r : AV} (D : List Nat) [hc : CaT P k] (ha : evL (lk ts) args.toList = some avs) (hl : LdL D (b8 hs) avs avs2) (h : PC P k avs2 (fun x => x = r)) (hfr : r.free = true) (hN : Nat.blt d N = true)
  {md' : Md} [hmd : MdA md (e7 args.toList ++ D.map .inr) [.inl d] md'] (kk : RW P N all Q md' rest ⟨(d, r) :: ts, hs, n, z0⟩) : RW P N all Q md (⟨some d, .call ⟨.value (.func k), args, tys⟩, ty, pos, af, none⟩ :: rest) ⟨ts, hs, n, z0⟩ := by
 refine iP (rs := e7 args.toList ++ D.map .inr) (ws := []) (n' := n) (out := r) rfl (Nat.le_refl _) (.inl rfl) (fun C ι F T H a w K Q' hCN ag hF g gh hK => ?_) (fun x hx => by cases hx; exact eA hN) (by rw [← hmd.pf] at kk; exact kk)
 simp only [Oper.wp, gS hc.pf, Oper.upon]
 have hl' : LdL D H avs avs2 := hl.agr fun id hid => (ag.r.h id (List.mem_map_of_mem hid)).symm
 have hv := hl'.okV gh (gW g (ag.l.evL.trans ha))
 let C' : Ctx := { N := 0, w0 := w, W0 := fun _ => False, X := C.X, ι0 := fun _ => none, xlt := fun b hb => Nat.lt_of_lt_of_le (C.xlt b hb) gh.fr.size }
 have hbad : ∀ b, a6 C'.X (fun _ => none) (b8 []) b ↔ C.X b := fun b => ⟨fun h => (by rcases h with h | ⟨id, cs, β, h1, h2⟩ <;> first | exact h | cases h2), fun h => Or.inl h⟩
 have g' : HG C' (fun _ => none) (fun j => 0 ≤ j) (b8 []) w :=
  ⟨fun id cs h => by simp [b8] at h, fun id id' cs cs' b β β' h => by simp [b8] at h, Fr.refl _ _, fun _ _ h => h, fun _ _ => rfl⟩
 have hcar : Carry w C.X (fun _ => none) w (a6 C'.X (fun _ => none) (b8 [])) (fun _ => none) := ⟨fun b o x h1 h2 => ⟨fun h => h1 ((hbad b).1 h), h2⟩, fun _ _ h => h, fun _ => Nat.le_refl _⟩
 refine (h C' _ w _ rfl rfl g' (RdV.carry hcar _ _ hv)).mono ?_
 rintro e w' ⟨v, r', H', ι', rfl, ⟨rfl, _⟩, h4, h5⟩
 obtain ⟨g2, c2⟩ := gh.ext h5.fr
 exact hK ι w' v (g.carry c2) (g2.less (fun _ _ h => h) (fun j hj => hj.1)).1 (Rd.free _ _ hfr h4)
end
end Go.AL

namespace Go.AL
open Go.RowKit
set_option linter.unusedVariables false
set_option linter.unusedSimpArgs false

theorem RnL.app {ρ : Nat → Option Nat} : ∀ {a a' b b' : List AV}, RnL ρ a a' → RnL ρ b b' → RnL ρ (a ++ b) (a' ++ b')
 | [], a', b, b', ha, hb => by
  have := ha.len
  cases a' with
  | nil => exact hb
  | cons _ _ => simp at this
 | c :: cs, _, b, b', .pur hp, hb => by
  simp only [cO, Bool.and_eq_true] at hp
  exact .cons (.pur hp.1) (RnL.app (.pur hp.2) hb)
 | c :: cs, _, b, b', .cons h1 h2, hb => .cons h1 (RnL.app h2 hb)
end Go.AL

namespace Go.AL
open Go.RowKit
set_option linter.unusedVariables false
set_option linter.unusedSimpArgs false

section
variable {P : Program} {N : Nat} {Q : Exit → AS → Prop}
end

end Go.AL

namespace Go.AL
open Go.RowKit
attribute [local irreducible] dR
set_option linter.unusedVariables false
set_option linter.unusedSimpArgs false

section
variable {P : Program} {N : Nat} {Q : Exit → AS → Prop} {all : Array Oper} {rest : List Oper} {ts : List (Nat × AV)} {hs : List (Nat × Option (List AV))} {n : Nat} {z0 : Lo} {md : Md}
variable {d : Nat} {ty : TypeId} {pos : String} {af : Array Edge}
end
end Go.AL

namespace Go.AL
open Go.RowKit
set_option linter.unusedVariables false
set_option linter.unusedSimpArgs false
theorem Le.virt {ts : List (Nat × AV)} {hs : List (Nat × Option (List AV))} {n : Nat} {z0 : Lo} (hn : n < dR) : Le ⟨ts, hs, n, z0⟩ ⟨ts, (n, some []) :: hs, n + 1, z0⟩ := by
 rintro C a w ⟨h0, ι, g, gh⟩
 obtain ⟨g1, c1⟩ := gh.virt (id := n) ⟨Nat.le_refl _, .inl hn⟩
 have e : b8 ((n, some []) :: hs) = eC (b8 hs) n (some []) := vJ _ _ _
 refine ⟨h0, eC ι n (some none), ?_, ?_⟩
 ·show TG C _ (lk ts) (b8 ((n, some []) :: hs)) a w
  rw [e]; exact g.carry c1
 ·show HG C _ _ (b8 ((n, some []) :: hs)) w
  rw [e]
  refine (g1.less (fun _ _ h => h) (fun j hj => ?_)).1
  have h1 : n + 1 ≤ j := hj.1
  exact ⟨⟨by show n ≤ j; omega, hj.2⟩, by omega⟩
theorem Le.cellsN {ts : List (Nat × AV)} {hs : List (Nat × Option (List AV))} {n : Nat} {z0 : Lo} {i q : Nat} {cs cs' cq : List AV} (hi : b8 hs i = some cs) (hq : b8 hs q = some cq) (hl : cs'.length = cs.length)
  (h : ∀ (w : World) (bad : Nat → Prop) (ι : Pl) (b β : Nat), (∃ p, ι q = some p) → RdC w bad ι cs b β → RdC w bad ι cs' b β) :
  Le ⟨ts, hs, n, z0⟩ ⟨ts, (i, some cs') :: hs, n, z0⟩ := by
 rintro C a w ⟨h0, ι, g, gh⟩
 have hqq : ∃ p, ι q = some p := by
  rcases gh.obj q cq hq with ⟨p1, _⟩ | ⟨_, _, _, _, p1, _⟩ <;> exact ⟨_, p1⟩
 have hk : ∀ id c, b8 ((i, some cs') :: hs) id = some c → (id = i ∧ c = cs') ∨ (id ≠ i ∧ b8 hs id = some c) := by
  intro id c hc
  rw [e6] at hc
  split at hc
  ·rename_i e; cases hc; exact .inl ⟨e, rfl⟩
  ·rename_i e; exact .inr ⟨fun h => e h, hc⟩
 have hk2 : ∀ id c, b8 hs id = some c → ∃ c', b8 ((i, some cs') :: hs) id = some c' := by
  intro id c hc
  rw [e6]
  split
  ·exact ⟨_, rfl⟩
  ·exact ⟨_, hc⟩
 have hb : a6 C.X ι (b8 ((i, some cs') :: hs)) = a6 C.X ι (b8 hs) := by
  funext b
  refine propext ⟨?_, ?_⟩
  ·rintro (h | ⟨id, c, β, h1, h2⟩)
   ·exact .inl h
   ·rcases hk id c h1 with ⟨rfl, _⟩ | ⟨_, h3⟩
    ·exact .inr ⟨_, _, _, hi, h2⟩
    ·exact .inr ⟨_, _, _, h3, h2⟩
  ·rintro (h | ⟨id, c, β, h1, h2⟩)
   ·exact .inl h
   ·obtain ⟨c', h3⟩ := hk2 id c h1
    exact .inr ⟨_, _, _, h3, h2⟩
 refine ⟨h0, ι, ⟨g.df, g.sz, fun t av ht => ?_⟩, ?_, ?_, gh.fr, gh.ex, gh.fresh⟩
 ·show ∃ y, a.tmps[t]? = some y ∧ Rd w (a6 C.X ι (b8 ((i, some cs') :: hs))) ι av y
  rw [hb]; exact g.tm t av ht
 ·intro id c hc
  show _ ∨ ∃ b β arr e, ι id = some (some (b, β)) ∧ w.heap[b]? = some (.cells arr e (0, 0)) ∧ β + c.length ≤ arr.size ∧ RdC w (a6 C.X ι (b8 ((i, some cs') :: hs))) ι c b β ∧ ¬ C.X b ∧ (C.W0 b ∨ C.w0.heap.size ≤ b)
  rw [hb]
  rcases hk id c hc with ⟨rfl, rfl⟩ | ⟨_, h3⟩
  ·rcases gh.obj _ _ hi with ⟨q1, q2⟩ | ⟨b, β, arr, e, q1, q2, q3, q4, q5⟩
   ·subst q2
    exact .inl ⟨q1, List.eq_nil_of_length_eq_zero hl⟩
   ·exact .inr ⟨b, β, arr, e, q1, q2, by rw [hl]; exact q3, h _ _ _ _ _ hqq q4, q5⟩
  ·exact gh.obj _ _ h3
 ·intro id id' c c' b β β' h1 h2 h3 h4
  obtain ⟨d1, e1⟩ : ∃ d, b8 hs id = some d := by
   rcases hk id c h1 with ⟨rfl, _⟩ | ⟨_, h⟩
   ·exact ⟨_, hi⟩
   ·exact ⟨_, h⟩
  obtain ⟨d2, e2⟩ : ∃ d, b8 hs id' = some d := by
   rcases hk id' c' h2 with ⟨rfl, _⟩ | ⟨_, h⟩
   ·exact ⟨_, hi⟩
   ·exact ⟨_, h⟩
  exact gh.sep id id' d1 d2 b β β' e1 e2 h3 h4
theorem nF {w : World} {bad : Nat → Prop} {ι : Pl} {c c' : AV} (hc : ∀ y, Rd w bad ι c y → Rd w bad ι c' y) : ∀ (a : List AV) (r : List AV) (b o : Nat), RdC w bad ι (a ++ c :: r) b o → RdC w bad ι (a ++ c' :: r) b o
 | [], r, b, o, h => by
  simp only [List.nil_append, RdC] at h ⊢
  obtain ⟨⟨x, h1, h2, h3⟩, h4⟩ := h
  exact ⟨⟨x, h1, h2, hc _ h3⟩, h4⟩
 | x :: a, r, b, o, h => by
  simp only [List.cons_append, RdC] at h ⊢
  exact ⟨h.1, nF hc a r b (o + 1) h.2⟩
theorem Le.nilCell {ts : List (Nat × AV)} {hs : List (Nat × Option (List AV))} {n : Nat} {z0 : Lo} {i : Nat} (e : Nat) (c1 : List AV) {c2 : List AV} (hi : b8 hs i = some (c1 ++ .v (.slice none 0 0) :: c2)) (hin : i ≠ n) (hn : n < dR) :
  Le ⟨ts, hs, n, z0⟩ ⟨ts, (i, some (c1 ++ .own n 0 0 e :: c2)) :: (n, some []) :: hs, n + 1, z0⟩ :=
 (Le.virt hn).trans (Le.cellsN (q := n) (cs := c1 ++ .v (.slice none 0 0) :: c2) (by rw [e6, if_neg hin]; exact hi) (by rw [e6, if_pos rfl]) (by simp) fun w bad ι b β hp hr =>
  nF (fun y hy => by simp only [Rd] at hy ⊢; exact .inl ⟨hp, trivial, none, hy⟩) c1 c2 b β hr)
theorem Le.frzC {ts : List (Nat × AV)} {hs : List (Nat × Option (List AV))} {n : Nat} {z0 : Lo} {j i m e : Nat} (c1 : List AV) {c2 d : List AV} (hj : b8 hs j = some (c1 ++ .own i 0 m e :: c2)) (hi : b8 hs i = some d) (hij : j ≠ i) :
  Le ⟨ts, hs, n, z0⟩ ⟨ts, (j, some (c1 ++ .imm m d :: c2)) :: (i, none) :: hs, n, z0⟩ := by
 rintro C a w ⟨h0, ι, g, gh⟩
 have hk : ∀ id c, b8 ((j, some (c1 ++ .imm m d :: c2)) :: (i, none) :: hs) id = some c → (id = j ∧ c = c1 ++ .imm m d :: c2) ∨ (id ≠ j ∧ id ≠ i ∧ b8 hs id = some c) := by
  intro id c hc
  rw [e6] at hc
  split at hc
  ·rename_i e; cases hc; exact .inl ⟨e, rfl⟩
  ·rename_i e
   rw [e6] at hc
   split at hc
   ·cases hc
   ·rename_i e2; exact .inr ⟨e, e2, hc⟩
 have hk2 : ∀ id c, b8 ((j, some (c1 ++ .imm m d :: c2)) :: (i, none) :: hs) id = some c → id ≠ i ∧ ∃ c', b8 hs id = some c' := by
  intro id c hc
  rcases hk id c hc with ⟨rfl, _⟩ | ⟨_, h2, h3⟩
  ·exact ⟨hij, _, hj⟩
  ·exact ⟨h2, _, h3⟩
 have hbad : ∀ b, a6 C.X ι (b8 ((j, some (c1 ++ .imm m d :: c2)) :: (i, none) :: hs)) b → a6 C.X ι (b8 hs) b := by
  rintro b (h | ⟨id, c, β, h1, h2⟩)
  ·exact .inl h
  ·obtain ⟨_, c', h3⟩ := hk2 id c h1
   exact .inr ⟨id, c', β, h3, h2⟩
 have car : Carry w (a6 C.X ι (b8 hs)) ι w (a6 C.X ι (b8 ((j, some (c1 ++ .imm m d :: c2)) :: (i, none) :: hs))) ι := ⟨fun b o x h1 h2 => ⟨fun q => h1 (hbad b q), h2⟩, fun _ _ h => h, fun _ => Nat.le_refl _⟩
 have hcell : ∀ y, Rd w (a6 C.X ι (b8 ((j, some (c1 ++ .imm m d :: c2)) :: (i, none) :: hs))) ι (.own i 0 m e) y → Rd w (a6 C.X ι (b8 ((j, some (c1 ++ .imm m d :: c2)) :: (i, none) :: hs))) ι (.imm m d) y := by
  intro y hr
  simp only [Rd] at hr ⊢
  rcases hr with ⟨_, h2, a', h3⟩ | ⟨b, β, c, h1, h2, h3, h4⟩
  ·subst h2; exact ⟨a', 0, h3, .inl rfl⟩
  ·refine ⟨_, c, h2, ?_⟩
   rcases Nat.eq_zero_or_pos m with h5 | h5
   ·exact .inl h5
   ·refine .inr ⟨b, β + 0, h3, rfl, ?_⟩
    rcases gh.obj i d hi with ⟨q1, q2⟩ | ⟨b', β', arr, e', q1, q2, q3, q4, q5, q6⟩
    ·rw [h1] at q1; cases q1
    ·rw [h1] at q1; cases q1
     refine .inr ⟨?_, RdC.carryB car _ _ _ (fun o x hx => hx) q4⟩
     rintro (h | ⟨id', cs', β', r1, r2⟩)
     ·exact q5 h
     ·obtain ⟨r3, c', r4⟩ := hk2 id' cs' r1
      exact r3 (gh.sep _ _ _ _ _ _ _ r4 hi r2 h1)
 refine ⟨h0, ι, g.carry car, ⟨fun id c hc => ?_, fun id id' c c' b β β' h1 h2 h3 h4 => ?_, gh.fr, gh.ex, gh.fresh⟩⟩
 ·rcases hk id c hc with ⟨rfl, rfl⟩ | ⟨_, _, h3⟩
  ·rcases gh.obj _ _ hj with ⟨q1, q2⟩ | ⟨b, β, arr, e, q1, q2, q3, q4, q5⟩
   ·simp at q2
   ·exact .inr ⟨b, β, arr, e, q1, q2, by simpa using q3, nF hcell c1 c2 b β (RdC.carryB car _ _ _ (fun o x hx => hx) q4), q5⟩
  ·rcases gh.obj _ _ h3 with ⟨q1, q2⟩ | ⟨b, β, arr, e, q1, q2, q3, q4, q5⟩
   ·exact .inl ⟨q1, q2⟩
   ·exact .inr ⟨b, β, arr, e, q1, q2, q3, RdC.carryB car _ _ _ (fun o x hx => hx) q4, q5⟩
 ·obtain ⟨_, d1, e1⟩ := hk2 id c h1
  obtain ⟨_, d2, e2⟩ := hk2 id' c' h2
  exact gh.sep id id' d1 d2 b β β' e1 e2 h3 h4
end Go.AL

namespace Go.AL
open Go.RowKit
set_option linter.unusedVariables false
set_option linter.unusedSimpArgs false
theorem Ec {cs : List AV} {v : Nat} {c : AV} : gO cs (0 + v * 1) [c] = cs.take v ++ c :: cs.drop (v + 1) := by
 unfold gO; simp
end Go.AL

namespace Go.AL
open Go.RowKit
set_option linter.unusedVariables false
def Eg (op : BinOp) (a b : ByteArray) : Option Value :=
 match op with
 | .add => if a.size + b.size ≤ 9000000000000000000 then some (.string (a ++ b)) else none
 | .eql => some (.bool (a.toList == b.toList))
 | .neq => some (.bool (!(a.toList == b.toList)))
 | _ => none
def BB (s : ByteArray) (l : List Int) : ByteArray := l.foldl (fun r n => r.push (UInt8.ofNat n.toNat)) s
section
variable {P : Program} {C : Ctx} {ι : Pl} {T : Nat → Option AV} {F : Nat → Prop} {H : Nat → Option (List AV)} {a : Act} {w : World} {o : Oper}
theorem DP (g : TG C ι T H a w) {op : BinOp} {t t' : TypeId} {x y : Operand} {m n : ByteArray} {v : Value} (ho : o.op = .binOp op t x y t')
  (hx : ev T x = some (.v (.string m))) (hy : ev T y = some (.v (.string n))) (h : Eg op m n = some v) : Pu P C ι H a w o (.v v) := by
 have h1 := cS g hx
 have h2 := cS g hy
 simp only [Rd] at h1 h2
 refine ⟨v, ?_, by simp [Rd]⟩
 have hg : (eqGuard op t x y (.string m) (.string n)).run P w = .ok () w := by
  unfold eqGuard
  cases op <;> simp
 have hb : (binOp op t (.string m) (.string n)).run P w = .ok v w := by
  cases op <;> simp only [Eg] at h <;> first | (cases h; done) | skip
  ·split at h
   ·rename_i hs
    cases h
    have h9 : ¬ (((m.size + n.size : Nat) : Int) > IntKind.i64.max) := by
     have : IntKind.i64.max = 9223372036854775807 := rfl
     omega
    show ((if ((m.size + n.size : Nat) : Int) > IntKind.i64.max then _ else pure (.string (m ++ n)) : Sem Value)).run P w = _
    rw [if_neg h9]; simp
   ·cases h
  all_goals (cases h; simp [binOp, Op.stringOp])
 simp only [execOp, ho, h1, h2, Sem.run_bind, hg, Result.andThen_ok, hb, Sem.run_pure]
theorem uO {bad : Nat → Prop} {k : IntKind} : ∀ {ns : List Int} {l : List Value}, RdL w bad ι (ns.map fun n => .v (.int k n)) l → l = ns.map (Value.int k)
 | [], l, h => by simp only [List.map_nil, RdL] at h; exact h
 | n :: ns, l, h => by
  simp only [List.map_cons, RdL] at h
  obtain ⟨x, l', rfl, h0, h1, h2⟩ := h
  simp only [Rd] at h1
  rw [h1, uO h2, List.map_cons]
theorem Et (g : TG C ι T H a w) (gh : HG C ι F H w) {s t el : TypeId} {x : Operand} {av : AV} {m : Nat} {ns : List Int} (ho : o.op = .convert s t x) (hx : ev T x = some av)
  (ht : j5 P s = some el) (hu : u7 P el = some .u8) (hst : P.underlying t = some .string) (hs : sCells H 1 (mU av) = some (m, ns.map fun n => .v (.int .u8 n))) :
  Pu P C ι H a w o (.v (.string (BB .empty ns))) := by
 obtain ⟨ad, c, l, h1, h2, h3, h4, h5⟩ := qX gh (k5 (cS g hx)) hs
 have hl := uO h3
 have hll : ns.length = m := by have := h2; rw [hl] at this; simpa using this
 refine ⟨.string (BB .empty ns), ?_, by simp [Rd]⟩
 have hcv : (convert s t (.slice ad m c)).run P w = (Conv.bytesToString (.slice ad m c)).run P w := run_convert_bytes_string w s t el ad m c (iW ht) (wY hu) hst
 have hrun : (Conv.bytesToString (.slice ad m c)).run P w = .ok (.string (BB .empty ns)) w := by
  cases ad with
  | none =>
   rcases h5 with ⟨b, o', h⟩ | h
   ·cases h
   ·subst h
    have : ns = [] := List.eq_nil_of_length_eq_zero hll
    subst this
    rfl
  | some ad =>
   have hload : (loadCells ad m).run P w = .ok (ns.map (Value.int .u8)).toArray w := by
    rcases h5 with ⟨b, o', h⟩ | h
    ·cases h
     have := run_loadCells_list (P := P) w ⟨b, o', none⟩ l (fun j v hj => by rw [Addr.add_lit]; exact h4 b o' rfl j v hj)
     rw [h2, Nat.mul_one, hl] at this
     exact this
    ·subst h
     have : ns = [] := List.eq_nil_of_length_eq_zero hll
     subst this
     simp [loadCells, loadCellsFrom]
   exact run_bytesToString w ad m c ns hload
 simp only [execOp, ho, h1, Sem.run_bind, hcv, hrun, Result.andThen_ok, Sem.run_pure]
end
section
variable {P : Program} {C : Ctx} {ι : Pl} {T : Nat → Option AV} {F : Nat → Prop} {H : Nat → Option (List AV)} {a : Act} {w : World} {o : Oper}
end
section
variable {P : Program} {N : Nat} {Q : Exit → AS → Prop} {all : Array Oper} {rest : List Oper} {ts : List (Nat × AV)} {hs : List (Nat × Option (List AV))} {n : Nat} {z0 : Lo} {md : Md}
variable {d : Nat} {ty : TypeId} {pos : String} {af : Array Edge}
theorem jT {op : BinOp} {t t' : TypeId} {x y : Operand} {m m' : ByteArray} {v : Value} (hx : ev (lk ts) x = some (.v (.string m))) (hy : ev (lk ts) y = some (.v (.string m')))
  (h : Eg op m m' = some v) (hN : Nat.blt d N = true) {md' : Md} [hmd : MdA md (rO x ++ rO y) [.inl d] md'] (kk : RW P N all Q md' rest ⟨(d, .v v) :: ts, hs, n, z0⟩) : RW P N all Q md (⟨some d, .binOp op t x y t', ty, pos, af, none⟩ :: rest) ⟨ts, hs, n, z0⟩ :=
 eE rfl rfl (eA hN) (fun C ι F T H a w ag g gh => DP g rfl (ag.l.ev.trans hx) (ag.r.ev.trans hy) h) (by rw [hmd.pf]; exact kk)
theorem BS {s t el : TypeId} {x : Operand} {av : AV} {m : Nat} (ns : List Int) [ht : SlT P s el] [hu : InT P el .u8] [hst : StT P t] (hx : ev (lk ts) x = some av)
  (hs' : sCells (b8 hs) 1 (mU av) = some (m, ns.map fun n => .v (.int .u8 n))) (hN : Nat.blt d N = true) {md' : Md} [hmd : MdA md (rO x ++ rA av) [.inl d] md'] (kk : RW P N all Q md' rest ⟨(d, .v (.string (BB .empty ns))) :: ts, hs, n, z0⟩) :
  RW P N all Q md (⟨some d, .convert s t x, ty, pos, af, none⟩ :: rest) ⟨ts, hs, n, z0⟩ :=
 eE rfl rfl (eA hN) (fun C ι F T H a w ag g gh => Et g gh rfl (ag.l.ev.trans hx) ht.pf hu.pf hst.pf (ag.r.sCells.trans hs')) (by rw [hmd.pf]; exact kk)
theorem mM {t : TypeId} {x i : Operand} {s : ByteArray} {k : IntKind} {m : Int} [ht : StT P t] (hx : ev (lk ts) x = some (.v (.string s)))
  (hi : ev (lk ts) i = some (.v (.int k m))) (hm : 0 ≤ m ∧ m < (s.size : Int)) (hN : Nat.blt d N = true) {md' : Md} [hmd : MdA md (rO x ++ rO i) [.inl d] md'] (kk : RW P N all Q md' rest ⟨(d, .v (.int .u8 ((s[m.toNat]!).toNat : Int))) :: ts, hs, n, z0⟩) :
  RW P N all Q md (⟨some d, .index t x i, ty, pos, af, none⟩ :: rest) ⟨ts, hs, n, z0⟩ :=
 zU (b := s[m.toNat]!) hx hi ht.pf hm.1 (by rw [getElem!_pos s m.toNat (by omega), getElem?_pos s m.toNat (by omega)]) (eA hN) (by rw [hmd.pf]; exact kk)
theorem zM {t : TypeId} {x : Operand} {lo hi : Option Operand} {s : ByteArray} {l h : Nat} [ht : StT P t] (hx : ev (lk ts) x = some (.v (.string s)))
  (hl : fL (lk ts) lo 0 = some l) (hh : fL (lk ts) hi s.size = some h) (hc : l ≤ h ∧ h ≤ s.size) (hN : Nat.blt d N = true) {md' : Md} [hmd : MdA md (rO x ++ (rB lo ++ rB hi)) [.inl d] md'] (kk : RW P N all Q md' rest ⟨(d, .v (.string (s.extract l h))) :: ts, hs, n, z0⟩) :
  RW P N all Q md (⟨some d, .slice t x lo hi none, ty, pos, af, none⟩ :: rest) ⟨ts, hs, n, z0⟩ := AO hx ht.pf hl hh hc (eA hN) (by rw [hmd.pf]; exact kk)
theorem A6 (m : Int) (h : 0 ≤ m ∧ m ≤ 255) : IntKind.u8.wrap m = m := by
 have : IntKind.u8.wrap m = m % 256 := rfl
 rw [this]; omega
theorem Dt {t t' : TypeId} {x y : Operand} {m m' : Int} (hx : ev (lk ts) x = some (.v (.int .u8 m))) (hy : ev (lk ts) y = some (.v (.int .u8 m')))
  (h : 0 ≤ m + m' ∧ m + m' ≤ 255) (hN : Nat.blt d N = true) {md' : Md} [hmd : MdA md (rO x ++ rO y) [.inl d] md'] (kk : RW P N all Q md' rest ⟨(d, .v (.int .u8 (m + m'))) :: ts, hs, n, z0⟩) : RW P N all Q md (⟨some d, .binOp .add t x y t', ty, pos, af, none⟩ :: rest) ⟨ts, hs, n, z0⟩ :=
 eJ hx hy (.inl rfl) (v := .int .u8 (m + m')) (by simp only [fT, A6 _ h]) (eA hN) (by rw [hmd.pf]; exact kk)
theorem y3 {t t' : TypeId} {x y : Operand} {m m' : Int} (hx : ev (lk ts) x = some (.v (.int .u8 m))) (hy : ev (lk ts) y = some (.v (.int .u8 m')))
  (h : 0 ≤ m - m' ∧ m - m' ≤ 255) (hN : Nat.blt d N = true) {md' : Md} [hmd : MdA md (rO x ++ rO y) [.inl d] md'] (kk : RW P N all Q md' rest ⟨(d, .v (.int .u8 (m - m'))) :: ts, hs, n, z0⟩) : RW P N all Q md (⟨some d, .binOp .sub t x y t', ty, pos, af, none⟩ :: rest) ⟨ts, hs, n, z0⟩ :=
 eJ hx hy (.inl rfl) (v := .int .u8 (m - m')) (by simp only [fT, A6 _ h]) (eA hN) (by rw [hmd.pf]; exact kk)
theorem uE {s t : TypeId} {x : Operand} {k' : IntKind} {m : Int} [hd : InT P t .u8] [hs' : InT P s k'] (hx : ev (lk ts) x = some (.v (.int k' m))) (h : 0 ≤ m ∧ m ≤ 255) (hN : Nat.blt d N = true) {md' : Md} [hmd : MdA md (rO x) [.inl d] md'] (kk : RW P N all Q md' rest ⟨(d, .v (.int .u8 m)) :: ts, hs, n, z0⟩) :
  RW P N all Q md (⟨some d, .convert s t x, ty, pos, af, none⟩ :: rest) ⟨ts, hs, n, z0⟩ := yG hx hd.pf hs'.pf (eA hN) (by rw [hmd.pf, A6 _ h]; exact kk)
end
theorem mQ (n : Int) : (BB .empty [n]).size = 1 := rfl
theorem nI {a b : ByteArray} (h : a.size + b.size ≤ 9000000000000000000) : Eg .add a b = some (.string (a ++ b)) := if_pos h
end Go.AL

namespace Go.AL
def Bf (l : List Int) : ByteArray := l.foldl (fun r n => r.push (UInt8.ofNat n.toNat)) .empty
def fK (v : Int) : ByteArray := Bf [97 + v]
def w9 (n : Int) : ByteArray := Bf [48 + n] ++ .empty
theorem lZ (l : List UInt8) : ByteArray.size ⟨l.toArray⟩ = l.length := rfl
theorem kJ (v : Int) : (fK v).size = 1 := rfl
theorem kH (v : Int) : (w9 v).size = 1 := by simp [w9, Bf, ByteArray.size_append]
def m6 (out : ByteArray) (k : Nat) (t : ByteArray) : ByteArray := (if 0 < k then out ++ ⟨#[59]⟩ else out) ++ t
mutual
def jV : Stmt → ByteArray
 | .mk op x y n th el =>
  if op = 1 then (fK x ++ ⟨#[61]⟩) ++ w9 n
  else if op = 2 then (fK x ++ ⟨#[61, 98, 111, 120, 32]⟩) ++ w9 n
  else if op = 3 then (fK x ++ ⟨#[61]⟩) ++ fK y
  else if op = 4 then (fK x ++ ⟨#[61, 38]⟩) ++ fK y
  else if op = 5 then (fK x ++ ⟨#[61, 38, 109, 117, 116, 32]⟩) ++ fK y
  else if op = 6 then (fK x ++ ⟨#[61, 42]⟩) ++ fK y
  else if op = 7 then ((⟨#[42]⟩ ++ fK x) ++ ⟨#[61]⟩) ++ fK y
  else if op = 8 then ⟨#[100, 114, 111, 112, 32]⟩ ++ fK x
  else if op = 10 then (⟨#[108, 111, 111, 112, 123]⟩ ++ jX .empty 0 th) ++ ⟨#[125]⟩
  else (((⟨#[105, 102, 123]⟩ ++ jX .empty 0 th) ++ ⟨#[125, 123]⟩) ++ jX .empty 0 el) ++ ⟨#[125]⟩
def jX (out : ByteArray) (k : Nat) : List Stmt → ByteArray
 | [] => out
 | s :: l => jX (m6 out k (jV s)) (k + 1) l
end
def hU (l : List Stmt) : ByteArray := jX .empty 0 l
theorem o6 : ∀ (l : List Stmt) (out : ByteArray) (k : Nat) (s : Stmt), jX out k (l ++ [s]) = m6 (jX out k l) (k + l.length) (jV s)
 | [], out, k, s => by simp only [List.nil_append, jX, List.length_nil, Nat.add_zero]
 | x :: l, out, k, s => by
  simp only [List.cons_append, jX, o6 l, List.length_cons]
  rw [show k + 1 + l.length = k + (l.length + 1) from by omega]
theorem oI (l : List Stmt) (k : Nat) (h : k < l.length) : hU (l.take (k + 1)) = m6 (hU (l.take k)) k (jV l[k]!) := by
 rw [cQ _ _ h, hU, o6, List.length_take, Nat.min_eq_left (by omega), Nat.zero_add]; rfl
theorem Aj (s : Stmt) : jV s = 
  if s.op = 1 then (fK s.x ++ ⟨#[61]⟩) ++ w9 s.n
  else if s.op = 2 then (fK s.x ++ ⟨#[61, 98, 111, 120, 32]⟩) ++ w9 s.n
  else if s.op = 3 then (fK s.x ++ ⟨#[61]⟩) ++ fK s.y
  else if s.op = 4 then (fK s.x ++ ⟨#[61, 38]⟩) ++ fK s.y
  else if s.op = 5 then (fK s.x ++ ⟨#[61, 38, 109, 117, 116, 32]⟩) ++ fK s.y
  else if s.op = 6 then (fK s.x ++ ⟨#[61, 42]⟩) ++ fK s.y
  else if s.op = 7 then ((⟨#[42]⟩ ++ fK s.x) ++ ⟨#[61]⟩) ++ fK s.y
  else if s.op = 8 then ⟨#[100, 114, 111, 112, 32]⟩ ++ fK s.x
  else if s.op = 10 then (⟨#[108, 111, 111, 112, 123]⟩ ++ hU s.th) ++ ⟨#[125]⟩
  else (((⟨#[105, 102, 123]⟩ ++ hU s.th) ++ ⟨#[125, 123]⟩) ++ hU s.el) ++ ⟨#[125]⟩ := by
 cases s; rw [jV]; rfl
mutual
theorem oB : ∀ s, (jV s).size + 1 ≤ 11 * c9 s
 | .mk op x y n th el => by
  have h1 := jQ th .empty 0
  have h2 := jQ el .empty 0
  have h3 : ByteArray.size .empty = 0 := rfl
  rw [jV]
  simp only [c9]
  repeat' split
  all_goals simp only [ByteArray.size_append, lZ, List.length_cons, List.length_nil, kJ, kH]
  all_goals omega
theorem jQ : ∀ (l : List Stmt) (out : ByteArray) (k : Nat), (jX out k l).size ≤ out.size + 11 * bO l
 | [], out, k => by simp only [jX, bO]; omega
 | s :: l, out, k => by
  have h1 := oB s
  have h2 := jQ l (m6 out k (jV s)) (k + 1)
  have h3 : (m6 out k (jV s)).size ≤ out.size + 1 + (jV s).size := by
   unfold m6; split <;> simp only [ByteArray.size_append, lZ, List.length_cons, List.length_nil] <;> omega
  simp only [jX, bO]
  omega
end
theorem jJ (l : List Stmt) : (hU l).size ≤ 11 * bO l := by
 have := jQ l .empty 0
 have h3 : ByteArray.size .empty = 0 := rfl
 unfold hU; omega
theorem zR {ts : List Int} {s : Stmt} (ht : cP ts = true) (h : dO ts s = true) : 1 ≤ s.op ∧ s.op ≤ 8 ∧ 0 ≤ s.x ∧ s.x ≤ 5 ∧ 0 ≤ s.y ∧ s.y ≤ 5 ∧ (s.op = 1 ∨ s.op = 2 → 0 ≤ s.n ∧ s.n ≤ 9) := by
 have hl := gA ht
 have hx := jS ht s.x
 have hy := jS ht s.y
 unfold dO at h
 dsimp only at h
 repeat' split at h
 all_goals (first | (simp only [decide_eq_true_eq] at h; omega) | (simp at h; done))
end Go.AL

namespace Go.AL
end Go.AL

namespace Go.AL
end Go.AL

namespace Go.AL
end Go.AL

namespace Go.AL
end Go.AL

namespace Go.AL
end Go.AL

namespace Go.AL
end Go.AL

namespace Go.AL
end Go.AL

namespace Go.AL
open Go.RowKit
set_option linter.unusedVariables false
section
variable {P : Program} {C : Ctx} {ι : Pl} {F : Nat → Prop} {T : Nat → Option AV} {H : Nat → Option (List AV)} {a : Act} {w : World} {o : Oper}
theorem oS (z : Array Value) : ∀ n, (Builtin.zeroCells z n).toList = (List.replicate n z.toList).flatten := fun n => by
 have := mI z n (n * z.size) rfl
 simpa [Builtin.zeroCells, madeCells] using this
end
section
variable {P : Program} {N : Nat} {Q : Exit → AS → Prop} {all : Array Oper} {rest : List Oper} {ts : List (Nat × AV)} {hs : List (Nat × Option (List AV))} {n : Nat} {z0 : Lo} {md : Md}
variable {d : Nat} {ty : TypeId} {pos : String} {af : Array Edge}
end
theorem Le.cut {ts : List (Nat × AV)} {hs : List (Nat × Option (List AV))} {n : Nat} {z0 : Lo} {i : Nat} {cs : List AV} (k : Nat) (hi : b8 hs i = some cs) :
  Le ⟨ts, hs, n, z0⟩ ⟨ts, (i, some (cs.take k)) :: hs, n, z0⟩ := by
 rintro C a w ⟨h0, ι, g, gh⟩
 have hσ : ∀ id c, b8 ((i, some (cs.take k)) :: hs) id = some c → ∃ c0, b8 hs id = some c0 ∧ (c = c0 ∨ c = c0.take k) := by
  intro id c h
  rw [e6] at h
  split at h
  ·rename_i e; subst e; cases h; exact ⟨cs, hi, .inr rfl⟩
  ·exact ⟨c, h, .inl rfl⟩
 have car : Carry w (a6 C.X ι (b8 hs)) ι w (a6 C.X ι (b8 ((i, some (cs.take k)) :: hs))) ι := by
  refine ⟨fun b o' x h1 h2 => ⟨?_, h2⟩, fun _ _ h => h, fun _ => Nat.le_refl _⟩
  rintro (h | ⟨id, c, β, q1, q2⟩)
  ·exact h1 (.inl h)
  ·obtain ⟨c0, r, _⟩ := hσ id c q1
   exact h1 (.inr ⟨id, c0, β, r, q2⟩)
 refine ⟨h0, ι, ⟨g.df, g.sz, fun t av ht => ?_⟩, ⟨fun id c h => ?_, fun id id' c c' b β β' q1 q2 q3 q4 => ?_, gh.fr, gh.ex, gh.fresh⟩⟩
 ·obtain ⟨y, hy, hr⟩ := g.tm t av ht
  exact ⟨y, hy, Rd.carry car _ _ hr⟩
 ·obtain ⟨c0, r, e⟩ := hσ id c h
  rcases gh.obj id c0 r with ⟨h1, h2⟩ | ⟨b', β', arr', e', h1, h2, h3, h4, h5, h6⟩
  ·refine .inl ⟨h1, ?_⟩
   rcases e with e | e
   ·rw [e, h2]
   ·rw [e, h2]; simp
  ·refine .inr ⟨b', β', arr', e', h1, h2, ?_, ?_, h5, h6⟩
   ·rcases e with e | e
    ·rw [e]; exact h3
    ·rw [e, List.length_take]; omega
   ·have h7 := RdC.carryB car _ _ _ (fun o x hx => hx) h4
    rcases e with e | e
    ·rw [e]; exact h7
    ·rw [e]; exact RdC.take k h7
 ·obtain ⟨_, r1, _⟩ := hσ id c q1
  obtain ⟨_, r2, _⟩ := hσ id' c' q2
  exact gh.sep _ _ _ _ _ _ _ r1 r2 q3 q4
section
variable {P : Program} {N : Nat} {Q : Exit → AS → Prop} {all : Array Oper} {rest : List Oper} {ts : List (Nat × AV)} {hs : List (Nat × Option (List AV))} {n : Nat} {z0 : Lo}
variable {d : Nat} {ty : TypeId} {pos : String} {af : Array Edge}
theorem gH {fn : Go.Fn} {cs : Array Operand} {i : Nat} {cc c : List AV} (t : Nat) (hx : lk ts t = some (.optr i 0)) (hH : b8 hs i = some cc) (hc : evL (lk ((t, .iptr cc) :: ts)) cs.toList = some c) (hN : Nat.blt d N = true)
  (kk : RW P N all Q .txt rest ⟨(d, .clos fn [] c) :: (t, .iptr cc) :: ts, (i, none) :: hs, n, z0⟩) : RW P N all Q .txt (⟨some d, .makeFunc fn #[] cs, ty, pos, af, none⟩ :: rest) ⟨ts, hs, n, z0⟩ :=
 gI (eR (f := []) (c := c) rfl hc hN (md' := .txt) kk) (Le.frzP hx hH)
end
section
variable {P : Program} {N : Nat} {Q : Exit → AS → Prop} {all : Array Oper} {rest : List Oper} {ts : List (Nat × AV)} {hs : List (Nat × Option (List AV))} {n : Nat} {z0 : Lo} {md : Md}
variable {d : Nat} {ty : TypeId} {pos : String} {af : Array Edge}
end
end Go.AL

namespace Go.AL
open Go.Lib
theorem nD (zs : List Int) (j : Nat) : zs.toArray[j]! = zs[j]! := by simp
theorem Ad (zs : List Int) (j : Nat) : keeps zs.toArray j = true ↔ j = 0 ∨ zs[j]! ≠ zs[j - 1]! := by
 unfold keeps
 rw [nD, nD]; simp
theorem vI (zs : List Int) (x : Int) : x ∈ compact zs ↔ x ∈ zs := by
 unfold compact compactUpTo
 rw [List.mem_map]
 constructor
 ·rintro ⟨j, hj, rfl⟩
  have hj' := List.mem_range.1 (List.mem_filter.1 hj).1
  rw [nD]; exact cN _ _ hj'
 ·intro hx
  obtain ⟨i, hi, e⟩ := List.getElem_of_mem hx
  have key : ∀ n i, i ≤ n → i < zs.length → zs[i]! = x → ∃ j, j < zs.length ∧ zs[j]! = x ∧ (j = 0 ∨ zs[j]! ≠ zs[j - 1]!) := by
   intro n
   induction n with
   | zero => intro i h1 h2 h3; exact ⟨i, h2, h3, .inl (by omega)⟩
   | succ n ih =>
    intro i h1 h2 h3
    by_cases q : i = 0 ∨ zs[i]! ≠ zs[i - 1]!
    ·exact ⟨i, h2, h3, q⟩
    ·have q1 : i ≠ 0 := fun e => q (.inl e)
     have q2 : zs[i]! = zs[i - 1]! := Classical.byContradiction fun e => q (.inr e)
     exact ih (i - 1) (by omega) (by omega) (by rw [← q2]; exact h3)
  obtain ⟨j, h1, h2, h3⟩ := key i i (Nat.le_refl _) hi (by rw [cV _ _ hi]; exact e)
  exact ⟨j, List.mem_filter.2 ⟨List.mem_range.2 h1, (Ad zs j).2 h3⟩, by rw [nD]; exact h2⟩
theorem fB (zs : List Int) : (compact zs).length ≤ zs.length := by
 unfold compact compactUpTo; rw [List.length_map]; exact Nat.le_trans (List.length_filter_le _ _) (by rw [List.length_range]; exact Nat.le_refl _)
def zF (B : Nat → Bool) (A : Nat → Int) (k : Nat) : List Int := ((List.range k).filter B).map A
theorem DF {B : Nat → Bool} {A : Nat → Int} {k : Nat} (h : B k = true) : zF B A (k + 1) = zF B A k ++ [A k] := by
 unfold zF; rw [List.range_succ, List.filter_append, List.map_append, List.filter_cons_of_pos h]; rfl
theorem AU {B : Nat → Bool} {A : Nat → Int} {k : Nat} (h : B k = false) : zF B A (k + 1) = zF B A k := by
 unfold zF; rw [List.range_succ, List.filter_append, List.map_append, List.filter_cons_of_neg (by rw [h]; decide)]; simp
theorem yL {B : Nat → Bool} {A : Nat → Int} {k : Nat} : (zF B A k).length ≤ k := by
 unfold zF; rw [List.length_map]; exact Nat.le_trans (List.length_filter_le _ _) (by rw [List.length_range]; exact Nat.le_refl _)
def l5 (L : List Int) : List Int := L.mergeSort fun x y => decide (x ≤ y)
theorem iI (L : List Int) : (l5 L).length = L.length := List.length_mergeSort _
theorem Dv (L : List Int) (x : Int) : x ∈ l5 L ↔ x ∈ L := List.mem_mergeSort
end Go.AL

namespace Go.AL
theorem wC {ts : List Int} {v : Int} (h : 0 < eY ts v) : eY ts v = ts[v.toNat]! := by
 unfold eY at h ⊢
 split at h
 ·rename_i c; rw [if_pos c]
 ·omega
end Go.AL

namespace Go.AL
open Go.RowKit
set_option linter.unusedVariables false
set_option linter.unusedSimpArgs false
end Go.AL

namespace Go.AL
open Go.RowKit
set_option linter.unusedVariables false
set_option linter.unusedSimpArgs false
section
variable {P : Program} {C : Ctx} {ι : Pl} {T : Nat → Option AV} {F : Nat → Prop} {H : Nat → Option (List AV)} {a : Act} {w : World} {o : Oper}
theorem vD {bad : Nat → Prop} {zs : List Value} (h : zs.all (·.oneCell') = true) : ∀ n, RdL w bad ι (List.replicate n (zs.map AV.v)).flatten (List.replicate n zs).flatten
 | 0 => by simp [RdL]
 | n + 1 => by
  rw [List.replicate_succ, List.replicate_succ, List.flatten_cons, List.flatten_cons]
  exact RdL.append (oF h) (vD h n)
theorem CB (gh : HG C ι F H w) {t el : TypeId} {x : Operand} {id off n e : Nat} {cs : List AV} {zs : List Value}
  (ho : o.op = .call ⟨.builtin .clear, #[x], #[t]⟩) (hx : Rd w (a6 C.X ι H) ι (.own id off n e) (a.eval x)) (hd : o.dst = none)
  (ht : j5 P t = some el) (he : fQ P el = some e) (hz : lC P el = some zs) (hze : zs.length = e)
  (hH : H id = some cs) (h0 : 0 < n) (hl : off + n * e ≤ cs.length) :
  Ef P C ι F H a w o (.tup []) (eC H id (some (gO cs off (List.replicate n (zs.map AV.v)).flatten))) := by
 obtain ⟨i, z, h1, h2, h3, h4⟩ := mL hz
 have hu := iW ht
 have hsz := sX he h1
 simp only [Rd] at hx
 rcases hx with ⟨_, rfl, _⟩ | ⟨b, β, c, p1, p2, p3, p4⟩
 ·omega
 have hlen : ((List.replicate n (zs.map AV.v)).flatten).length = n * e := by
  rw [List.length_flatten]; simp [hze]
 obtain ⟨w', q1, q2, q3⟩ := vN (P := P) gh hH p1 (off := off) (new := (List.replicate n (zs.map AV.v)).flatten) (by rw [hlen]; exact hl) (vD h4 n)
 have hr : (Builtin.clear_ #[t] o.type #[a.eval x]).run P w = .ok (.tuple #[]) w' := by
  rw [p2]
  cases n with
  | zero => omega
  | succ n =>
   have hzc : (Builtin.zeroCells z.cells (n + 1)).toList = (List.replicate (n + 1) zs).flatten := by rw [oS, h3]
   simp [Builtin.clear_, cY hu, zeroValue, typeInfo, h1, h2, hzc, q1]
 refine ⟨.value (.tuple #[]), .tuple #[], ι, w', ?_, .inl ⟨rfl, ?_⟩, q2, q3⟩
 ·simp [execOp, ho, resolve, invoke, builtin, hr]
 ·simp only [Rd]; exact ⟨[], rfl, by simp [RdV]⟩
end
section
variable {P : Program} {N : Nat} {Q : Exit → AS → Prop} {all : Array Oper} {rest : List Oper} {ts : List (Nat × AV)} {hs : List (Nat × Option (List AV))} {n : Nat} {z0 : Lo} {md : Md}
variable {d : Nat} {ty : TypeId} {pos : String} {af : Array Edge}
theorem A2 {t el id off m e : Nat} {x : Operand} {cs cs' : List AV} {zs : List Value} [ht : SlT P t el] [he : SzT P el e] [hz : ZrT P el zs]
  (hx : ev (lk ts) x = some (.own id off m e)) (hze : zs.length = e) (h0 : 0 < m) (hH : b8 hs id = some cs) (hl : off + m * e ≤ cs.length)
  (hcs : gO cs off (List.replicate m (zs.map AV.v)).flatten = cs') {md' : Md} [hmd : MdA md (rO x ++ [.inr id]) [.inr id] md'] (kk : RW P N all Q md' rest ⟨ts, (id, some cs') :: hs, n, z0⟩) :
  RW P N all Q md (⟨none, .call ⟨.builtin .clear, #[x], #[t]⟩, ty, pos, af, none⟩ :: rest) ⟨ts, hs, n, z0⟩ := by
 subst hcs
 exact yH (rs := rO x ++ [.inr id]) (ws := [(id, some (gO cs off (List.replicate m (zs.map AV.v)).flatten))]) (n' := n) (out := .tup []) rfl (fun _ h => by cases h) (Nat.le_refl n) (.inl rfl)
  (fun C ι F T H a w ag hF g gh => yU (CB gh rfl (cS g (ag.l.ev.trans hx)) rfl ht.pf he.pf hz.pf hze ((ag.r.h id (by simp)).trans hH) h0 hl)) (by
   show RW P N all Q (md.add (rO x ++ [.inr id]) [.inr id]) rest ⟨ts, (id, some (gO cs off (List.replicate m (zs.map AV.v)).flatten)) :: hs, n, z0⟩
   rw [hmd.pf]; exact kk)
end
end Go.AL

namespace Go.AL
end Go.AL
namespace Go.AL
end Go.AL

namespace Go.AL
open Go.RowKit
set_option linter.unusedVariables false
set_option linter.unusedSimpArgs false
section
variable {P : Program} {N : Nat} {Q : Exit → AS → Prop} {all : Array Oper} {rest : List Oper} {ts : List (Nat × AV)} {hs : List (Nat × Option (List AV))} {n : Nat} {z0 : Lo} {md : Md}
variable {d : Nat} {ty : TypeId} {pos : String} {af : Array Edge}
theorem qM (w : World) (t el : TypeId) (hu : P.underlying t = some (.slice el)) (a : Option Addr) (m c : Nat) : (binOp .eql t (.slice a m c) (.slice none 0 0)).run P w = .ok (.bool a.isNone) w := by
 have h0 : ∀ d : Nat, (Op.equalIn (d + 1) t (.slice a m c) (.slice none 0 0)).run P w = .ok a.isNone w := fun d => by
  cases a <;> simp [Op.equalIn, cY hu]
 have h := h0 9999
 simp only [binOp]
 simp [Op.equal, Op.maxDepth, h]
theorem tJ {t t' el : TypeId} {x : Operand} {m : Nat} {cs : List AV} [ht : SlT P t el] (hx : ev (lk ts) x = some (.imm m cs)) (hN : Nat.blt d N = true)
  (kk : ∀ b : Bool, (b = true → m = 0) → RW P N all Q .txt rest ⟨(d, .v (.bool b)) :: ts, hs, n, z0⟩) : RW P N all Q .txt (⟨some d, .binOp .eql t x (.const (.slice none 0 0)) t', ty, pos, af, none⟩ :: rest) ⟨ts, hs, n, z0⟩ := by
 rintro C a w hCN ⟨h0, ι, g, gh⟩
 refine wpList_plain rfl (fun K hK => ?_)
 have h1 := cS g hx
 simp only [Rd] at h1
 obtain ⟨a', c, h2, h3⟩ := h1
 have hu := iW ht.pf
 have hb : a'.isNone = true → m = 0 := fun hn => by
  rcases h3 with h3 | ⟨b, o, _, rfl, _⟩
  ·exact h3
  ·cases hn
 have hg : (eqGuard .eql t x (.const (.slice none 0 0)) (.slice a' m c) (.slice none 0 0)).run P w = .ok () w := by simp [eqGuard]
 have hr : (execOp a.eval ⟨some d, .binOp .eql t x (.const (.slice none 0 0)) t', ty, pos, af, none⟩).run P w = .ok (.value (.bool a'.isNone)) w := by
  have e2 : a.eval (.const (.slice none 0 0)) = .slice none 0 0 := rfl
  simp only [execOp, h2, e2, Sem.run_bind, hg, Result.andThen_ok, qM w t el hu, Sem.run_pure]
 simp only [Oper.wp, hr, Oper.upon]
 refine hK _ _ (kk a'.isNone hb C _ _ hCN ⟨h0, ι, ?_, gh⟩)
 show TG C ι (lk ((d, AV.v (.bool a'.isNone)) :: ts)) _ _ _
 rw [gL]
 exact g.put (by have := eA hN; omega) (by simp [Rd])
end
theorem x6 {α : Type} {f : α → List AV} {e : Nat} [h : FlT f e] {hs : List (Nat × Option (List AV))} {xs : List α} {i k n : Nat} (hH : b8 hs i = some (aI f xs)) (hn : n = xs.length - k) : sCells (b8 hs) e (mU (.own i (0 + k * e) n e)) = some (n, aI f (xs.drop k)) := by
 show ((b8 hs i).bind fun cs => if n * e ≤ (cs.drop (0 + k * e)).length then some (n, (cs.drop (0 + k * e)).take (n * e)) else none) = _
 rw [hH, Option.bind_some, Nat.zero_add]
 have h1 : (aI f xs).length = xs.length * e := aT f xs
 have h3 : (aI f xs).drop (k * e) = aI f (xs.drop k) := by
  have h4 : aI f xs = aI f (xs.take k) ++ aI f (xs.drop k) := by rw [dC, List.take_append_drop]
  have h5 : (aI f (xs.take k)).length = (xs.take k).length * e := aT f _
  by_cases hk : k ≤ xs.length
  ·rw [h4, ← show (aI f (xs.take k)).length = k * e from by rw [h5, List.length_take]; congr 1; omega, List.drop_left]
  ·rw [List.drop_of_length_le (by rw [h1]; exact Nat.mul_le_mul_right _ (by omega)), List.drop_of_length_le (by omega)]; rfl
 rw [h3]
 have h2 : (aI f (xs.drop k)).length = (xs.length - k) * e := by rw [aT f (e := e), List.length_drop]
 rw [h2, hn, if_pos (Nat.le_refl _), List.take_of_length_le (by rw [h2]; exact Nat.le_refl _)]
theorem mC {T : Nat → Option AV} {x : Operand} {dd : Nat} {k : IntKind} {m : Int} {h : Nat} (hx : ev T x = some (.v (.int k m))) (e : m = (h : Int)) : fL T (some x) dd = some h := by
 simp only [fL, hx]; rw [if_pos (by omega)]; congr 1; omega
end Go.AL

namespace Go.AL
structure Tg where
 id : Int
 uq : Bool
 deriving Inhabited, DecidableEq
structure Cl where
 val : Int
 alive : Bool
 next : Int
 stk : List Tg
 deriving Inhabited, DecidableEq
structure Pt where
 cell : Int
 tag : Int
 deriving Inhabited, DecidableEq
structure Sl where
 set : Bool
 num : Int
 ptr : Pt
 deriving Inhabited, DecidableEq
def c6 (t : Tg) : List AV := [iv t.id, bv t.uq]
def cK (c : Cl) : List AV := [iv c.val, bv c.alive, iv c.next, sl c6 c.stk]
def dK (s : Sl) : List AV := [bv s.set, iv s.num, iv s.ptr.cell, iv s.ptr.tag]
instance : FlT c6 2 := ⟨fun _ => rfl⟩
instance : FlT cK 4 := ⟨fun _ => rfl⟩
instance : FlT dK 4 := ⟨fun _ => rfl⟩
instance : FE c6 (fun t => [iv t.id, bv t.uq]) := ⟨fun _ => rfl⟩
instance : FE cK (fun c => [iv c.val, bv c.alive, iv c.next, sl c6 c.stk]) := ⟨fun _ => rfl⟩
instance : FE dK (fun s => [bv s.set, iv s.num, iv s.ptr.cell, iv s.ptr.tag]) := ⟨fun _ => rfl⟩
instance (t : Tg) : Pur (c6 t) := ⟨rfl⟩
instance (c : Cl) : Pur (cK c) := ⟨by show (true && (true && (true && ((sl c6 c.stk).pur && true)))) = true; rw [bH]; rfl⟩
instance (s : Sl) : Pur (dK s) := ⟨rfl⟩
abbrev Gn (t : Tg) : AV := .agg [iv t.id, bv t.uq]
abbrev Gt (c : Cl) : AV := .agg [iv c.val, bv c.alive, iv c.next, sl c6 c.stk]
abbrev kQ (p : Pt) : AV := .agg [iv p.cell, iv p.tag]
abbrev Cp (s : Sl) : AV := .agg [bv s.set, iv s.num, iv s.ptr.cell, iv s.ptr.tag]
structure OkC (c : Cl) : Prop where
 v : 0 ≤ c.val ∧ c.val ≤ 9
 n : 1 ≤ c.next ∧ c.next ≤ 1000
 l : 1 ≤ c.stk.length ∧ c.stk.length ≤ 200
 u : c.stk[0]!.uq = true
 i : ∀ t ∈ c.stk, 0 ≤ t.id ∧ t.id < c.next
 d : (c.stk.map (·.id)).Nodup
structure OkM (m : List Cl) : Prop where
 l : m.length ≤ 200
 c : ∀ c ∈ m, OkC c
def c5 (stk : List Tg) (id : Int) : Int := match stk.findIdx? (fun t => decide (t.id = id)) with | some k => k | none => -1
theorem eI (stk : List Tg) (id : Int) : -1 ≤ c5 stk id ∧ c5 stk id < stk.length := by
 unfold c5
 split
 ·rename_i k h
  obtain ⟨h1, _⟩ := List.findIdx?_eq_some_iff_getElem.1 h
  omega
 ·omega
theorem De {stk : List Tg} {id : Int} (h : 0 ≤ c5 stk id) : stk[(c5 stk id).toNat]!.id = id := by
 unfold c5 at h ⊢
 split
 ·rename_i k hk
  obtain ⟨h1, h2, _⟩ := List.findIdx?_eq_some_iff_getElem.1 hk
  rw [Int.toNat_natCast, cV _ _ h1]
  simpa using h2
 ·rename_i hk; rw [hk] at h; dsimp only at h; omega
theorem mH {stk : List Tg} {id : Int} : c5 stk id < 0 ↔ ∀ t ∈ stk, t.id ≠ id := by
 unfold c5
 split
 ·rename_i k hk
  obtain ⟨h1, h2, _⟩ := List.findIdx?_eq_some_iff_getElem.1 hk
  refine ⟨fun h => by omega, fun h => ?_⟩
  exact absurd (by simpa using h2) (h _ (List.getElem_mem h1))
 ·rename_i hk
  rw [List.findIdx?_eq_none_iff] at hk
  exact ⟨fun _ t ht => by simpa using hk t ht, fun _ => by omega⟩
def fM (stk : List Tg) (k : Nat) (wr : Bool) : List Tg := if wr = true then stk.take (k + 1) else stk.take (k + 1) ++ (stk.drop (k + 1)).filter (fun t => !t.uq)
def cD (m : List Cl) (x : Pt) (wr : Bool) : Int :=
 if ¬ (0 ≤ x.cell ∧ x.cell < m.length) then 4
 else if m[x.cell.toNat]!.alive = false then 1
 else if c5 m[x.cell.toNat]!.stk x.tag < 0 then 2
 else if wr = true ∧ m[x.cell.toNat]!.stk[(c5 m[x.cell.toNat]!.stk x.tag).toNat]!.uq = false then 3
 else 0
def nQ (c : Cl) (x : Pt) (wr : Bool) : Cl := { c with stk := fM c.stk (c5 c.stk x.tag).toNat wr }
def dT (m : List Cl) (x : Pt) (wr : Bool) : List Cl := if cD m x wr = 0 then m.set x.cell.toNat (nQ m[x.cell.toNat]! x wr) else m
def lV (m : List Cl) (x : Pt) : Int := if cD m x false = 0 then m[x.cell.toNat]!.val else 0
def rI (m : List Cl) (x : Pt) (v : Int) : Int := if 0 ≤ v ∧ v ≤ 9 then cD m x true else 4
def vP (m : List Cl) (x : Pt) (v : Int) : List Cl := if rI m x v = 0 then m.set x.cell.toNat { nQ m[x.cell.toNat]! x true with val := v } else m
def jW (m : List Cl) (x : Pt) : List Cl := if cD m x true = 0 then m.set x.cell.toNat { nQ m[x.cell.toNat]! x true with alive := false } else m
def Ae (c : Cl) : Prop := c.stk.length = 200 ∨ c.next = 1000
instance (c : Cl) : Decidable (Ae c) := by unfold Ae; infer_instance
def j1 (m : List Cl) (x : Pt) (u : Bool) : Int := if cD m x u = 0 then (if Ae (nQ m[x.cell.toNat]! x u) then 4 else 0) else cD m x u
def psh (c : Cl) (u : Bool) : Cl := { c with stk := c.stk ++ [⟨c.next, u⟩], next := c.next + 1 }
def kW (m : List Cl) (x : Pt) (u : Bool) : List Cl := if j1 m x u = 0 then m.set x.cell.toNat (psh (nQ m[x.cell.toNat]! x u) u) else m
def nN (m : List Cl) (x : Pt) (u : Bool) : Pt := if j1 m x u = 0 then ⟨x.cell, m[x.cell.toNat]!.next⟩ else ⟨0, 0⟩
def p7 (v : Int) : Cl := ⟨v, true, 1, [⟨0, true⟩]⟩
theorem tchS_sub {stk : List Tg} {k : Nat} {wr : Bool} : (fM stk k wr).Sublist stk := by
 unfold fM
 split
 ·exact List.take_sublist _ _
 ·have h := List.Sublist.append (List.Sublist.refl (stk.take (k + 1))) (List.filter_sublist (l := stk.drop (k + 1)) (p := fun t => !t.uq))
  rwa [List.take_append_drop] at h
theorem zZ {stk : List Tg} {k : Nat} {wr : Bool} (h : 0 < stk.length) : (fM stk k wr)[0]! = stk[0]! ∧ 0 < (fM stk k wr).length := by
 cases stk with
 | nil => simp at h
 | cons a l =>
  unfold fM
  split <;> simp
theorem OkC.tch {c : Cl} (h : OkC c) (x : Pt) (wr : Bool) : OkC (nQ c x wr) := by
 have hs := tchS_sub (stk := c.stk) (k := (c5 c.stk x.tag).toNat) (wr := wr)
 have hh := zZ (k := (c5 c.stk x.tag).toNat) (wr := wr) (stk := c.stk) (by have := h.l; omega)
 refine ⟨h.v, h.n, ⟨hh.2, Nat.le_trans hs.length_le h.l.2⟩, ?_, fun t ht => h.i t (hs.subset ht), (hs.map _).nodup h.d⟩
 show (fM c.stk (c5 c.stk x.tag).toNat wr)[0]!.uq = true
 rw [hh.1]; exact h.u
theorem OkC.psh {c : Cl} (h : OkC c) (u : Bool) (hf : ¬ Ae c) : OkC (psh c u) := by
 have hl := h.l
 have hn := h.n
 unfold Ae at hf
 refine ⟨h.v, by show 1 ≤ c.next + 1 ∧ c.next + 1 ≤ 1000; omega, by show 1 ≤ (c.stk ++ [_]).length ∧ (c.stk ++ [_]).length ≤ 200; rw [List.length_append, List.length_singleton]; omega, ?_, fun t ht => ?_, ?_⟩
 ·show (c.stk ++ [_])[0]!.uq = true
  have h1 := h.u
  rw [cV _ _ (by omega)] at h1
  rw [cV _ _ (by rw [List.length_append]; omega), List.getElem_append_left (by omega)]; exact h1
 ·rcases List.mem_append.1 ht with ht | ht
  ·have := h.i t ht; show 0 ≤ t.id ∧ t.id < c.next + 1; omega
  ·rw [List.mem_singleton] at ht; subst ht; show 0 ≤ c.next ∧ c.next < c.next + 1; omega
 ·show ((c.stk ++ [_]).map _).Nodup
  rw [List.map_append, List.nodup_append]
  refine ⟨h.d, by simp, fun a ha b hb => ?_⟩
  simp only [List.map_cons, List.map_nil, List.mem_singleton] at hb
  obtain ⟨t, ht, rfl⟩ := List.mem_map.1 ha
  have := h.i t ht
  omega
theorem OkC.nw {v : Int} (h : 0 ≤ v ∧ v ≤ 9) : OkC (p7 v) := ⟨h, ⟨by show (1 : Int) ≤ 1; decide, by show (1 : Int) ≤ 1000; decide⟩, ⟨by show 1 ≤ 1; decide, by show 1 ≤ 200; decide⟩, rfl, by simp [p7], by simp [p7]⟩
theorem OkM.set {m : List Cl} (h : OkM m) {k : Nat} {c : Cl} (hc : OkC c) : OkM (m.set k c) :=
 ⟨by rw [List.length_set]; exact h.l, fun x hx => (List.mem_or_eq_of_mem_set hx).elim (h.c x) (fun e => e ▸ hc)⟩
theorem OkM.at {m : List Cl} (h : OkM m) {k : Nat} (hk : k < m.length) : OkC m[k]! := h.c _ (cN _ _ hk)
theorem dN {m : List Cl} {x : Pt} {wr : Bool} (h : cD m x wr ≠ 4) : 0 ≤ x.cell ∧ x.cell < m.length ∧ x.cell.toNat < m.length := by
 unfold cD at h
 split at h
 ·exact absurd rfl h
 ·omega
theorem s0 {m : List Cl} {x : Pt} {wr : Bool} (h : cD m x wr = 0) : 0 ≤ x.cell ∧ x.cell < m.length ∧ x.cell.toNat < m.length := dN (by rw [h]; decide)
theorem OkM.tch {m : List Cl} (h : OkM m) (x : Pt) (wr : Bool) : OkM (dT m x wr) := by
 unfold dT; split
 ·rename_i hk; exact h.set ((h.at (s0 hk).2.2).tch x wr)
 ·exact h
theorem OkM.wr {m : List Cl} (h : OkM m) (x : Pt) (v : Int) : OkM (vP m x v) := by
 unfold vP
 by_cases hk : rI m x v = 0
 ·rw [if_pos hk]
  unfold rI at hk
  by_cases hv : 0 ≤ v ∧ v ≤ 9
  ·rw [if_pos hv] at hk
   have h1 := (h.at (s0 hk).2.2).tch x true
   exact h.set ⟨hv, h1.n, h1.l, h1.u, h1.i, h1.d⟩
  ·rw [if_neg hv] at hk; cases hk
 ·rw [if_neg hk]; exact h
theorem OkM.fr {m : List Cl} (h : OkM m) (x : Pt) : OkM (jW m x) := by
 unfold jW; split
 ·rename_i hk
  have h1 := (h.at (s0 hk).2.2).tch x true
  exact h.set ⟨h1.v, h1.n, h1.l, h1.u, h1.i, h1.d⟩
 ·exact h
theorem OkM.ln {m : List Cl} (h : OkM m) (x : Pt) (u : Bool) : OkM (kW m x u) := by
 unfold kW
 by_cases hk : j1 m x u = 0
 ·rw [if_pos hk]
  unfold j1 at hk
  by_cases h0 : cD m x u = 0
  ·rw [if_pos h0] at hk
   by_cases hf : Ae (nQ m[x.cell.toNat]! x u)
   ·rw [if_pos hf] at hk; cases hk
   ·exact h.set (((h.at (s0 h0).2.2).tch x u).psh u hf)
  ·rw [if_neg h0] at hk; exact absurd hk h0
 ·rw [if_neg hk]; exact h
theorem OkM.nw {m : List Cl} (h : OkM m) {v : Int} (hv : 0 ≤ v ∧ v ≤ 9) (hl : m.length < 200) : OkM (m ++ [p7 v]) :=
 ⟨by rw [List.length_append, List.length_singleton]; omega, fun c hc => (List.mem_append.1 hc).elim (h.c c) (fun h => by rw [List.mem_singleton.1 h]; exact OkC.nw hv)⟩
end Go.AL

namespace Go.AL
def gN (pts : List Pnt) (a : Nat) (cs : List Int) : Nat × List Int :=
 if pts[a]!.next.length = 2 then
  match cs with
  | [] => ((pts[a]!.next[1]!).toNat, [])
  | c :: cs => ((pts[a]!.next[(c % 2).toNat]!).toNat, cs)
 else ((pts[a]!.next[0]!).toNat, cs)
def fP (pts : List Pnt) : Nat → Nat → List Int → List Nat × Bool
 | 0, a, _ => if pts[a]!.op = 11 then ([a], true) else ([], false)
 | n + 1, a, cs => if pts[a]!.op = 11 then ([a], true) else (a :: (fP pts n (gN pts a cs).1 (gN pts a cs).2).1, (fP pts n (gN pts a cs).1 (gN pts a cs).2).2)
structure Mc where
 slots : List Sl
 cells : List Cl
 read : List Int
 deriving Inhabited
def kG : Sl := ⟨false, 0, ⟨0, 0⟩⟩
def eU (k : Int) : Int := if k = 1 then 3 else 4
def lD (k : Int) : Int := if k = 0 then -1 else eU k
def cR (ts : List Int) (s : Mc) (v : Nat) (x : Sl) : Mc × Int :=
 if ts[v]! = 2 ∧ s.slots[v]!.set = true then (⟨s.slots.set v x, jW s.cells s.slots[v]!.ptr, s.read⟩, lD (cD s.cells s.slots[v]!.ptr true))
 else (⟨s.slots.set v x, s.cells, s.read⟩, -1)
def dD (ts : List Int) (s : Mc) (x : Pnt) : Bool := (List.range ts.length).any fun v => decide (fN ts x v ≠ 0) && !s.slots[v]!.set
def dE (ts : List Int) : Nat → Nat → Mc → Mc × Int
 | 0, _, s => (s, 0)
 | n + 1, v, s => if ts[v]! = 2 ∧ s.slots[v]!.set = true then
   (if cD s.cells s.slots[v]!.ptr true = 0 then dE ts n (v + 1) ⟨s.slots.set v kG, jW s.cells s.slots[v]!.ptr, s.read⟩ else (⟨s.slots, jW s.cells s.slots[v]!.ptr, s.read⟩, eU (cD s.cells s.slots[v]!.ptr true)))
  else dE ts n (v + 1) s
def dM (ts : List Int) (s : Mc) (x : Pnt) : Mc × Int :=
 if x.op = 1 then cR ts s x.x.toNat ⟨true, x.n, ⟨0, 0⟩⟩
 else if x.op = 2 then (if s.cells.length = 200 then (s, 1) else cR ts ⟨s.slots, s.cells ++ [p7 x.n], s.read⟩ x.x.toNat ⟨true, 0, ⟨s.cells.length, 0⟩⟩)
 else if x.op = 3 then cR ts (if yO ts[x.y.toNat]! = true then ⟨s.slots.set x.y.toNat kG, s.cells, s.read⟩ else s) x.x.toNat s.slots[x.y.toNat]!
 else if x.op = 4 ∨ x.op = 5 then
  (if j1 s.cells s.slots[x.y.toNat]!.ptr (decide (x.op = 5)) = 0 then cR ts ⟨s.slots, kW s.cells s.slots[x.y.toNat]!.ptr (decide (x.op = 5)), s.read⟩ x.x.toNat ⟨true, 0, nN s.cells s.slots[x.y.toNat]!.ptr (decide (x.op = 5))⟩
   else (s, eU (j1 s.cells s.slots[x.y.toNat]!.ptr (decide (x.op = 5)))))
 else if x.op = 6 then
  (if cD s.cells s.slots[x.y.toNat]!.ptr false = 0 then cR ts ⟨s.slots, dT s.cells s.slots[x.y.toNat]!.ptr false, s.read ++ [lV s.cells s.slots[x.y.toNat]!.ptr]⟩ x.x.toNat ⟨true, lV s.cells s.slots[x.y.toNat]!.ptr, ⟨0, 0⟩⟩
   else (s, eU (cD s.cells s.slots[x.y.toNat]!.ptr false)))
 else if x.op = 7 then (⟨s.slots, vP s.cells s.slots[x.x.toNat]!.ptr s.slots[x.y.toNat]!.num, s.read⟩, lD (rI s.cells s.slots[x.x.toNat]!.ptr s.slots[x.y.toNat]!.num))
 else if x.op = 8 then (⟨s.slots.set x.x.toNat kG, jW s.cells s.slots[x.x.toNat]!.ptr, s.read⟩, lD (cD s.cells s.slots[x.x.toNat]!.ptr true))
 else if x.op = 11 then dE ts ts.length 0 s
 else (s, -1)
def kS (ts : List Int) (pts : List Pnt) : List Nat → Mc → Nat → Mc × Int × Nat
 | [], s, last => (s, 1, last)
 | a :: l, s, _ => if dD ts s pts[a]! = true then (s, 2, a)
  else if (dM ts s pts[a]!).2 = -1 then kS ts pts l (dM ts s pts[a]!).1 a
  else ((dM ts s pts[a]!).1, (dM ts s pts[a]!).2, a)
def mc0 (nt : Nat) : Mc := ⟨List.replicate nt kG, [], []⟩
def iC (ts : List Int) (pts : List Pnt) (cs : List Int) (most : Nat) : Mc × Int × Nat := kS ts pts (fP pts most 0 cs).1 (mc0 ts.length) 0
structure OkS (nt : Nat) (s : Mc) : Prop where
 m : OkM s.cells
 l : s.slots.length = nt
theorem OkS.put {ts : List Int} {nt : Nat} {s : Mc} (h : OkS nt s) (v : Nat) (x : Sl) : OkS nt (cR ts s v x).1 := by
 unfold cR; split
 ·exact ⟨h.m.fr _, by show (s.slots.set v x).length = nt; rw [List.length_set]; exact h.l⟩
 ·exact ⟨h.m, by show (s.slots.set v x).length = nt; rw [List.length_set]; exact h.l⟩
theorem OkS.fin {ts : List Int} {nt : Nat} : ∀ n v (s : Mc), OkS nt s → OkS nt (dE ts n v s).1
 | 0, _, _, h => h
 | n + 1, v, s, h => by
  unfold dE; split
  ·split
   ·exact OkS.fin n _ _ ⟨h.m.fr _, by show (s.slots.set v kG).length = nt; rw [List.length_set]; exact h.l⟩
   ·exact ⟨h.m.fr _, h.l⟩
  ·exact OkS.fin n _ _ h
structure PtN (x : Pnt) : Prop where
 n : x.op = 2 → 0 ≤ x.n ∧ x.n ≤ 9
theorem OkS.do {ts : List Int} {nt : Nat} {s : Mc} (h : OkS nt s) {x : Pnt} (hx : PtN x) : OkS nt (dM ts s x).1 := by
 have hl : ∀ (v : Nat) (y : Sl), (s.slots.set v y).length = nt := fun v y => by rw [List.length_set]; exact h.l
 unfold dM
 split
 ·exact h.put _ _
 split
 ·rename_i h2
  split
  ·exact h
  ·rename_i h3
   refine OkS.put ?_ _ _
   exact ⟨h.m.nw (hx.n h2) (by have := h.m.l; omega), h.l⟩
 split
 ·split
  ·refine OkS.put ?_ _ _
   exact ⟨h.m, hl _ _⟩
  ·exact h.put _ _
 split
 ·split
  ·refine OkS.put ?_ _ _
   exact ⟨h.m.ln _ _, h.l⟩
  ·exact h
 split
 ·split
  ·refine OkS.put ?_ _ _
   exact ⟨h.m.tch _ _, h.l⟩
  ·exact h
 split
 ·exact ⟨h.m.wr _ _, h.l⟩
 split
 ·exact ⟨h.m.fr _, hl _ _⟩
 split
 ·exact OkS.fin _ _ _ h
 ·exact h
theorem OkS.mc0 (nt : Nat) : OkS nt (mc0 nt) := ⟨⟨by simp [Go.AL.mc0], by simp [Go.AL.mc0]⟩, by simp [Go.AL.mc0]⟩
theorem OkS.run {ts : List Int} {pts : List Pnt} {nt : Nat} (hp : ∀ a : Nat, PtN pts[a]!) : ∀ (l : List Nat) (s : Mc) (last : Nat), OkS nt s → OkS nt (kS ts pts l s last).1
 | [], _, _, h => h
 | a :: l, s, _, h => by
  unfold kS; split
  ·exact h
  ·split
   ·exact OkS.run hp l _ _ (h.do (hp a))
   ·exact h.do (hp a)
end Go.AL

namespace Go.AL
theorem Ds (k : Int) : eU k = 3 ∨ eU k = 4 := by unfold eU; split; exact .inl rfl; exact .inr rfl
theorem rP (ts : List Int) : ∀ n v (s : Mc), (dE ts n v s).2 = 0 ∨ (dE ts n v s).2 = 3 ∨ (dE ts n v s).2 = 4
 | 0, _, _ => .inl rfl
 | n + 1, v, s => by
  unfold dE; split
  ·split
   ·exact rP ts n _ _
   ·exact .inr (Ds _)
  ·exact rP ts n _ _
theorem A4 {ts : List Int} {s : Mc} {x : Pnt} (h : x.op = 11) : dM ts s x = dE ts ts.length 0 s := by
 unfold dM; simp [h]
theorem oC (m : List Cl) (x : Pt) (b : Bool) : (dT m x b).length = m.length := by unfold dT; split <;> simp
end Go.AL

namespace Go.AL
structure PtA (ts : List Int) (x : Pnt) : Prop where
 n : x.op = 1 ∨ x.op = 2 → 0 ≤ x.n ∧ x.n ≤ 9
 t1 : x.op = 1 → ts[x.x.toNat]! = 1
 t2 : x.op = 2 ∨ x.op = 8 → ts[x.x.toNat]! = 2
 t3 : x.op = 3 → ts[x.x.toNat]! = ts[x.y.toNat]! ∧ x.x ≠ x.y
 t4 : x.op = 4 → ts[x.x.toNat]! = 3 ∧ x.x ≠ x.y ∧ 2 ≤ ts[x.y.toNat]!
 t5 : x.op = 5 → ts[x.x.toNat]! = 4 ∧ x.x ≠ x.y ∧ (ts[x.y.toNat]! = 2 ∨ ts[x.y.toNat]! = 4)
 t6 : x.op = 6 → ts[x.x.toNat]! = 1 ∧ 2 ≤ ts[x.y.toNat]!
 t7 : x.op = 7 → (ts[x.x.toNat]! = 2 ∨ ts[x.x.toNat]! = 4) ∧ ts[x.y.toNat]! = 1
theorem PtA.no {ts : List Int} {x : Pnt} (h : 9 ≤ x.op) : PtA ts x := ⟨fun e => by omega, fun e => by omega, fun e => by omega, fun e => by omega, fun e => by omega, fun e => by omega, fun e => by omega, fun e => by omega⟩
theorem xF {ts : List Int} {s : Stmt} (h : dO ts s = true) : s.op ≤ 8 := by
 unfold dO at h
 dsimp only at h
 apply Classical.byContradiction
 intro e
 rw [if_neg (by omega), if_neg (by omega)] at h
 split at h
 ·cases h
 ·rw [if_neg (by omega), if_neg (by omega), if_neg (by omega), if_neg (by omega), if_neg (by omega), if_neg (by omega)] at h; cases h
theorem AT {ts : List Int} (s : Stmt) (h : dO ts s = true) : PtA ts ⟨s.op, s.x, s.y, s.n, []⟩ := by
 have g : ∀ v, 0 < eY ts v → eY ts v = ts[v.toNat]! := fun v => wC
 have gx := g s.x
 have gy := g s.y
 unfold dO at h
 dsimp only at h
 constructor <;> dsimp only <;> intro e
 case n => rcases e with e | e <;> simp [e] at h <;> omega
 case t1 => simp [e] at h; rw [← gx (by omega)]; omega
 case t2 => rcases e with e | e <;> simp [e] at h <;> (rw [← gx (by omega)]; omega)
 case t3 => simp [e] at h; rw [← gx (by omega), ← gy (by omega)]; exact ⟨h.2.1, h.2.2.2⟩
 case t4 => simp [e] at h; rw [← gx (by omega), ← gy (by omega)]; exact ⟨h.2.1, h.2.2.2, h.2.2.1⟩
 case t5 => simp [e] at h; rw [← gx (by omega), ← gy (by omega)]; exact ⟨h.2.1, h.2.2.2, h.2.2.1⟩
 case t6 => simp [e] at h; rw [← gx (by omega), ← gy (by omega)]; exact ⟨h.2.1, h.2.2⟩
 case t7 => simp [e] at h; rw [← gx (by omega), ← gy (by omega)]; exact ⟨h.2.1, h.2.2⟩
mutual
theorem F3 {ts : List Int} : ∀ (s : Stmt) (d b : Nat), nS ts d s = true → ∀ x ∈ x5 b s, PtA ts x ∧ x.op ≠ 11 ∧ 0 < x.next.length
 | .mk op x y n th el, d, b, h => by
  simp only [nS] at h
  split at h
  ·rename_i hop
   simp only [Bool.and_eq_true] at h
   have hs := AT _ h.2
   have ho := xF h.2
   simp only [Stmt.op, Stmt.x, Stmt.y, Stmt.n] at hs ho
   simp only [x5, hop.1, hop.2, if_false, List.mem_singleton]
   rintro z rfl
   exact ⟨⟨hs.n, hs.t1, hs.t2, hs.t3, hs.t4, hs.t5, hs.t6, hs.t7⟩, by dsimp only; omega, by simp⟩
  ·rename_i hop
   cases d with
   | zero => cases h
   | succ d =>
    simp only [Bool.and_eq_true, decide_eq_true_eq] at h
    obtain ⟨⟨⟨_, _⟩, h1⟩, h2⟩ := h
    by_cases h9 : op = 9
    ·subst h9
     simp only [x5, if_true, List.mem_append, List.mem_singleton]
     rintro z (((rfl | hz) | rfl) | hz)
     ·exact ⟨PtA.no (by simp), by simp, by simp⟩
     ·exact oU th d (b + 1) h1 z hz
     ·exact ⟨PtA.no (by simp), by simp, by simp⟩
     ·exact oU el d (b + 2 + dQ th) h2 z hz
    ·have h10 : op = 10 := by omega
     subst h10
     simp only [x5, if_true, show ((10 : Int) = 9) = False by simp, if_false, List.mem_append, List.mem_singleton]
     rintro z ((rfl | hz) | rfl)
     ·exact ⟨PtA.no (by simp), by simp, by simp⟩
     ·exact oU th d (b + 1) h1 z hz
     ·exact ⟨PtA.no (by simp), by simp, by simp⟩
theorem oU {ts : List Int} : ∀ (l : List Stmt) (d b : Nat), okL ts d l = true → ∀ x ∈ fO b l, PtA ts x ∧ x.op ≠ 11 ∧ 0 < x.next.length
 | [], d, b, h => by simp [fO]
 | s :: l, d, b, h => by
  simp only [okL, Bool.and_eq_true] at h
  simp only [fO, List.mem_append]
  rintro x (hx | hx)
  ·exact F3 s d b h.1 x hx
  ·exact oU l d (b + qH s) h.2 x hx
end
structure WA (ts : List Int) (pts : List Pnt) : Prop where
 a : ∀ i, i < pts.length → PtA ts pts[i]!
 e : ∀ i, i < pts.length → (pts[i]!.op = 11 ↔ i + 1 = pts.length)
 n : ∀ i, i < pts.length → pts[i]!.op ≠ 11 → 0 < pts[i]!.next.length
theorem WA.of_valid {p : Prg} (h : c8 p = true) : WA p.types (cX p) := by
 unfold c8 at h
 simp only [Bool.and_eq_true, decide_eq_true_eq] at h
 obtain ⟨⟨_, hl⟩, _⟩ := h
 have hlen := nT p
 have hpl := cT p.body 0
 have lo : ∀ i, i + 1 < (cX p).length → (cX p)[i]! ∈ fO 0 p.body := fun i hi => by
  have h1 : i < (fO 0 p.body).length := by omega
  unfold cX
  rw [cV _ _ (by rw [List.length_append]; omega), List.getElem_append_left h1]
  exact List.getElem_mem h1
 have hi : ∀ i, i + 1 = (cX p).length → (cX p)[i]! = ⟨11, 0, 0, 0, []⟩ := fun i hi => by
  have h1 : i = (fO 0 p.body).length := by omega
  unfold cX
  rw [cV _ _ (by rw [List.length_append, List.length_singleton]; omega)]
  simp [h1]
 refine ⟨fun i h => ?_, fun i h => ⟨fun e => ?_, fun e => by rw [hi i e]⟩, fun i h ne => ?_⟩
 ·by_cases q : i + 1 < (cX p).length
  ·exact (oU p.body 4 0 hl _ (lo i q)).1
  ·rw [hi i (by omega)]; exact PtA.no (by simp)
 ·by_cases q : i + 1 < (cX p).length
  ·exact absurd e (oU p.body 4 0 hl _ (lo i q)).2.1
  ·omega
 ·by_cases q : i + 1 < (cX p).length
  ·exact (oU p.body 4 0 hl _ (lo i q)).2.2
  ·exact absurd (by rw [hi i (by omega)]) ne
end Go.AL

namespace Go.AL
theorem DI {ts : List Int} {s : Mc} {x : Pnt} (h : dD ts s x = false) {v : Nat} (hv : v < ts.length) (hu : fN ts x v ≠ 0) : s.slots[v]!.set = true := by
 unfold dD at h
 rw [List.any_eq_false] at h
 have h1 := h v (List.mem_range.2 hv)
 rw [decide_eq_true hu, Bool.true_and] at h1
 simpa using h1
section
variable {ts : List Int} {pts : List Pnt}
theorem Cd (w : WG ts pts) (A : WA ts pts) {a : Nat} (ha : a < pts.length) (h11 : pts[a]!.op ≠ 11) (cs : List Int) : FU pts a (gN pts a cs).1 := by
 have key : ∀ j : Nat, j < pts[a]!.next.length → FU pts a (pts[a]!.next[j]!).toNat := fun j hj => by
  have hm := cN pts[a]!.next j hj
  refine ⟨ha, ?_⟩
  rw [show (((pts[a]!.next[j]!).toNat : Nat) : Int) = pts[a]!.next[j]! by have := (w.nx a ha _ hm).1; omega]
  exact hm
 have h0 := A.n a ha h11
 unfold gN
 split
 ·rename_i h2
  split
  ·exact key 1 (by omega)
  ·rename_i c cs
   exact key _ (by omega)
 ·exact key 0 h0
end
end Go.AL

namespace Go.AL
section
variable {ts : List Int} {pts : List Pnt}
theorem tK {s : Mc} {x : Pnt} (h : dD ts s x = true) : ∃ v, v < ts.length ∧ fN ts x v ≠ 0 ∧ s.slots[v]!.set = false := by
 unfold dD at h
 obtain ⟨v, hv, h2⟩ := List.any_eq_true.1 h
 rw [Bool.and_eq_true, decide_eq_true_eq] at h2
 exact ⟨v, List.mem_range.1 hv, h2.1, by simpa using h2.2⟩
end
end Go.AL

namespace Go.AL
theorem qT {m : List Cl} {x : Pt} {u : Bool} (h : j1 m x u = 0) : cD m x u = 0 := by
 unfold j1 at h
 by_cases h0 : cD m x u = 0
 ·exact h0
 ·rw [if_neg h0] at h; exact h
end Go.AL

namespace Go.AL
section
variable {ts : List Int} {s : Mc}
end
theorem o7 (ts : List Int) : ∀ n v (s : Mc), (dE ts n v s).1.read = s.read
 | 0, _, _ => rfl
 | n + 1, v, s => by
  unfold dE; split
  ·split
   ·exact o7 ts n _ _
   ·rfl
  ·exact o7 ts n _ _
theorem jF (ts : List Int) (s : Mc) (v : Nat) (x : Sl) : (cR ts s v x).1.read = s.read := by unfold cR; split <;> rfl
end Go.AL
