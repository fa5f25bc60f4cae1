/-
 A part of the proofs over this program: rules and contracts of its functions (the contracts).
-/
import Derived.Test.YtjcpngimjdckmaaGreatQ4B04
set_option linter.unusedVariables false
set_option linter.unusedSimpArgs false
set_option maxHeartbeats 8000000
set_option maxRecDepth 4000
attribute [local irreducible] Go.AL.RW Go.AL.AW Go.AL.Stop
namespace Go.Proofs.YtjcpngimjdckmaaGreat
open Go.AL Go.RowKit
def st (op x y n : Int) : AL.Stmt := .mk op x y n [] []
def jT (bs : List UInt8) (p : Nat) : AL.Stmt × Nat :=
 let box := 1 + cG bs p 2
 let owner := iD bs (p + 1) [1, 2, 1, 4, 5]
 let c := cG bs (p + 1 + 1) 11
 if c = 0 then (st 1 0 0 (cG bs (p + 1 + 1 + 1) 10), p + 4)
 else if c = 1 then (st 2 box 0 (cG bs (p + 1 + 1 + 1) 10), p + 4)
 else if c = 2 then (st 3 box (3 - box) 0, p + 3)
 else if c = 3 then (st 4 3 owner 0, p + 3)
 else if c = 4 ∨ c = 5 then (st 5 4 (iD bs (p + 1 + 1 + 1) [1, 2, 1, 5]) 0, p + 4)
 else if c = 6 then (st 6 0 (iD bs (p + 1 + 1 + 1) [3, 4, 1, 2, 5]) 0, p + 4)
 else if c = 7 then (st 7 (iD bs (p + 1 + 1 + 1) [4, 1, 2, 5]) 0 0, p + 4)
 else if c = 8 then (st 8 box 0 0, p + 3)
 else (st 5 5 (iD bs (p + 1 + 1 + 1) [4, 1, 2]) 0, p + 4)
def g7 (one : Nat → AL.Stmt × Nat) (s : AL.Stmt) (p : Nat) : Nat → List AL.Stmt × Nat
 | 0 => ([s], p)
 | k + 1 => ((g7 one s p k).1 ++ [(one (g7 one s p k).2).1], (one (g7 one s p k).2).2)
def tD (bs : List UInt8) : Nat → Nat → AL.Stmt × Nat
 | 0, p => jT bs p
 | d + 1, p =>
  let c := cG bs (p + 1 + 1) 11
  if c = 9 then
   let r := g7 (tD bs d) (st 2 1 0 (cG bs (p + 1 + 1 + 1 + 1) 10)) (p + 1 + 1 + 1 + 1 + 1) (cG bs (p + 1 + 1 + 1) 3).toNat
   let e := jT bs r.2
   (.mk 9 0 0 0 r.1 [e.1], e.2)
  else if c = 10 then
   let a := jT bs (p + 1 + 1 + 1)
   let b := jT bs a.2
   (.mk 10 0 0 0 [a.1, b.1] [], b.2)
  else jT bs p
def e6 (bs : List UInt8) (d : Int) (p : Nat) : AL.Stmt × Nat := tD bs d.toNat p
def eI (bs : List UInt8) (d n : Int) (p : Nat) : List AL.Stmt × Nat := g7 (e6 bs d) (st 2 1 0 (cG bs p 10)) (p + 1) n.toNat
theorem qU (bs : List UInt8) (p : Nat) : (jT bs p).2 ≤ p + 4 := by
 unfold jT;dsimp only;repeat' split
 all_goals omega
theorem sH (bs : List UInt8) (p : Nat) : dH (jT bs p).1 = 1 := by
 unfold jT st;dsimp only;repeat' split
 all_goals simp [dH, bJ]
theorem vV {one : Nat → AL.Stmt × Nat} {c : Nat} (h : ∀ p, (one p).2 ≤ p + c) (s : AL.Stmt) (p : Nat) : ∀ k, (g7 one s p k).2 ≤ p + k * c
 | 0 => by simp [g7]
 | k + 1 => by
  have := vV h s p k
  have := h (g7 one s p k).2
  simp only [g7, Nat.succ_mul]; omega
theorem wJ {one : Nat → AL.Stmt × Nat} {c : Nat} (h : ∀ p, dH (one p).1 ≤ c) (s : AL.Stmt) (p : Nat) : ∀ k, bJ (g7 one s p k).1 ≤ dH s + k * c
 | 0 => by simp [g7, bJ]
 | k + 1 => by
  have := wJ h s p k
  have := h (g7 one s p k).2
  simp only [g7, Nat.succ_mul, dS, bJ]; omega
def wY : Nat → Nat
 | 0 => 4
 | d + 1 => 9 + 2 * wY d
def CW : Nat → Nat
 | 0 => 1
 | d + 1 => 3 + 2 * CW d
theorem k3 (bs : List UInt8) (p : Nat) : (cG bs p 3).toNat ≤ 2 := by have := fC bs p 3; omega
theorem D4 (bs : List UInt8) : ∀ d p, (tD bs d p).2 ≤ p + wY d
 | 0, p => qU bs p
 | d + 1, p => by
  have h0 := qU bs p
  have h1 := vV (D4 bs d) (st 2 1 0 (cG bs (p + 1 + 1 + 1 + 1) 10)) (p + 1 + 1 + 1 + 1 + 1) (cG bs (p + 1 + 1 + 1) 3).toNat
  have h2 := k3 bs (p + 1 + 1 + 1)
  have h3 : (cG bs (p + 1 + 1 + 1) 3).toNat * wY d ≤ 2 * wY d := Nat.mul_le_mul_right _ h2
  have h4 := qU bs (g7 (tD bs d) (st 2 1 0 (cG bs (p + 1 + 1 + 1 + 1) 10)) (p + 1 + 1 + 1 + 1 + 1) (cG bs (p + 1 + 1 + 1) 3).toNat).2
  have h5 := qU bs (p + 1 + 1 + 1)
  have h6 := qU bs (jT bs (p + 1 + 1 + 1)).2
  have h7 : 1 ≤ wY d := by cases d <;> simp only [wY] <;> omega
  simp only [tD, wY]
  split
  ·dsimp only;omega
  ·split
   ·dsimp only;omega
   ·omega
theorem EJ (bs : List UInt8) : ∀ d p, dH (tD bs d p).1 ≤ CW d
 | 0, p => by rw [tD, sH]; decide
 | d + 1, p => by
  have h0 := sH bs p
  have h1 := wJ (EJ bs d) (st 2 1 0 (cG bs (p + 1 + 1 + 1 + 1) 10)) (p + 1 + 1 + 1 + 1 + 1) (cG bs (p + 1 + 1 + 1) 3).toNat
  have h2 := k3 bs (p + 1 + 1 + 1)
  have h3 : (cG bs (p + 1 + 1 + 1) 3).toNat * CW d ≤ 2 * CW d := Nat.mul_le_mul_right _ h2
  have h4 := sH bs (g7 (tD bs d) (st 2 1 0 (cG bs (p + 1 + 1 + 1 + 1) 10)) (p + 1 + 1 + 1 + 1 + 1) (cG bs (p + 1 + 1 + 1) 3).toNat).2
  have h5 := sH bs (p + 1 + 1 + 1)
  have h6 := sH bs (jT bs (p + 1 + 1 + 1)).2
  have h7 : dH (st 2 1 0 (cG bs (p + 1 + 1 + 1 + 1) 10)) = 1 := by simp [st, dH, bJ]
  simp only [tD, CW]
  split
  ·simp only [dH, bJ]; omega
  ·split
   ·simp only [dH, bJ]; omega
   ·omega
theorem DA (bs : List UInt8) {d : Int} (h : d ≤ 2) (p : Nat) : (e6 bs d p).2 ≤ p + 43 := by
 have h1 := D4 bs d.toNat p
 have h2 : wY d.toNat ≤ 43 := by
  have : d.toNat = 0 ∨ d.toNat = 1 ∨ d.toNat = 2 := by omega
  rcases this with h|h|h <;> rw [h] <;> decide
 exact Nat.le_trans h1 (by omega)
theorem HB (bs : List UInt8) {d : Int} (h : d ≤ 2) (p : Nat) : dH (e6 bs d p).1 ≤ 13 := by
 have h1 := EJ bs d.toNat p
 have h2 : CW d.toNat ≤ 13 := by
  have : d.toNat = 0 ∨ d.toNat = 1 ∨ d.toNat = 2 := by omega
  rcases this with h|h|h <;> rw [h] <;> decide
 exact Nat.le_trans h1 h2
theorem tS {one : Nat → AL.Stmt × Nat} (s : AL.Stmt) (p : Nat) : ∀ k, (g7 one s p k).1.length = k + 1
 | 0 => rfl
 | k + 1 => by simp only [g7, List.length_append, tS s p k, List.length_cons, List.length_nil]
theorem CI (bs : List UInt8) (d : Int) (n p : Nat) : (eI bs d (n : Int) p).1.length = n + 1 := tS _ _ _
theorem Gd (bs : List UInt8) (d : Int) (k p : Nat) : eI bs d ((k + 1 : Nat) : Int) p = ((eI bs d (k : Int) p).1 ++ [(e6 bs d (eI bs d (k : Int) p).2).1], (e6 bs d (eI bs d (k : Int) p).2).2) := rfl
theorem g9 {xs : List AL.Stmt} {m : Nat} {s : AL.Stmt} (hm : m = xs.length) : ((flat aN xs).drop 0).take (m * 6) ++ [iv s.op, iv s.x, iv s.y, iv s.n, sl aN s.th, sl aN s.el] = flat aN (xs ++ [s]) := j9 hm (dU s).symm
def I3 (s : AL.Stmt) (a : Int) : AL.Stmt := .mk a s.x s.y s.n s.th s.el
def uX (s : AL.Stmt) (a : Int) : AL.Stmt := .mk s.op a s.y s.n s.th s.el
def uY (s : AL.Stmt) (a : Int) : AL.Stmt := .mk s.op s.x a s.n s.th s.el
def uN (s : AL.Stmt) (a : Int) : AL.Stmt := .mk s.op s.x s.y a s.th s.el
theorem HJ {xs : List AL.Stmt} {k : Nat} {a : Int} (hk : k < xs.length) : g8 (flat aN xs) (0 + k * 6 + 0) [iv a] = flat aN (xs.set k (I3 xs[k]! a)) := mC hk (by simp) (by rw [dU, dU]; rfl)
theorem IS {xs : List AL.Stmt} {k : Nat} {a : Int} (hk : k < xs.length) : g8 (flat aN xs) (0 + k * 6 + 1) [iv a] = flat aN (xs.set k (uX xs[k]! a)) := mC hk (by simp) (by rw [dU, dU]; rfl)
theorem ID {xs : List AL.Stmt} {k : Nat} {a : Int} (hk : k < xs.length) : g8 (flat aN xs) (0 + k * 6 + 2) [iv a] = flat aN (xs.set k (uY xs[k]! a)) := mC hk (by simp) (by rw [dU, dU]; rfl)
theorem I1 {xs : List AL.Stmt} {k : Nat} {a : Int} (hk : k < xs.length) : g8 (flat aN xs) (0 + k * 6 + 3) [iv a] = flat aN (xs.set k (uN xs[k]! a)) := mC hk (by simp) (by rw [dU, dU]; rfl)
theorem vC (bs : List UInt8) {d : Int} (h : d ≤ 2) (n : Int) (p : Nat) : (eI bs d n p).2 ≤ p + 1 + n.toNat * 43 := vV (DA bs h) _ _ _
theorem G9 (bs : List UInt8) {d : Int} (h : d ≤ 2) (n : Int) (p : Nat) : bJ (eI bs d n p).1 ≤ 1 + n.toNat * 13 := by
 have h7 : dH (st 2 1 0 (cG bs p 10)) = 1 := by simp [st, dH, bJ]
 have := wJ (HB bs h) (st 2 1 0 (cG bs p 10)) (p + 1) n.toNat
 rw [h7] at this
 exact this
theorem zX (bs : List UInt8) {d : Int} (h : 0 < d) (p : Nat) : e6 bs d p = 
  let c := cG bs (p + 1 + 1) 11
  if c = 9 then
   let r := eI bs (d - 1) (cG bs (p + 1 + 1 + 1) 3) (p + 1 + 1 + 1 + 1)
   let e := e6 bs 0 r.2
   (.mk 9 0 0 0 r.1 [e.1], e.2)
  else if c = 10 then
   let a := e6 bs 0 (p + 1 + 1 + 1)
   let b := e6 bs 0 a.2
   (.mk 10 0 0 0 [a.1, b.1] [], b.2)
  else jT bs p := by
 have : d.toNat = (d - 1).toNat + 1 := by omega
 simp only [e6, this, tD, eI]
 rfl
theorem IH (s : AL.Stmt) : flat aN [s] = [iv s.op, iv s.x, iv s.y, iv s.n, sl aN s.th, sl aN s.el] := by simp [flat, dU]
theorem IL (s t : AL.Stmt) : flat aN [s, t] = [iv s.op, iv s.x, iv s.y, iv s.n, sl aN s.th, sl aN s.el, iv t.op, iv t.x, iv t.y, iv t.n, sl aN t.th, sl aN t.el] := by simp [flat, dU]
theorem HU (bs : List UInt8) {d : Int} (h0 : 0 ≤ d) (p : Nat) (h : ¬ 0 < d ∨ (cG bs (p + 1 + 1) 11 ≠ 9 ∧ cG bs (p + 1 + 1) 11 ≠ 10)) : e6 bs d p = jT bs p := by
 by_cases hd : 0 < d
 ·rw [zX bs hd p]
  dsimp only
  rw [if_neg (by omega), if_neg (by omega)]
 ·have : d = 0 := by omega
  subst this;rfl
theorem HT (bs : List UInt8) {d : Int} (hd : 0 < d) (p : Nat) (h : cG bs (p + 1 + 1) 11 = 9) : e6 bs d p = (.mk 9 0 0 0 (eI bs (d - 1) (cG bs (p + 1 + 1 + 1) 3) (p + 1 + 1 + 1 + 1)).1 [(e6 bs 0 (eI bs (d - 1) (cG bs (p + 1 + 1 + 1) 3) (p + 1 + 1 + 1 + 1)).2).1], (e6 bs 0 (eI bs (d - 1) (cG bs (p + 1 + 1 + 1) 3) (p + 1 + 1 + 1 + 1)).2).2) := by
 rw [zX bs hd p]
 dsimp only
 rw [if_pos h]
theorem GP (bs : List UInt8) {d : Int} (hd : 0 < d) (p : Nat) (h : cG bs (p + 1 + 1) 11 = 10) : e6 bs d p = (.mk 10 0 0 0 [(e6 bs 0 (p + 1 + 1 + 1)).1, (e6 bs 0 (e6 bs 0 (p + 1 + 1 + 1)).2).1] [], (e6 bs 0 (e6 bs 0 (p + 1 + 1 + 1)).2).2) := by
 rw [zX bs hd p]
 dsimp only
 rw [if_neg (by omega), if_pos h]
theorem yQ {bs : List UInt8} {p : Nat} {ts : List Int} {dp : Int} {N : Nat} {Q : Exit → AS → Prop} {all : Array Oper} {rest : List Oper} {tsl : List (Nat × AV)} {hsl : List (Nat × Option (List AV))} {nidl : Nat} {z0 : Lo} {md : Md} {d : Nat} {ty : TypeId} {pos : String} {af : Array Edge} {tys : Array TypeId} {x0 x1 x2 : Operand} {i0 : Nat} (ha0 : ev (lk tsl) x0 = some (.optr i0 0)) (ha1 : ev (lk tsl) x1 = some (sl cI ts)) (ha2 : ev (lk tsl) x2 = some (iv dp)) (hH0 : bU hsl i0 = some (e8 bs p)) (hmc : MC Tryz.prog 164 [.optr 0 0, sl cI ts, iv dp] [(0, some (e8 bs p))] 1 (fun _ : Unit => True) (fun _ => eN (e6 bs dp p).1) (fun _ => [(0, some (e8 bs (e6 bs dp p).2))])) (hM : Nat.ble (nidl + 0) bZ = true) (hN : Nat.blt d N = true) {md' : Md} [hmd : MdA md (jH [x0, x1, x2] ++ [.inr i0]) (List.map Sum.inr (List.map Prod.fst ([(i0, some (e8 bs (e6 bs dp p).2))] : List (Nat × Option (List AV)))) ++ [.inl d]) md'] (kk : RW Tryz.prog N all Q md' rest ⟨(d, eN (e6 bs dp p).1) :: tsl, lE hsl [(i0, some (e8 bs (e6 bs dp p).2))], nidl + 0, z0⟩) : RW Tryz.prog N all Q md (⟨some d, .call ⟨.value (.func 164), #[x0, x1, x2], tys⟩, ty, pos, af, none⟩ :: rest) ⟨tsl, hsl, nidl, z0⟩ := by
 refine c5 [i0] 1 [(i0, some (e8 bs (e6 bs dp p).2))] hmc (avs := [.optr i0 0, sl cI ts, iv dp]) ?_ rfl ?_ rfl ?_ (by simpa using hM) ?_ ?_ ?_ hN (md' := md') (hmd := hmd) kk
 ·show evL (lk tsl) [x0, x1, x2] = _
  simp only [evL, ha0, ha1, ha2]
 ·exact ⟨⟨_, _, rfl, hH0, by (repeat' (exact RnL.purI inferInstance))⟩, trivial⟩
 ·(repeat' (first|exact RnL.purI inferInstance|exact RnV.optr rfl|refine RnL.cons ?_ ?_))
 ·(repeat' (exact RnV.purI inferInstance))
 ·simp [e7]
 ·(repeat' (first|exact trivial|(refine And.intro ⟨0, _, rfl, rfl, ?_⟩ ?_)|exact RnL.purI inferInstance))
theorem uF {bs : List UInt8} {p : Nat} {ts : List Int} {dp cn : Int} {N : Nat} {Q : Exit → AS → Prop} {all : Array Oper} {rest : List Oper} {tsl : List (Nat × AV)} {hsl : List (Nat × Option (List AV))} {nidl : Nat} {z0 : Lo} {md : Md} {d : Nat} {ty : TypeId} {pos : String} {af : Array Edge} {tys : Array TypeId} {x0 x1 x2 x3 : Operand} {i0 : Nat} (ha0 : ev (lk tsl) x0 = some (.optr i0 0)) (ha1 : ev (lk tsl) x1 = some (sl cI ts)) (ha2 : ev (lk tsl) x2 = some (iv dp)) (ha3 : ev (lk tsl) x3 = some (iv cn)) (hH0 : bU hsl i0 = some (e8 bs p)) (hmc : MC Tryz.prog 123 [.optr 0 0, sl cI ts, iv dp, iv cn] [(0, some (e8 bs p))] 1 (fun _ : Unit => True) (fun _ => sl aN (eI bs dp cn p).1) (fun _ => [(0, some (e8 bs (eI bs dp cn p).2))])) (hM : Nat.ble (nidl + 0) bZ = true) (hN : Nat.blt d N = true) {md' : Md} [hmd : MdA md (jH [x0, x1, x2, x3] ++ [.inr i0]) (List.map Sum.inr (List.map Prod.fst ([(i0, some (e8 bs (eI bs dp cn p).2))] : List (Nat × Option (List AV)))) ++ [.inl d]) md'] (kk : RW Tryz.prog N all Q md' rest ⟨(d, sl aN (eI bs dp cn p).1) :: tsl, lE hsl [(i0, some (e8 bs (eI bs dp cn p).2))], nidl + 0, z0⟩) : RW Tryz.prog N all Q md (⟨some d, .call ⟨.value (.func 123), #[x0, x1, x2, x3], tys⟩, ty, pos, af, none⟩ :: rest) ⟨tsl, hsl, nidl, z0⟩ := by
 refine c5 [i0] 1 [(i0, some (e8 bs (eI bs dp cn p).2))] hmc (avs := [.optr i0 0, sl cI ts, iv dp, iv cn]) ?_ rfl ?_ rfl ?_ (by simpa using hM) ?_ ?_ ?_ hN (md' := md') (hmd := hmd) kk
 ·show evL (lk tsl) [x0, x1, x2, x3] = _
  simp only [evL, ha0, ha1, ha2, ha3]
 ·exact ⟨⟨_, _, rfl, hH0, by (repeat' (exact RnL.purI inferInstance))⟩, trivial⟩
 ·(repeat' (first|exact RnL.purI inferInstance|exact RnV.optr rfl|refine RnL.cons ?_ ?_))
 ·(repeat' (exact RnV.purI inferInstance))
 ·simp [e7]
 ·(repeat' (first|exact trivial|(refine And.intro ⟨0, _, rfl, rfl, ?_⟩ ?_)|exact RnL.purI inferInstance))
attribute [local irreducible] cG
theorem wX (D : Int) (hD0 : 0 ≤ D) (hD : D ≤ 2) (l1One_ih : ∀ bs p ts, 0 < D → bs.length ≤ 2000 → p ≤ 900000 → ∀ dp : Int, dp = 0 → MC Tryz.prog 164 [.optr 0 0, sl cI ts, iv dp] [(0, some (e8 bs p))] 1 (fun _ : Unit => True) (fun _ => eN (e6 bs dp p).1) (fun _ => [(0, some (e8 bs (e6 bs dp p).2))])) (l1Some_ih : ∀ bs (p : Nat) ts cn, 0 < D → bs.length ≤ 2000 → (p : Int) ≤ 850000 - 100000 * (D - 1) → 0 ≤ cn → cn ≤ 2 → ∀ dp : Int, dp = D - 1 → MC Tryz.prog 123 [.optr 0 0, sl cI ts, iv dp, iv cn] [(0, some (e8 bs p))] 1 (fun _ : Unit => True) (fun _ => sl aN (eI bs dp cn p).1) (fun _ => [(0, some (e8 bs (eI bs dp cn p).2))])) (bs : List UInt8) (p : Nat) (ts : List Int) (dp : Int) (hd : dp = D) (hb : bs.length ≤ 2000) (hp : (p : Int) ≤ 900000 - 100000 * D) : MC Tryz.prog 164 [.optr 0 0, sl cI ts, iv dp] [(0, some (e8 bs p))] 1 (fun _ : Unit => True) (fun _ => eN (e6 bs dp p).1) (fun _ => [(0, some (e8 bs (e6 bs dp p).2))]) := by
 subst hd
 have h0 := fC bs p 2
 have h2 := fC bs (p + 1 + 1) 11
 have h3 := fC bs (p + 1 + 1 + 1) 3
 have h3' := k3 bs (p + 1 + 1 + 1)
 have h4 := DA bs (d := 0) (by omega) (p + 1 + 1 + 1)
 have h5 := vC bs (d := dp - 1) (by omega) (cG bs (p + 1 + 1 + 1) 3) (p + 1 + 1 + 1 + 1)
 have h6 : (cG bs (p + 1 + 1 + 1) 3).toNat * 43 ≤ 2 * 43 := Nat.mul_le_mul_right _ h3'
 (refine dB Tryz.func164 rfl (by simp [Tryz.ntmps164]) ?_; rw [Tryz.ntmps164])
 repeat' (first|(apply aM;first|(apply aD;rfl;rfl)|(first|(apply bO;rfl;rfl;omega;rfl)|(apply gT;rfl;rfl;omega;rfl)|(apply aV;rfl;rfl;rfl;rfl))|(apply aC;rfl;rfl)|(first|(apply jV;rfl;rfl;(rfl);(apply l8 <;> (first|assumption|omega));rfl;rfl)|(apply HK;rfl;rfl;infer_instance;rfl;(rfl);assumption;omega;(decide);(decide);rfl;rfl)|(apply uF;rfl;rfl;rfl;rfl;(rfl);(apply l1Some_ih <;> (first|assumption|omega));rfl;rfl)|(apply yQ;rfl;rfl;rfl;(rfl);(apply l1One_ih <;> (first|assumption|omega));rfl;rfl))|(apply aF;kernel_rfl)|(apply b8;rfl;(exact (rfl:_=some [_, _, _, _, _, _]));(exact (rfl:_=[_, _, _, _, _, _]));rfl)|(apply bT;rfl;rfl)|((apply bS (t := _));(case hze|hsm|hl => rfl);(case hfl => (first|exact (rfl:_=some [_, _, _])|exact (rfl:_=some [_, _, _, _])|exact (rfl:_=some [_, _, _, _, _])|exact (rfl:_=some [_, _, _, _, _, _])|rfl));(case hM|hN => rfl))|(apply a7;rfl;rfl;rfl;rfl;rfl;(case hl => (simp;done));(exact (rfl:_=[_, _, _, _, _, _]))))|(apply aO;first|apply aH|apply aB|(apply bX;rfl;(assumption))|(apply aP;rfl;all_goals intro hc;have hq:=hc;(try simp only [cD] at hq);try exfalso;omega)|apply aJ|apply aS|apply aW)|with_reducible apply aA|with_reducible apply b0|with_reducible apply aT|with_reducible apply eQ)
 all_goals try (refine aU rfl ?_; refine dA () trivial ?_ ⟨.inr (Eq.trans (b := some _) rfl ?_), trivial⟩)
 all_goals try (rw [HU bs hD0 p (by omega)]; unfold jT; dsimp only; repeat' split
                all_goals (first|rfl|(exfalso;omega));done)
 iterate 2
  rewrite [HT bs (d := dp) (by assumption) p (by assumption)]
  first|rfl|(refine Eq.trans (b := AV.agg [_, _, _, _, _, AV.imm 1 (flat aN [_])]) ?_ rfl;rw [IH]; rfl)
 iterate 2
  rewrite [GP bs (d := dp) (by omega) p (by omega)]
  first|rfl|(refine Eq.trans (b := AV.agg [_, _, _, _, AV.imm 2 (flat aN [_, _]), _]) ?_ rfl;rw [IL]; rfl)
theorem uK (D : Int) (hD0 : 0 ≤ D) (hD : D ≤ 2) (l1One_ih : ∀ bs (p : Nat) ts, bs.length ≤ 2000 → (p : Int) ≤ 900000 - 100000 * D → ∀ dp : Int, dp = D → MC Tryz.prog 164 [.optr 0 0, sl cI ts, iv dp] [(0, some (e8 bs p))] 1 (fun _ : Unit => True) (fun _ => eN (e6 bs dp p).1) (fun _ => [(0, some (e8 bs (e6 bs dp p).2))])) (bs : List UInt8) (p : Nat) (ts : List Int) (dp : Int) (hd : dp = D) (cn : Int) (hb : bs.length ≤ 2000) (hp : (p : Int) ≤ 850000 - 100000 * D) (hc0 : 0 ≤ cn) (hc : cn ≤ 8) : MC Tryz.prog 123 [.optr 0 0, sl cI ts, iv dp, iv cn] [(0, some (e8 bs p))] 1 (fun _ : Unit => True) (fun _ => sl aN (eI bs dp cn p).1) (fun _ => [(0, some (e8 bs (eI bs dp cn p).2))]) := by
 subst hd
 (refine dB Tryz.func123 rfl (by simp [Tryz.ntmps123]) ?_; rw [Tryz.ntmps123])
 repeat' (first|(apply aM;first|(apply aD;rfl;rfl)|(apply aC;rfl;rfl)|(apply jV;rfl;rfl;(rfl);(apply l8 <;> (first|assumption|omega));rfl;rfl)|(apply aF;kernel_rfl)|(apply b8;rfl;(exact (rfl:_=some [_, _, _, _, _, _]));(exact (rfl:_=[_, _, _, _, _, _]));rfl)|(apply bK;rfl;rfl;rfl;(exact (rfl:_=some [_, _, _, _, _, _]));rfl;rfl))|(apply aO;first|apply aH|apply aB|apply aJ)|with_reducible apply aA)
 refine bG (σ := Nat × List AL.Stmt × Nat) [0, 1, 2, 3] [(0, _), (1, _), (2, _), (3, _)] [] [] (fun k => [(10, iv (k.1 : Int)), (9, .own 1 0 (k.1 + 1) 6)]) (fun k => [(0, some (e8 bs k.2.2)), (1, some (flat aN k.2.1))]) (fun k => (k.1 : Int) ≤ cn ∧ k.2 = eI bs dp (k.1 : Int) p) (fun k => cn.toNat - k.1) (0, [st 2 1 0 (cG bs p 10)], p + 1) ⟨by omega, rfl⟩ rfl rfl (by repeat' (first|exact trivial|refine And.intro rfl ?_)) (by repeat' (first|exact trivial|refine And.intro (.inr rfl) ?_)) ?_
 rintro ⟨k, xs, q⟩ ⟨hk, hse⟩
 dsimp only at hk hse ⊢
 have hp2 := vC bs (d := dp) (by omega) (k : Int) p
 have hkk : (k : Int).toNat * 43 ≤ 8 * 43 := Nat.mul_le_mul_right _ (by omega)
 have hln := CI bs dp k p
 rw [← hse] at hp2 hln
 dsimp only at hp2 hln
 repeat' (first|(apply aM;first|(apply aD;rfl;rfl)|(first|(apply bO;rfl;rfl;omega;rfl)|(apply aV;rfl;rfl;rfl;rfl))|(apply aC;rfl;rfl)|(apply yQ;rfl;rfl;rfl;(rfl);(apply l1One_ih <;> (first|assumption|omega));rfl;rfl)|(apply bV;rfl;rfl;rfl;rfl;rfl;(rw [aK]; omega);(rfl);omega;omega;(exact g9 (by (omega)));rfl;rfl)|(apply aF;kernel_rfl)|((apply bS (t := _));(case hze|hsm|hl => rfl);(case hfl => (exact (rfl:_=some [_, _, _, _, _, _])));(case hM|hN => rfl)))|(apply aO;first|apply aH|apply aB|(apply aP;rfl;all_goals intro hc;have hq:=hc;(try simp only [cD] at hq);try exfalso;omega)|apply aJ|apply aS|apply bF|apply aW)|with_reducible apply aA|with_reducible apply bE|with_reducible apply aT|with_reducible apply bD)
 ·(apply c6 (k + 1, _, _); focus (refine Le.ren [(1, 3)] rfl (by decide) ?_ ?_ <;> repeat' (first | exact trivial | refine And.intro ⟨_, rfl, ?_⟩ ?_ | refine And.intro ⟨_, _, rfl, rfl, ?_⟩ ?_ | exact Or.inr rfl | refine Or.inl ⟨?_, (by first | rfl | exact aX _ _ | exact Pur.pf)⟩ | rfl)))
  ·dsimp only
   refine ⟨by omega, ?_⟩
   rw [Gd, ← hse]
  ·dsimp only;omega
 ·have hke : (k : Int) = cn := by omega
  rw [hke] at hse
  (refine cA (Le.frzD (d := 8) (i := 1) rfl rfl) ?_; refine aU rfl ?_)
  refine dA () trivial ?_ ⟨.inr (Eq.trans (b := some _) rfl ?_), trivial⟩
  ·rw [← hse]; show AV.imm (k + 1) (flat aN xs) = AV.imm xs.length (flat aN xs)
   rw [hln]
  ·rw [← hse]
theorem m5 : ∀ D : Nat, D ≤ 2 → (∀ bs (p : Nat) ts, bs.length ≤ 2000 → (p : Int) ≤ 900000 - 100000 * (D : Int) → ∀ dp : Int, dp = (D : Int) → MC Tryz.prog 164 [.optr 0 0, sl cI ts, iv dp] [(0, some (e8 bs p))] 1 (fun _ : Unit => True) (fun _ => eN (e6 bs dp p).1) (fun _ => [(0, some (e8 bs (e6 bs dp p).2))])) ∧ (∀ bs (p : Nat) ts (cn : Int), bs.length ≤ 2000 → (p : Int) ≤ 850000 - 100000 * (D : Int) → 0 ≤ cn → cn ≤ 8 → ∀ dp : Int, dp = (D : Int) → MC Tryz.prog 123 [.optr 0 0, sl cI ts, iv dp, iv cn] [(0, some (e8 bs p))] 1 (fun _ : Unit => True) (fun _ => sl aN (eI bs dp cn p).1) (fun _ => [(0, some (e8 bs (eI bs dp cn p).2))]))
 | 0, _ => by
  have h1 : ∀ bs (p : Nat) ts, bs.length ≤ 2000 → (p : Int) ≤ 900000 - 100000 * ((0 : Nat) : Int) → ∀ dp : Int, dp = ((0 : Nat) : Int) → MC Tryz.prog 164 [.optr 0 0, sl cI ts, iv dp] [(0, some (e8 bs p))] 1 (fun _ : Unit => True) (fun _ => eN (e6 bs dp p).1) (fun _ => [(0, some (e8 bs (e6 bs dp p).2))]) :=
   fun bs p ts hb hp dp hd => wX ((0 : Nat) : Int) (by omega) (by omega) (fun _ _ _ h => by omega) (fun _ _ _ _ h => by omega) bs p ts dp hd hb hp
  exact ⟨h1, fun bs p ts cn hb hp h0 h8 dp hd => uK ((0 : Nat) : Int) (by omega) (by omega) h1 bs p ts dp hd cn hb hp h0 h8⟩
 | D + 1, hD => by
  have ih := m5 D (by omega)
  have i0 := m5 0 (by omega)
  have h1 : ∀ bs (p : Nat) ts, bs.length ≤ 2000 → (p : Int) ≤ 900000 - 100000 * ((D + 1 : Nat) : Int) → ∀ dp : Int, dp = ((D + 1 : Nat) : Int) → MC Tryz.prog 164 [.optr 0 0, sl cI ts, iv dp] [(0, some (e8 bs p))] 1 (fun _ : Unit => True) (fun _ => eN (e6 bs dp p).1) (fun _ => [(0, some (e8 bs (e6 bs dp p).2))]) :=
   fun bs p ts hb hp dp hd => wX ((D + 1 : Nat) : Int) (by omega) (by omega) (fun bs p ts _ hb hp dp hd => i0.1 bs p ts hb (by omega) dp (by omega)) (fun bs p ts cn _ hb hp h0 h2 dp hd => ih.2 bs p ts cn hb (by omega) h0 (by omega) dp (by omega)) bs p ts dp hd hb hp
  exact ⟨h1, fun bs p ts cn hb hp h0 h8 dp hd => uK ((D + 1 : Nat) : Int) (by omega) (by omega) h1 bs p ts dp hd cn hb hp h0 h8⟩
theorem Dl (bs : List UInt8) (p : Nat) (ts : List Int) (dp cn : Int) (hb : bs.length ≤ 2000) (hp : p ≤ 600000) (h0 : 0 ≤ cn) (h8 : cn ≤ 8) (hd0 : 0 ≤ dp) (hd : dp ≤ 2) : MC Tryz.prog 123 [.optr 0 0, sl cI ts, iv dp, iv cn] [(0, some (e8 bs p))] 1 (fun _ : Unit => True) (fun _ => sl aN (eI bs dp cn p).1) (fun _ => [(0, some (e8 bs (eI bs dp cn p).2))]) :=
 (m5 dp.toNat (by omega)).2 bs p ts cn hb (by omega) h0 h8 dp (by omega)
end Go.Proofs.YtjcpngimjdckmaaGreat
namespace Go.Proofs.YtjcpngimjdckmaaGreat
open Go.AL Go.RowKit
theorem BN {w : World} {bad : Nat → Prop} {ι : Pl} : ∀ {cs cs' : List AV}, All2 (fun c c' => c' = c ∨ c' = mQ c) cs cs' → ∀ {b β : Nat}, RdC w bad ι cs b β → RdC w bad ι cs' b β
 | _, _, .nil, _, _, h => h
 | _, _, .cons h1 h2, b, β, h => by
  simp only [RdC] at h ⊢
  obtain ⟨⟨x, q1, q2, q3⟩, q4⟩ := h
  refine ⟨⟨x, q1, q2, ?_⟩, BN h2 q4⟩
  rcases h1 with rfl|rfl
  ·exact q3
  ·exact lZ q3
theorem Bt : ∀ (l : List AV) {a b : List AV}, All2 (fun c c' => c' = c ∨ c' = mQ c) a b → All2 (fun c c' => c' = c ∨ c' = mQ c) (l ++ a) (l ++ b)
 | [], _, _, h => h
 | _ :: l, _, _, h => .cons (.inl rfl) (Bt l h)
theorem oR {α : Type} {p q : α → Prop} {F : α → AS} {s s' : AS} (L : Le s s') (h : ∃ j, p j ∧ q j ∧ Le s' (F j)) : ∃ j, p j ∧ q j ∧ Le s (F j) := by
 obtain ⟨j, h1, h2, h3⟩ := h
 exact ⟨j, h1, h2, L.trans h3⟩
theorem Le.stmtN {ts : List (Nat × AV)} {hs : List (Nat × Option (List AV))} {n i : Nat} {z0 : Lo} {xs : List AL.Stmt} (s : AL.Stmt) {m : Nat} {a b : AV} (hm : m = xs.length)
  (ha : a = sl aN s.th ∨ (a = .v (.slice none 0 0) ∧ s.th = [])) (hb : b = sl aN s.el ∨ (b = .v (.slice none 0 0) ∧ s.el = []))
  (hi : bU hs i = some (((flat aN xs).drop 0).take (m * 6) ++ List.take (1 * 6) [iv s.op, iv s.x, iv s.y, iv s.n, a, b])) : Le ⟨ts, hs, n, z0⟩ ⟨ts, (i, some (flat aN (xs ++ [s]))) :: hs, n, z0⟩ := by
 have e : flat aN (xs ++ [s]) = ((flat aN xs).drop 0).take (m * 6) ++ [iv s.op, iv s.x, iv s.y, iv s.n, sl aN s.th, sl aN s.el] := (g9 hm).symm
 have k : All2 (fun c c' => c' = c ∨ c' = mQ c) (((flat aN xs).drop 0).take (m * 6) ++ List.take (1 * 6) [iv s.op, iv s.x, iv s.y, iv s.n, a, b]) (flat aN (xs ++ [s])) := by
  rw [e]
  refine Bt _ (.cons (.inl rfl) (.cons (.inl rfl) (.cons (.inl rfl) (.cons (.inl rfl) (.cons ?_ (.cons ?_ .nil))))))
  ·rcases ha with h | ⟨h, h2⟩
   ·exact .inl h.symm
   ·refine .inr ?_; rw [h2, h]; rfl
  ·rcases hb with h | ⟨h, h2⟩
   ·exact .inl h.symm
   ·refine .inr ?_; rw [h2, h]; rfl
 refine Le.cells hi ?_ fun w bad ι b β h => BN k h
 rw [e]; simp
theorem Bk (mm : Nat) (hmm : mm ≤ 1000000) (copy_ih : ∀ l, bJ l < mm → PC Tryz.prog 72 [sl aN l] (fun r => r = sl aN l)) (l : List AL.Stmt) (hs : bJ l ≤ mm) : PC Tryz.prog 72 [sl aN l] (fun r => r = sl aN l) := by
 have hlen := cY l
 (refine aQ Tryz.func72 rfl (by simp [Tryz.ntmps72]) ?_; rw [Tryz.ntmps72])
 repeat' (first|(apply aM;first|(apply aC;rfl;rfl)|(apply aF;kernel_rfl)|(apply bK;rfl;rfl;rfl;(rfl);rfl;rfl))|(apply aO;first|apply aH|apply aB|apply aJ)|with_reducible apply aA)
 refine bG (σ := Nat × List AL.Stmt) [0] [(0, _)] [] [] (fun k => [(4, iv (k.1 : Int)), (3, .own 0 0 k.1 6)]) (fun k => [(0, some (flat aN k.2))]) (fun k => k.1 ≤ l.length ∧ k.2 = l.take k.1) (fun k => l.length - k.1) (0, []) ⟨by omega, rfl⟩ rfl rfl (by repeat' (first|exact trivial|refine And.intro rfl ?_)) (by repeat' (first|exact trivial|refine And.intro (.inr rfl) ?_)) ?_
 rintro ⟨k, xs⟩ ⟨hk, hxs⟩
 dsimp only at hk hxs ⊢
 have hck := fL l k
 have hct := iG l[k]!
 have hln : xs.length = k := by rw [hxs, List.length_take]; omega
 repeat' (first|(apply aM;first|(apply aD;rfl;rfl)|(first|(apply aL;rfl;rfl;rfl;rfl)|(apply a6;rfl;rfl;(exact (rfl:_=[_, _, _, _, _, _]));rfl;rfl;rfl))|(apply aE;rfl;rfl;rfl)|(first|(apply bO;rfl;rfl;omega;rfl)|(apply aV;rfl;rfl;rfl;rfl))|(apply aC;rfl;rfl)|(apply bB;(case hx|hi => rfl);(case hm => (omega));(case hml => (rfl));(case hα | hf|hg => infer_instance);(case hN => rfl))|((with_reducible apply aI (k := 72));(case ha => rfl);(case h => (apply copy_ih <;> (omega)));(case hp => (exact Pur.pf));(case hN => rfl))|(first|(apply a8;rfl;rfl;rfl)|(apply bV;rfl;rfl;rfl;rfl;rfl;(rw [aK]; omega);(rfl);omega;omega;(first|exact g9 (by (omega))|rfl);rfl;rfl))|(apply aF;kernel_rfl)|(apply bT;rfl;rfl)|((apply bS (t := _));(case hze|hsm|hl => rfl);(case hfl => (exact (rfl:_=some [_, _, _, _, _, _])));(case hM|hN => rfl))|(apply a7;rfl;rfl;rfl;rfl;rfl;(case hl => (simp;done));(exact (rfl:_=[_, _, _, _, _, _]))))|(apply aO;first|apply aH|apply aB|(apply aP;rfl;all_goals intro hc;have hq:=hc;(try simp only [cD] at hq);try exfalso;omega)|apply aJ|apply aS|apply bF|apply aW)|with_reducible apply aA|with_reducible apply bE|with_reducible apply aT|with_reducible apply bD)
 ·(apply c6 (k + 1, _); focus (refine Le.ren [(0, 3)] rfl (by decide) ?_ ?_ <;> repeat' (first | exact trivial | refine And.intro ⟨_, rfl, ?_⟩ ?_ | refine And.intro ⟨_, _, rfl, rfl, ?_⟩ ?_ | exact Or.inr rfl | refine Or.inl ⟨?_, (by first | rfl | exact aX _ _)⟩ | rfl)))
  ·exact ⟨by dsimp only;omega, by dsimp only;rw [hxs, c7 l k (by omega)]⟩
  ·dsimp only;omega
 ·have hel : l[k]!.el = [] := List.eq_nil_of_length_eq_zero (by omega)
  refine oR (Le.stmtN (i := 3) l[k]! hln.symm (.inl rfl) (.inr ⟨rfl, hel⟩) rfl) ?_
  (apply c6 (k + 1, _);focus (refine Le.ren [(0, 3)] rfl (by decide) ?_ ?_ <;> repeat' (first|exact trivial|refine And.intro ⟨_, rfl, ?_⟩ ?_|refine And.intro ⟨_, _, rfl, rfl, ?_⟩ ?_|exact Or.inr rfl|refine Or.inl ⟨?_, (by first|rfl|exact aX _ _)⟩|rfl)))
  ·exact ⟨by dsimp only;omega, by dsimp only;rw [hxs, c7 l k (by omega)]⟩
  ·dsimp only;omega
 ·have hth : l[k]!.th = [] := List.eq_nil_of_length_eq_zero (by omega)
  refine oR (Le.stmtN (i := 3) l[k]! hln.symm (.inr ⟨rfl, hth⟩) (.inl rfl) rfl) ?_
  (apply c6 (k + 1, _);focus (refine Le.ren [(0, 3)] rfl (by decide) ?_ ?_ <;> repeat' (first|exact trivial|refine And.intro ⟨_, rfl, ?_⟩ ?_|refine And.intro ⟨_, _, rfl, rfl, ?_⟩ ?_|exact Or.inr rfl|refine Or.inl ⟨?_, (by first|rfl|exact aX _ _)⟩|rfl)))
  ·exact ⟨by dsimp only;omega, by dsimp only;rw [hxs, c7 l k (by omega)]⟩
  ·dsimp only;omega
 ·have hth : l[k]!.th = [] := List.eq_nil_of_length_eq_zero (by omega)
  have hel : l[k]!.el = [] := List.eq_nil_of_length_eq_zero (by omega)
  refine oR (Le.stmtN (i := 3) l[k]! hln.symm (.inr ⟨rfl, hth⟩) (.inr ⟨rfl, hel⟩) rfl) ?_
  (apply c6 (k + 1, _);focus (refine Le.ren [(0, 3)] rfl (by decide) ?_ ?_ <;> repeat' (first|exact trivial|refine And.intro ⟨_, rfl, ?_⟩ ?_|refine And.intro ⟨_, _, rfl, rfl, ?_⟩ ?_|exact Or.inr rfl|refine Or.inl ⟨?_, (by first|rfl|exact aX _ _)⟩|rfl)))
  ·exact ⟨by dsimp only;omega, by dsimp only;rw [hxs, c7 l k (by omega)]⟩
  ·dsimp only;omega
 ·have hke : k = l.length := by omega
  (refine cA (Le.frzD (d := 2) (i := 0) rfl rfl) ?_; refine aU rfl ?_)
  refine ⟨?_, Pur.pf⟩
  rw [hxs, hke, List.take_length]; rfl
theorem HP (l : List AL.Stmt) (hb : bJ l ≤ 1000000) : PC Tryz.prog 72 [sl aN l] (fun r => r = sl aN l) := by
 have key : ∀ m, m ≤ 1000000 → ∀ l, bJ l ≤ m → PC Tryz.prog 72 [sl aN l] (fun r => r = sl aN l) := by
  intro m
  induction m with
  | zero => intro hm l hl;exact Bk 0 hm (fun l h => by omega) l hl
  | succ m ih => intro hm l hl;exact Bk (m + 1) hm (fun l h => ih (by omega) l (by omega)) l hl
 exact key (bJ l) hb l (Nat.le_refl _)
theorem Gg (l : List AL.Stmt) (hs : bJ l ≤ 1000000) : MC Tryz.prog 72 [sl aN l] [] 0 (fun _ : Unit => True) (fun _ => .own 0 0 l.length 6) (fun _ => [(0, some (flat aN l))]) := by
 have hlen := cY l
 (refine dB Tryz.func72 rfl (by simp [Tryz.ntmps72]) ?_; rw [Tryz.ntmps72])
 repeat' (first|(apply aM;first|(apply aC;rfl;rfl)|(apply aF;kernel_rfl)|(apply bK;rfl;rfl;rfl;(rfl);rfl;rfl))|(apply aO;first|apply aH|apply aB|apply aJ)|with_reducible apply aA)
 refine bG (σ := Nat × List AL.Stmt) [0] [(0, _)] [] [] (fun k => [(4, iv (k.1 : Int)), (3, .own 0 0 k.1 6)]) (fun k => [(0, some (flat aN k.2))]) (fun k => k.1 ≤ l.length ∧ k.2 = l.take k.1) (fun k => l.length - k.1) (0, []) ⟨by omega, rfl⟩ rfl rfl (by repeat' (first|exact trivial|refine And.intro rfl ?_)) (by repeat' (first|exact trivial|refine And.intro (.inr rfl) ?_)) ?_
 rintro ⟨k, xs⟩ ⟨hk, hxs⟩
 dsimp only at hk hxs ⊢
 have hck := fL l k
 have hct := iG l[k]!
 have hln : xs.length = k := by rw [hxs, List.length_take]; omega
 repeat' (first|(apply aM;first|(apply aD;rfl;rfl)|(first|(apply aL;rfl;rfl;rfl;rfl)|(apply a6;rfl;rfl;(exact (rfl:_=[_, _, _, _, _, _]));rfl;rfl;rfl))|(apply aE;rfl;rfl;rfl)|(first|(apply bO;rfl;rfl;omega;rfl)|(apply aV;rfl;rfl;rfl;rfl))|(apply aC;rfl;rfl)|(apply bB;(case hx|hi => rfl);(case hm => (omega));(case hml => (rfl));(case hα | hf|hg => infer_instance);(case hN => rfl))|((with_reducible apply aI (k := 72));(case ha => rfl);(case h => (apply HP <;> (omega)));(case hp => (exact Pur.pf));(case hN => rfl))|(first|(apply a8;rfl;rfl;rfl)|(apply bV;rfl;rfl;rfl;rfl;rfl;(rw [aK]; omega);(rfl);omega;omega;(first|exact g9 (by (omega))|rfl);rfl;rfl))|(apply aF;kernel_rfl)|(apply bT;rfl;rfl)|((apply bS (t := _));(case hze|hsm|hl => rfl);(case hfl => (exact (rfl:_=some [_, _, _, _, _, _])));(case hM|hN => rfl))|(apply a7;rfl;rfl;rfl;rfl;rfl;(case hl => (simp;done));(exact (rfl:_=[_, _, _, _, _, _]))))|(apply aO;first|apply aH|apply aB|(apply aP;rfl;all_goals intro hc;have hq:=hc;(try simp only [cD] at hq);try exfalso;omega)|apply aJ|apply aS|apply bF|apply aW)|with_reducible apply aA|with_reducible apply bE|with_reducible apply aT|with_reducible apply bD)
 ·(apply c6 (k + 1, _); focus (refine Le.ren [(0, 3)] rfl (by decide) ?_ ?_ <;> repeat' (first | exact trivial | refine And.intro ⟨_, rfl, ?_⟩ ?_ | refine And.intro ⟨_, _, rfl, rfl, ?_⟩ ?_ | exact Or.inr rfl | refine Or.inl ⟨?_, (by first | rfl | exact aX _ _)⟩ | rfl)))
  ·exact ⟨by dsimp only;omega, by dsimp only;rw [hxs, c7 l k (by omega)]⟩
  ·dsimp only;omega
 ·have hel : l[k]!.el = [] := List.eq_nil_of_length_eq_zero (by omega)
  refine oR (Le.stmtN (i := 3) l[k]! hln.symm (.inl rfl) (.inr ⟨rfl, hel⟩) rfl) ?_
  (apply c6 (k + 1, _);focus (refine Le.ren [(0, 3)] rfl (by decide) ?_ ?_ <;> repeat' (first|exact trivial|refine And.intro ⟨_, rfl, ?_⟩ ?_|refine And.intro ⟨_, _, rfl, rfl, ?_⟩ ?_|exact Or.inr rfl|refine Or.inl ⟨?_, (by first|rfl|exact aX _ _)⟩|rfl)))
  ·exact ⟨by dsimp only;omega, by dsimp only;rw [hxs, c7 l k (by omega)]⟩
  ·dsimp only;omega
 ·have hth : l[k]!.th = [] := List.eq_nil_of_length_eq_zero (by omega)
  refine oR (Le.stmtN (i := 3) l[k]! hln.symm (.inr ⟨rfl, hth⟩) (.inl rfl) rfl) ?_
  (apply c6 (k + 1, _);focus (refine Le.ren [(0, 3)] rfl (by decide) ?_ ?_ <;> repeat' (first|exact trivial|refine And.intro ⟨_, rfl, ?_⟩ ?_|refine And.intro ⟨_, _, rfl, rfl, ?_⟩ ?_|exact Or.inr rfl|refine Or.inl ⟨?_, (by first|rfl|exact aX _ _)⟩|rfl)))
  ·exact ⟨by dsimp only;omega, by dsimp only;rw [hxs, c7 l k (by omega)]⟩
  ·dsimp only;omega
 ·have hth : l[k]!.th = [] := List.eq_nil_of_length_eq_zero (by omega)
  have hel : l[k]!.el = [] := List.eq_nil_of_length_eq_zero (by omega)
  refine oR (Le.stmtN (i := 3) l[k]! hln.symm (.inr ⟨rfl, hth⟩) (.inr ⟨rfl, hel⟩) rfl) ?_
  (apply c6 (k + 1, _);focus (refine Le.ren [(0, 3)] rfl (by decide) ?_ ?_ <;> repeat' (first|exact trivial|refine And.intro ⟨_, rfl, ?_⟩ ?_|refine And.intro ⟨_, _, rfl, rfl, ?_⟩ ?_|exact Or.inr rfl|refine Or.inl ⟨?_, (by first|rfl|exact aX _ _)⟩|rfl)))
  ·exact ⟨by dsimp only;omega, by dsimp only;rw [hxs, c7 l k (by omega)]⟩
  ·dsimp only;omega
 ·have hke : k = l.length := by omega
  have hxl : xs = l := by rw [hxs, hke, List.take_length]
  subst hke
  refine aU rfl ?_
  refine dA () trivial ?_ ⟨.inr (Eq.trans (b := some _) rfl ?_), trivial⟩
  ·rfl
  ·rw [hxl]
theorem DJ {l : List AL.Stmt} {N : Nat} {Q : Exit → AS → Prop} {all : Array Oper} {rest : List Oper} {tsl : List (Nat × AV)} {hsl : List (Nat × Option (List AV))} {nidl : Nat} {z0 : Lo} {md : Md} {d : Nat} {ty : TypeId} {pos : String} {af : Array Edge} {tys : Array TypeId} {x0 : Operand} (ha0 : ev (lk tsl) x0 = some (sl aN l)) (hmc : MC Tryz.prog 72 [sl aN l] [] 0 (fun _ : Unit => True) (fun _ => .own 0 0 l.length 6) (fun _ => [(0, some (flat aN l))])) (hM : Nat.ble (nidl + 1) bZ = true) (hN : Nat.blt d N = true) {md' : Md} [hmd : MdA md (jH [x0] ++ []) (List.map Sum.inr (List.map Prod.fst ([(nidl, some (flat aN l))] : List (Nat × Option (List AV)))) ++ [.inl d]) md'] (kk : RW Tryz.prog N all Q md' rest ⟨(d, .own nidl 0 l.length 6) :: tsl, lE hsl [(nidl, some (flat aN l))], nidl + 1, z0⟩) : RW Tryz.prog N all Q md (⟨some d, .call ⟨.value (.func 72), #[x0], tys⟩, ty, pos, af, none⟩ :: rest) ⟨tsl, hsl, nidl, z0⟩ := by
 refine c5 [] 1 [(nidl, some (flat aN l))] hmc (avs := [sl aN l]) ?_ rfl ?_ rfl ?_ (by simpa using hM) ?_ ?_ ?_ hN (md' := md') (hmd := hmd) kk
 ·show evL (lk tsl) [x0] = _
  simp only [evL, ha0]
 ·exact trivial
 ·(repeat' (exact RnL.purI inferInstance))
 ·(repeat' (exact RnV.own rfl))
 ·simp [e7]
 ·(repeat' (first|exact trivial|(refine And.intro ⟨0, _, rfl, rfl, ?_⟩ ?_)|exact RnL.purI inferInstance))
theorem uP {q : Prg} {N : Nat} {Q : Exit → AS → Prop} {all : Array Oper} {rest : List Oper} {tsl : List (Nat × AV)} {hsl : List (Nat × Option (List AV))} {nidl : Nat} {z0 : Lo} {md : Md} {d : Nat} {ty : TypeId} {pos : String} {af : Array Edge} {tys : Array TypeId} {x0 : Operand} (ha0 : ev (lk tsl) x0 = some (c8 q)) (hmc : MC Tryz.prog 59 [c8 q] [] 0 (fun _ : Unit => True) (fun _ => .agg [.own 3 0 q.types.length 1, .own 4 0 q.body.length 6]) (fun _ => [(3, some (flat cI q.types)), (4, some (flat aN q.body))])) (hM : Nat.ble (nidl + 5) bZ = true) (hN : Nat.blt d N = true) {md' : Md} [hmd : MdA md (jH [x0] ++ []) (List.map Sum.inr (List.map Prod.fst ([((nidl + 3), some (flat cI q.types)), ((nidl + 4), some (flat aN q.body))] : List (Nat × Option (List AV)))) ++ [.inl d]) md'] (kk : RW Tryz.prog N all Q md' rest ⟨(d, .agg [.own (nidl + 3) 0 q.types.length 1, .own (nidl + 4) 0 q.body.length 6]) :: tsl, lE hsl [((nidl + 3), some (flat cI q.types)), ((nidl + 4), some (flat aN q.body))], nidl + 5, z0⟩) : RW Tryz.prog N all Q md (⟨some d, .call ⟨.value (.func 59), #[x0], tys⟩, ty, pos, af, none⟩ :: rest) ⟨tsl, hsl, nidl, z0⟩ := by
 refine c5 [] 5 [((nidl + 3), some (flat cI q.types)), ((nidl + 4), some (flat aN q.body))] hmc (avs := [c8 q]) ?_ rfl ?_ rfl ?_ (by simpa using hM) ?_ ?_ ?_ hN (md' := md') (hmd := hmd) kk
 ·show evL (lk tsl) [x0] = _
  simp only [evL, ha0]
 ·exact trivial
 ·(repeat' (exact RnL.purI inferInstance))
 ·(repeat' (first|exact RnL.purI inferInstance|exact RnV.own rfl|refine RnL.cons ?_ ?_|refine RnV.agg ?_))
 ·simp [e7]
 ·(repeat' (first|exact trivial|(refine And.intro ⟨3, _, rfl, rfl, ?_⟩ ?_)|(refine And.intro ⟨4, _, rfl, rfl, ?_⟩ ?_)|exact RnL.purI inferInstance))
theorem w7 (q : Prg) (hs : bJ q.body ≤ 1000000) (ht : q.types.length ≤ 1000000) : MC Tryz.prog 59 [c8 q] [] 0 (fun _ : Unit => True) (fun _ => .agg [.own 3 0 q.types.length 1, .own 4 0 q.body.length 6]) (fun _ => [(3, some (flat cI q.types)), (4, some (flat aN q.body))]) := by
 (refine dB Tryz.func59 rfl (by simp [Tryz.ntmps59]) ?_; rw [Tryz.ntmps59])
 repeat' (first|(apply aM;first|(apply DJ;rfl;(apply Gg;assumption);rfl;rfl)|(apply aL;rfl;rfl;rfl;rfl)|(apply aE;rfl;rfl;rfl)|(apply bV;rfl;rfl;rfl;rfl;rfl;(case hl => (simp [aK]; done));(exact qG (by (rfl)));omega;omega;(exact iV (by (omega)));rfl;rfl)|(apply aF;kernel_rfl)|(apply b8;rfl;(exact (rfl:_=some [_, _]));(exact (rfl:_=[_, _]));rfl)|(apply bW;rfl;rfl;rfl;rfl)|(apply bT;rfl;rfl)|(apply bK;rfl;rfl;rfl;(rfl);rfl;rfl)|(apply a7;rfl;rfl;rfl;rfl;rfl;(case hl => (simp;done));(exact (rfl:_=[_, _]))))|(apply aO;first|apply aH|apply aB|(apply b9;kernel_rfl)|apply aW)|with_reducible apply aA)
 refine aU rfl ?_
 refine dA () trivial ?_ ⟨.inr (Eq.trans (b := some _) rfl ?_), .inr (Eq.trans (b := some _) rfl ?_), trivial⟩
 ·show AV.agg [AV.own 3 0 (0 + q.types.length) 1, AV.own 4 0 q.body.length 6] = _
  rw [Nat.zero_add]
 ·rfl
 ·rfl
theorem Ej (s : AL.Stmt) (a : Int) : dH (I3 s a) = dH s := by simp [fO, I3, AL.Stmt.th, AL.Stmt.el]
theorem GY (s : AL.Stmt) (a : Int) : dH (uX s a) = dH s := by simp [fO, uX, AL.Stmt.th, AL.Stmt.el]
theorem GZ (s : AL.Stmt) (a : Int) : dH (uY s a) = dH s := by simp [fO, uY, AL.Stmt.th, AL.Stmt.el]
theorem GQ (s : AL.Stmt) (a : Int) : dH (uN s a) = dH s := by simp [fO, uN, AL.Stmt.th, AL.Stmt.el]
theorem l7 : ∀ (xs : List AL.Stmt) (k : Nat) (y : AL.Stmt), k < xs.length → dH y = dH xs[k]! → bJ (xs.set k y) = bJ xs
 | [], k, y, h, _ => by simp at h
 | x :: xs, 0, y, _, h => by simp only [List.set_cons_zero, bJ]; simp only [List.getElem!_cons_zero] at h;omega
 | x :: xs, k + 1, y, h, h2 => by
  simp only [List.set_cons_succ, bJ]
  rw [l7 xs k y (by simpa using h) (by rw [h2]; simp only [List.getElem!_cons_succ])]
theorem zA (s : AL.Stmt) : ∀ k, bJ (List.replicate k s) = k * dH s
 | 0 => by simp [bJ]
 | k + 1 => by simp only [List.replicate_succ, bJ, zA s k, Nat.succ_mul]; omega
theorem xU : ∀ (xs : List AL.Stmt) (k : Nat), bJ (xs.take k ++ xs.drop (k + 1)) ≤ bJ xs
 | [], k => by simp [bJ]
 | x :: xs, 0 => by simp [bJ]
 | x :: xs, k + 1 => by have := xU xs k;simp only [List.take_succ_cons, List.drop_succ_cons, List.cons_append, bJ]; omega
theorem p9 {T : Nat → Option AV} {x : Operand} {dd : Nat} {k : IntKind} {m : Int} (hx : ev T x = some (.v (.int k m))) (h : 0 ≤ m) : eF T (some x) dd = some m.toNat := by
 simp only [eF, hx]; rw [if_pos h]
section
variable {P : Program} {N : Nat} {Q : Exit → AS → Prop} {all : Array Oper} {rest : List Oper} {ts : List (Nat × AV)} {hs : List (Nat × Option (List AV))} {n : Nat} {z0 : Lo} {md : Md}
variable {d : Nat} {ty : TypeId} {pos : String} {af : Array Edge}
theorem AQ {t el : TypeId} {x : Operand} {hi : Option Operand} {i o m e h : Nat} [ht : SlT P t el] [he : SzT P el e] (hx : ev (lk ts) x = some (.own i o m e))
  (hh : eF (lk ts) hi m = some h) (hb : h ≤ m) (hN : Nat.blt d N = true) {md' : Md} [hmd : MdA md (rO x ++ (rB none ++ rB hi)) [.inl d] md'] (kk : RW P N all Q md' rest ⟨(d, .own i o h e) :: ts, hs, n, z0⟩) :
  RW P N all Q md (⟨some d, .slice t x none hi none, ty, pos, af, none⟩ :: rest) ⟨ts, hs, n, z0⟩ :=
 kN (m := m) (l := 0) (h := h) hx rfl rfl hh (by simp [HZ, hb]) hN (md' := md') (hmd := hmd) kk
end
theorem GL {hs : List (Nat × Option (List AV))} {xs : List AL.Stmt} {i k n : Nat} (hH : bU hs i = some (flat aN xs)) (hn : n = xs.length - k) : sCells (bU hs) 6 (mQ (.own i (0 + k * 6) n 6)) = some (n, flat aN (xs.drop k)) := by
 show ((bU hs i).bind fun cs => if n * 6 ≤ (cs.drop (0 + k * 6)).length then some (n, (cs.drop (0 + k * 6)).take (n * 6)) else none) = _
 rw [hH, Option.bind_some, Nat.zero_add]
 have h1 : (flat aN xs).length = xs.length * 6 := aK aN xs
 have h3 : (flat aN xs).drop (k * 6) = flat aN (xs.drop k) := by
  have h4 : flat aN xs = flat aN (xs.take k) ++ flat aN (xs.drop k) := by rw [cT, List.take_append_drop]
  have h5 : (flat aN (xs.take k)).length = (xs.take k).length * 6 := aK aN _
  by_cases hk : k ≤ xs.length
  ·rw [h4, ← show (flat aN (xs.take k)).length = k * 6 from by rw [h5, List.length_take]; congr 1;omega, List.drop_left]
  ·rw [List.drop_of_length_le (by omega), List.drop_of_length_le (by omega)]; rfl
 rw [h3]
 have h2 : (flat aN (xs.drop k)).length = (xs.length - k) * 6 := by rw [aK aN (e := 6), List.length_drop]
 rw [if_pos (by omega), List.take_of_length_le (by omega)]
theorem GR {xs ys : List AL.Stmt} {k : Nat} (hk : k ≤ xs.length) : ((flat aN xs).drop 0).take (k * 6) ++ flat aN ys = flat aN (xs.take k ++ ys) := by
 rw [List.drop_zero, fA aN (e := 6), cT]
theorem DS (bs : List UInt8) (p : Nat) (q : Prg) (hb : bs.length ≤ 2000) (hp : p ≤ 900000) (hs : bJ q.body ≤ 10000) (ht : q.types.length ≤ 10000) : MC Tryz.prog 73 [.optr 0 0, c8 q] [(0, some (e8 bs p))] 1 (fun x : Prg × Nat => bJ x.1.body ≤ 32 * bJ q.body ∧ x.1.types.length ≤ q.types.length + 1 ∧ x.2 ≤ p + 3) (fun x => c8 x.1) (fun x => [(0, some (e8 bs x.2))]) := by
 have hlen := cY q.body
 have h0 := fC bs p (q.body.length : Int)
 (refine dB Tryz.func73 rfl (by simp [Tryz.ntmps73]) ?_; rw [Tryz.ntmps73])
 repeat' (first|(apply aM;first|(apply aD;rfl;rfl)|(first|(apply aL;rfl;rfl;rfl;rfl)|(apply a6;rfl;rfl;(exact (rfl:_=[_, _]));rfl;rfl;rfl))|(apply aE;rfl;rfl;rfl)|(apply aV;rfl;rfl;rfl;rfl)|(apply aC;rfl;rfl)|(apply dO;rfl;rfl;(omega);rfl)|(first|(apply jV;rfl;rfl;(rfl);(apply l8 <;> (first|assumption|omega));rfl;rfl)|(apply pV;rfl;rfl;rfl;rfl;infer_instance;rfl;(rfl);assumption;omega;(decide);(decide);rfl;rfl)|(apply uP;rfl;(apply w7 <;> (omega));rfl;rfl))|(first|(apply a8;rfl;rfl;rfl)|(apply bV;rfl;rfl;rfl;rfl;rfl;(rw [aK]; omega);(rfl);omega;omega;(exact mF (by (omega)));rfl;rfl))|(apply aF;kernel_rfl)|(apply bW;rfl;rfl;rfl;rfl)|(apply bT;rfl;rfl)|(apply bK;rfl;rfl;rfl;(first|exact (rfl:_=some [_])|exact (rfl:_=some [_, _, _])|exact (rfl:_=some [_, _, _, _])|exact (rfl:_=some [_, _, _, _, _]));rfl;rfl)|(apply a7;rfl;rfl;rfl;rfl;rfl;(case hl => (first|(rw [aK]; simp only [fD] <;> omega)|(simp;done)));(first|exact HJ (by (omega))|exact IS (by (omega))|exact ID (by (omega))|exact I1 (by (omega))|exact (rfl:_=[_, _]))))|(apply aO;first|apply aH|apply aB|(apply b9;kernel_rfl)|(apply aP;rfl;all_goals intro hc;have hq:=hc;(try simp only [cD] at hq);try exfalso;omega)|apply aJ|apply aS|apply aW)|with_reducible apply aA|with_reducible apply b0|with_reducible apply aT)
 ·refine cA (Le.frzC (j := 2) (i := 6) [] rfl rfl (by decide)) ?_
  refine cA (Le.frzC (j := 2) (i := 7) [.imm _ _] rfl rfl (by decide)) ?_
  refine aU rfl ?_
  refine dA ((⟨q.types, q.body⟩ : Prg), p) ?_ ?_ ⟨.inr (Eq.trans (b := some _) rfl ?_), trivial⟩
  ·exact ⟨by dsimp only;omega, by dsimp only;omega, by dsimp only;omega⟩
  ·rfl
  ·rfl
 ·refine cA (Le.frzC (j := 2) (i := 6) [] rfl rfl (by decide)) ?_
  refine cA (Le.frzC (j := 2) (i := 7) [.imm _ _] rfl rfl (by decide)) ?_
  refine aU rfl ?_
  refine dA ((⟨q.types, q.body.set (cG bs p (q.body.length : Int)).toNat (I3 q.body[(cG bs p (q.body.length : Int)).toNat]! (iD bs (p + 1 + 1) [0, 11, 1, 3, 8]))⟩ : Prg), p + 1 + 1 + 1) ?_ ?_ ⟨.inr (Eq.trans (b := some _) rfl ?_), trivial⟩
  ·refine ⟨?_, by dsimp only;omega, by dsimp only;omega⟩; dsimp only;rw [l7 q.body (cG bs p (q.body.length : Int)).toNat _ (by omega) (by rw [Ej])]; omega
  ·show _ = AV.agg [_, AV.imm (List.length (q.body.set _ _)) _]; rw [List.length_set]; rfl
  ·rfl
 ·refine cA (Le.frzC (j := 2) (i := 6) [] rfl rfl (by decide)) ?_
  refine cA (Le.frzC (j := 2) (i := 7) [.imm _ _] rfl rfl (by decide)) ?_
  refine aU rfl ?_
  refine dA ((⟨q.types, q.body.set (cG bs p (q.body.length : Int)).toNat (uX q.body[(cG bs p (q.body.length : Int)).toNat]! (iD bs (p + 1 + 1) [6, -1, 0, 1]))⟩ : Prg), p + 1 + 1 + 1) ?_ ?_ ⟨.inr (Eq.trans (b := some _) rfl ?_), trivial⟩
  ·refine ⟨?_, by dsimp only;omega, by dsimp only;omega⟩; dsimp only;rw [l7 q.body (cG bs p (q.body.length : Int)).toNat _ (by omega) (by rw [GY])]; omega
  ·show _ = AV.agg [_, AV.imm (List.length (q.body.set _ _)) _]; rw [List.length_set]; rfl
  ·rfl
 ·refine cA (Le.frzC (j := 2) (i := 6) [] rfl rfl (by decide)) ?_
  refine cA (Le.frzC (j := 2) (i := 7) [.imm _ _] rfl rfl (by decide)) ?_
  refine aU rfl ?_
  refine dA ((⟨q.types, q.body.set (cG bs p (q.body.length : Int)).toNat (uY q.body[(cG bs p (q.body.length : Int)).toNat]! (iD bs (p + 1 + 1) [6, -1, 0, 1]))⟩ : Prg), p + 1 + 1 + 1) ?_ ?_ ⟨.inr (Eq.trans (b := some _) rfl ?_), trivial⟩
  ·refine ⟨?_, by dsimp only;omega, by dsimp only;omega⟩; dsimp only;rw [l7 q.body (cG bs p (q.body.length : Int)).toNat _ (by omega) (by rw [GZ])]; omega
  ·show _ = AV.agg [_, AV.imm (List.length (q.body.set _ _)) _]; rw [List.length_set]; rfl
  ·rfl
 ·refine cA (Le.frzC (j := 2) (i := 6) [] rfl rfl (by decide)) ?_
  refine cA (Le.frzC (j := 2) (i := 7) [.imm _ _] rfl rfl (by decide)) ?_
  refine aU rfl ?_
  refine dA ((⟨q.types, q.body.set (cG bs p (q.body.length : Int)).toNat (uN q.body[(cG bs p (q.body.length : Int)).toNat]! (iD bs (p + 1 + 1) [10, -1, 5]))⟩ : Prg), p + 1 + 1 + 1) ?_ ?_ ⟨.inr (Eq.trans (b := some _) rfl ?_), trivial⟩
  ·refine ⟨?_, by dsimp only;omega, by dsimp only;omega⟩; dsimp only;rw [l7 q.body (cG bs p (q.body.length : Int)).toNat _ (by omega) (by rw [GQ])]; omega
  ·show _ = AV.agg [_, AV.imm (List.length (q.body.set _ _)) _]; rw [List.length_set]; rfl
  ·rfl
 ·refine cA (Le.frzC (j := 2) (i := 11) [] rfl rfl (by decide)) ?_
  refine cA (Le.frzC (j := 2) (i := 7) [.imm _ _] rfl rfl (by decide)) ?_
  refine aU rfl ?_
  refine dA ((⟨q.types ++ [iD bs (p + 1 + 1) [1, 5, 0, 4]], q.body⟩ : Prg), p + 1 + 1 + 1) ?_ ?_ ⟨.inr (Eq.trans (b := some _) rfl ?_), trivial⟩
  ·exact ⟨by dsimp only;omega, by simp, by dsimp only;omega⟩
  ·show _ = AV.agg [AV.imm (List.length (q.types ++ [_])) _, _]; rw [List.length_append]; rfl
  ·rfl
 ·refine bG (σ := Nat × List AL.Stmt × Nat) [4, 5] [(4, _), (5, _)] [6, 2, 0] [(6, some _), (2, some _), (0, some _)] (fun k => [(7, iv (k.1 : Int))]) (fun k => [(7, some (flat aN k.2.1)), (8, some [.own 6 0 q.types.length 1, .own 7 0 k.2.2 6])]) (fun k => k.1 ≤ 31 ∧ k.2.1 = q.body ++ List.replicate k.1 q.body[0]! ∧ k.2.2 = k.2.1.length) (fun k => 31 - k.1) (0, q.body, q.body.length) ⟨by omega, by simp, rfl⟩ rfl rfl (by repeat' (first | exact trivial | refine And.intro rfl ?_)) (by repeat' (first | exact trivial | refine And.intro (.inr rfl) ?_)) ?_
  rintro ⟨k, xs, m⟩ ⟨hk, hxs, hm⟩
  dsimp only at hk hxs hm ⊢
  have hln : 0 < xs.length := by rw [hxs, List.length_append]; omega
  have hl2 : xs.length = q.body.length + k := by rw [hxs, List.length_append, List.length_replicate]
  repeat' (first|(apply aM;first|(apply aD;rfl;rfl)|(first|(apply B8;(case hx|hH => rfl);(case hf|hg|hα => infer_instance);(case hk => omega);(case h0|hN => rfl))|(apply aL;rfl;rfl;rfl;rfl)|(apply a6;rfl;rfl;(exact (rfl:_=[_, _]));rfl;rfl;rfl))|(apply aE;rfl;rfl;rfl)|(first|(apply bO;rfl;rfl;omega;rfl)|(apply aV;rfl;rfl;rfl;rfl))|(apply aC;rfl;rfl)|(apply dO;rfl;rfl;(omega);rfl)|(apply bV;rfl;rfl;rfl;rfl;rfl;(rw [aK]; omega);(rfl);omega;omega;(exact g9 (by (assumption)));rfl;rfl)|(apply aF;kernel_rfl)|(apply bK;rfl;rfl;rfl;(exact (rfl:_=some [_, _, _, _, _, _]));rfl;rfl)|(apply a7;rfl;rfl;rfl;rfl;rfl;(case hl => (simp;done));(exact (rfl:_=[_, _]))))|(apply aO;first|apply aH|apply aB|(apply b9;kernel_rfl)|(apply aP;rfl;all_goals intro hc;have hq:=hc;(try simp only [cD] at hq);try exfalso;omega)|apply aJ|apply aS|apply bF|apply aW)|with_reducible apply aA|with_reducible apply bE|with_reducible apply aT|with_reducible apply bD)
  ·(apply c6 (k + 1, _, _); focus (refine Le.ren [(7, 10), (8, 8), (6, 6), (2, 2)] rfl (by decide) ?_ ?_ <;> repeat' (first | exact trivial | refine And.intro ⟨_, rfl, ?_⟩ ?_ | refine And.intro ⟨_, _, rfl, rfl, ?_⟩ ?_ | exact Or.inr rfl | refine Or.inl ⟨?_, (by first | rfl | exact aX _ _ | exact Pur.pf)⟩ | refine Or.inr (All2.cons ?_ ?_) | refine All2.cons ?_ ?_ | exact All2.nil | rfl)))
   ·dsimp only
    refine ⟨by omega, ?_, by simp [hm]⟩
    have e0 : xs[Int.toNat 0]! = q.body[0]! := by
     show xs[0]! = _
     rw [hxs, getElem!_pos _ _ (by rw [List.length_append]; omega), List.getElem_append_left (by omega), getElem!_pos _ _ (by omega)]
    rw [e0, hxs, List.replicate_succ', List.append_assoc]
   ·dsimp only;omega
  ·have hc0 : dH q.body[0]! ≤ bJ q.body := fL q.body 0 (by omega)
   have hc1 : bJ xs = bJ q.body + k * dH q.body[0]! := by rw [hxs, dS, zA]
   have hc2 : k * dH q.body[0]! ≤ 31 * bJ q.body := Nat.mul_le_mul hk hc0
   subst hm
   refine cA (Le.frzC (j := 2) (i := 6) [] rfl rfl (by decide)) ?_
   refine cA (Le.frzC (j := 2) (i := 7) [.imm _ _] rfl rfl (by decide)) ?_
   refine aU rfl ?_
   refine dA ((⟨q.types, xs⟩ : Prg), p + 1 + 1) ?_ ?_ ⟨.inr (Eq.trans (b := some _) rfl ?_), trivial⟩
   ·exact ⟨by dsimp only;omega, by dsimp only;omega, by dsimp only;omega⟩
   ·rfl
   ·rfl
 ·have hK : (cG bs p (q.body.length : Int) + 1).toNat = (cG bs p (q.body.length : Int)).toNat + 1 := by omega
  repeat' (first|(apply aM;first|(apply AQ;rfl;exact p9 rfl (by omega);omega;rfl)|(apply rD;rfl;exact p9 rfl (by omega);omega;rfl)|(apply bV;rfl;rfl;rfl;rfl;rfl;(rw [aK]; omega);exact GL rfl (by omega);omega;omega;exact GR (by omega);rfl;rfl)|(apply aD;rfl;rfl)|(first|(apply aL;rfl;rfl;rfl;rfl)|(apply a6;rfl;rfl;(exact (rfl:_=[_, _]));rfl;rfl;rfl))|(apply aE;rfl;rfl;rfl)|(apply bO;rfl;rfl;omega;rfl)|(apply aF;kernel_rfl)|(apply a7;rfl;rfl;rfl;rfl;rfl;(case hl => (simp;done));(exact (rfl:_=[_, _]))))|(apply aO;first|apply aH|apply aB|apply aW)|with_reducible apply aA|with_reducible apply aT)
  refine cA (Le.frzC (j := 2) (i := 6) [] rfl rfl (by decide)) ?_
  refine cA (Le.frzC (j := 2) (i := 9) [.imm _ _] rfl rfl (by decide)) ?_
  refine aU rfl ?_
  refine dA ((⟨q.types, q.body.take (cG bs p (q.body.length : Int)).toNat ++ q.body.drop (cG bs p (q.body.length : Int) + 1).toNat⟩ : Prg), p + 1 + 1) ?_ ?_ ⟨.inr (Eq.trans (b := some _) rfl ?_), trivial⟩
  ·refine ⟨?_, by dsimp only; omega, by dsimp only; omega⟩
   dsimp only
   rw [hK]
   have := xU q.body (cG bs p (q.body.length : Int)).toNat
   omega
  ·show AV.agg [_, AV.imm _ _] = AV.agg [_, AV.imm (List.length (_ ++ _)) _]
   rw [List.length_append, List.length_take, List.length_drop, Nat.min_eq_left (by omega)]
  ·rfl
 ·refine cA (Le.frzC (j := 2) (i := 6) [] rfl rfl (by decide)) ?_
  refine cA (Le.frzC (j := 2) (i := 7) [.imm _ _] rfl rfl (by decide)) ?_
  refine aU rfl ?_
  refine dA (q, p + 1 + 1) ⟨by dsimp only;omega, by dsimp only;omega, by dsimp only;omega⟩ rfl ⟨.inr (Eq.trans (b := some _) rfl ?_), trivial⟩
  ·rfl
def A2 (s : ByteArray) (i : Int) (w : ByteArray) : Bool := decide (0 ≤ i) && (decide (i + w.size ≤ s.size) && ((s.extract i.toNat (i + w.size).toNat).toList == w.toList))
def FK (lo hi : Int) (s : ByteArray) (i : Int) : Int := if i < 0 then -1 else if (s.size : Int) ≤ i then -1 else if ((s[i.toNat]!).toNat : Int) < lo then -1 else if hi < ((s[i.toNat]!).toNat : Int) then -1 else ((s[i.toNat]!).toNat : Int) - lo
theorem sR (s : ByteArray) (i : Int) (w : ByteArray) (hs : s.size ≤ 1000000) (hw : w.size ≤ 1000000) (hi : i ≤ 1000000) : PC Tryz.prog 161 [sv s, iv i, sv w] (fun r => r = bv (A2 s i w)) := by
 (refine aQ Tryz.func161 rfl (by simp [Tryz.ntmps161]) ?_; rw [Tryz.ntmps161])
 repeat' (first|(apply aM;first|(apply k7;rfl;rfl;(rfl);rfl)|(apply BX;rfl;exact p9 rfl (by omega);exact p9 rfl (by omega);omega;rfl)|(apply aD;rfl;rfl)|(first|(apply a9;rfl;rfl;rfl;(assumption))|(apply aZ;rfl;rfl;rfl;(first|rfl|assumption))|(apply bC;(case hj|hb|hN => rfl);all_goals (intro hg;have hq := hg;(try simp only [cD] at hq);(try (exfalso;omega)))))|(first|(apply bO;rfl;rfl;omega;rfl)|(apply aV;rfl;rfl;rfl;rfl))|(apply aC;rfl;rfl)|(first|(apply bI;rfl;(assumption);rfl;rfl)|(apply bH;rfl;(first|rfl|assumption);rfl;rfl))|(apply jO;rfl;rfl)|(apply aF;kernel_rfl))|(apply aO;first|apply aH|apply aB|apply aW)|with_reducible apply aA|((with_reducible apply aU);case hr => rfl))
 all_goals (refine ⟨?_, rfl⟩; simp only [bQ, AV.v.injEq, Value.bool.injEq, Value.int.injEq, true_and])
 ·unfold A2
  rw [decide_eq_true (by omega), decide_eq_true (by omega)]; rfl
 ·unfold A2
  rw [decide_eq_true (p := 0 ≤ i) (by omega), decide_eq_false (by omega)]; rfl
 ·unfold A2
  rw [decide_eq_false (by omega)]; rfl
theorem FL (s : ByteArray) (i : Int) (hs : s.size ≤ 1000000) : PC Tryz.prog 192 [sv s, iv i] (fun r => r = iv (FK 97 122 s i)) := by
 have hb0 : ((s[i.toNat]!).toNat : Int) ≤ 255 := by have := (s[i.toNat]!).toNat_lt;omega
 (refine aQ Tryz.func192 rfl (by simp [Tryz.ntmps192]) ?_; rw [Tryz.ntmps192])
 repeat' (first|(apply aM;first|(apply oK;rfl;rfl;omega;rfl)|(apply BG;rfl;rfl;omega;rfl)|(apply aD;rfl;rfl)|(first|(apply a9;rfl;rfl;rfl;(assumption))|(apply aZ;rfl;rfl;rfl;(first|rfl|assumption))|(apply bC;(case hj|hb|hN => rfl);all_goals (intro hg;have hq := hg;(try simp only [cD] at hq);(try (exfalso;omega)))))|(apply aV;rfl;rfl;rfl;rfl)|(apply aC;rfl;rfl)|(first|(apply bI;rfl;(first|rfl|assumption);rfl;rfl)|(apply bH;rfl;(assumption);rfl;rfl))|(apply jO;rfl;rfl)|(apply aF;kernel_rfl)|(apply oT;rfl;(omega);rfl))|(apply aO;first|apply aH|apply aB|(apply bX;rfl;(rfl))|(apply aP;rfl;all_goals intro hc;have hq:=hc;(try simp only [cD] at hq);try exfalso;omega)|apply aS|apply aW)|with_reducible apply aA|with_reducible apply b0|((with_reducible apply aU);case hr => rfl))
 all_goals (refine ⟨?_, rfl⟩; simp only [bQ, AV.v.injEq, Value.bool.injEq, Value.int.injEq, true_and])
 all_goals (unfold FK;repeat' split)
 all_goals (first|rfl|omega)
theorem CG (s : ByteArray) (i : Int) (hs : s.size ≤ 1000000) : PC Tryz.prog 194 [sv s, iv i] (fun r => r = iv (FK 48 57 s i)) := by
 have hb0 : ((s[i.toNat]!).toNat : Int) ≤ 255 := by have := (s[i.toNat]!).toNat_lt;omega
 (refine aQ Tryz.func194 rfl (by simp [Tryz.ntmps194]) ?_; rw [Tryz.ntmps194])
 repeat' (first|(apply aM;first|(apply oK;rfl;rfl;omega;rfl)|(apply BG;rfl;rfl;omega;rfl)|(apply aD;rfl;rfl)|(first|(apply a9;rfl;rfl;rfl;(assumption))|(apply aZ;rfl;rfl;rfl;(first|rfl|assumption))|(apply bC;(case hj|hb|hN => rfl);all_goals (intro hg;have hq := hg;(try simp only [cD] at hq);(try (exfalso;omega)))))|(apply aV;rfl;rfl;rfl;rfl)|(apply aC;rfl;rfl)|(first|(apply bI;rfl;(first|rfl|assumption);rfl;rfl)|(apply bH;rfl;(assumption);rfl;rfl))|(apply jO;rfl;rfl)|(apply aF;kernel_rfl)|(apply oT;rfl;(omega);rfl))|(apply aO;first|apply aH|apply aB|(apply bX;rfl;(rfl))|(apply aP;rfl;all_goals intro hc;have hq:=hc;(try simp only [cD] at hq);try exfalso;omega)|apply aS|apply aW)|with_reducible apply aA|with_reducible apply b0|((with_reducible apply aU);case hr => rfl))
 all_goals (refine ⟨?_, rfl⟩; simp only [bQ, AV.v.injEq, Value.bool.injEq, Value.int.injEq, true_and])
 all_goals (unfold FK;repeat' split)
 all_goals (first|rfl|omega)
def QP (s : ByteArray) (i : Int) (r : AV) : Prop := ∃ (x : AL.Stmt) (nx : Int), r = .tup [eN x, iv nx] ∧ ((nx = -1 ∧ (dH x : Int) ≤ s.size + 1) ∨ (i < nx ∧ nx ≤ s.size + 3 ∧ (dH x : Int) ≤ nx - i))
def QB (s : ByteArray) (i : Int) (r : AV) : Prop := ∃ (l : List AL.Stmt) (nx : Int), r = .tup [sl aN l, iv nx] ∧ ((nx = -1 ∧ l = []) ∨ (0 ≤ i ∧ i + 2 ≤ nx ∧ nx ≤ s.size ∧ (bJ l : Int) ≤ nx - i))
def QL (s : ByteArray) (i : Int) (r : AV) : Prop := ∃ (l : List AL.Stmt) (nx : Int), r = .tup [sl aN l, iv nx] ∧ ((nx = -1 ∧ l = []) ∨ (i ≤ nx ∧ nx ≤ s.size ∧ (bJ l : Int) ≤ nx - i))
theorem j7 {s w : ByteArray} {i : Int} (h : A2 s i w = true) : 0 ≤ i ∧ i + w.size ≤ s.size := by
 unfold A2 at h;simp only [Bool.and_eq_true, decide_eq_true_eq] at h;exact ⟨h.1, h.2.1⟩
theorem Jl {s : ByteArray} {i op x y n nx : Int} (h : nx = -1 ∨ (i < nx ∧ nx ≤ s.size + 3)) : QP s i (.tup [.agg [iv op, iv x, iv y, iv n, .imm 0 [], .imm 0 []], iv nx]) :=
 ⟨.mk op x y n [] [], nx, rfl, by simp only [dH, bJ]; omega⟩
theorem Jk {s : ByteArray} {i op x y n nx : Int} {th : List AL.Stmt} (h : (nx = -1 ∧ (bJ th : Int) ≤ s.size) ∨ (i < nx ∧ nx ≤ s.size + 3 ∧ (bJ th : Int) + 1 ≤ nx - i)) : QP s i (.tup [.agg [iv op, iv x, iv y, iv n, sl aN th, .imm 0 []], iv nx]) :=
 ⟨.mk op x y n th [], nx, rfl, by simp only [dH, bJ]; omega⟩
theorem Jj {s : ByteArray} {i op x y n nx : Int} {th el : List AL.Stmt} (h : (nx = -1 ∧ (bJ th : Int) + bJ el ≤ s.size) ∨ (i < nx ∧ nx ≤ s.size + 3 ∧ (bJ th : Int) + bJ el + 1 ≤ nx - i)) : QP s i (.tup [.agg [iv op, iv x, iv y, iv n, sl aN th, sl aN el], iv nx]) :=
 ⟨.mk op x y n th el, nx, rfl, by simp only [dH]; omega⟩
theorem QP.pur {s : ByteArray} {i : Int} {r : AV} (h : QP s i r) : r.pur = true := by obtain ⟨x, nx, rfl, _⟩ := h; exact Pur.pf
theorem QB.pur {s : ByteArray} {i : Int} {r : AV} (h : QB s i r) : r.pur = true := by obtain ⟨x, nx, rfl, _⟩ := h; exact Pur.pf
theorem QL.pur {s : ByteArray} {i : Int} {r : AV} (h : QL s i r) : r.pur = true := by obtain ⟨x, nx, rfl, _⟩ := h; exact Pur.pf
theorem qN {P : Program} {s : AS} {res : Array ResultVar} {q : AV → Prop} {l : List AV} (hQ : ∀ r, q r → r.pur = true) (hr : qO P (lk s.ts) (bU s.hs) res.toList = some l) (h : q (bQ l)) : pI P res (fun r _ => q r ∧ r.pur = true) .ret s := aU hr ⟨h, hQ _ h⟩
theorem yN (s : ByteArray) (i dp : Int) (hs : s.size ≤ 100000) (hi0 : 0 ≤ i) (hi : i ≤ s.size) (hd0 : 0 ≤ dp) (hd : dp ≤ 10) (braces_ih : ∀ j dj : Int, dj = dp - 1 → -1 ≤ j → j ≤ s.size + 10 → PC Tryz.prog 193 [sv s, iv j, iv dj] (QB s j)) : PC Tryz.prog 162 [sv s, iv i, iv dp] (QP s i) := by
 have h1 : A2 s i ⟨#[100, 114, 111, 112, 32]⟩ = true → i + 5 ≤ s.size := fun h => (j7 h).2
 have h2 : A2 s i ⟨#[108, 111, 111, 112, 123]⟩ = true → i + 5 ≤ s.size := fun h => (j7 h).2
 have h3 : A2 s i ⟨#[105, 102, 123]⟩ = true → i + 3 ≤ s.size := fun h => (j7 h).2
 have h4 : A2 s i ⟨#[42]⟩ = true → i + 1 ≤ s.size := fun h => (j7 h).2
 have h5 : A2 s (i + 1) ⟨#[61]⟩ = true → i + 1 + 1 ≤ s.size := fun h => (j7 h).2
 have h6 : A2 s (i + 2) ⟨#[98, 111, 120, 32]⟩ = true → i + 2 + 4 ≤ s.size := fun h => (j7 h).2
 have h7 : A2 s (i + 2) ⟨#[38, 109, 117, 116, 32]⟩ = true → i + 2 + 5 ≤ s.size := fun h => (j7 h).2
 (refine aQ Tryz.func162 rfl (by simp [Tryz.ntmps162]) ?_; rw [Tryz.ntmps162])
 repeat' (first|(apply aM;first|(apply aD;rfl;rfl)|(first|(apply a9;rfl;rfl;rfl;(assumption))|(apply aZ;rfl;rfl;rfl;(assumption))|(apply bC;(case hj|hb|hN => rfl);all_goals (intro hg;have hq := hg;(try simp only [cD] at hq);(try (exfalso;omega)))))|(first|(apply bO;rfl;rfl;omega;rfl)|(apply gT;rfl;rfl;omega;rfl)|(apply aV;rfl;rfl;rfl;rfl))|(apply aC;rfl;rfl)|(first|(apply bI;rfl;(assumption);rfl;rfl)|(apply bH;rfl;(assumption);rfl;rfl))|(first|((with_reducible apply aI (k := 161));(case ha => rfl);(case h => (apply sR <;> (first|omega|decide)));(case hp => (rfl));(case hN => rfl))|((with_reducible apply aI (k := 192));(case ha => rfl);(case h => (apply FL <;> (omega)));(case hp => (rfl));(case hN => rfl))|((with_reducible apply iO (k := 193));(case ha => rfl);(case h => (apply braces_ih <;> (omega)));(case hp => (rfl));(case hN => rfl);(rintro _ ⟨l, nx, rfl, hql⟩ _))|((with_reducible apply aI (k := 194));(case ha => rfl);(case h => (apply CG <;> (omega)));(case hp => (rfl));(case hN => rfl)))|(apply aF;kernel_rfl)|(apply b8;rfl;(exact (rfl:_=some [_, _, _, _, _, _]));(exact (rfl:_=[_, _, _, _, _, _]));rfl)|(apply cK;rfl;rfl)|(apply bT;rfl;rfl)|(apply dI;rfl;rfl;rfl)|(apply a7;rfl;rfl;rfl;rfl;rfl;(case hl => (first|decide|(simp;done)));(exact (rfl:_=[_, _, _, _, _, _]))))|(apply aO;first|apply aH|apply aB|(apply bX;rfl;(rfl))|(apply aP;rfl;all_goals intro hc;have hq:=hc;(try simp only [cD] at hq);try exfalso;omega)|apply aJ|apply aS|apply aW)|with_reducible apply aA|with_reducible apply b0|with_reducible apply aT|with_reducible apply eQ)
 all_goals refine qN (fun _ => QP.pur) (l := [.agg [_, _, _, _, _, _], _]) rfl ?_
 all_goals (try have b1 := h1 (by assumption))
 all_goals (try have b2 := h2 (by assumption))
 all_goals (try have b3 := h3 (by assumption))
 all_goals (try have b4 := h4 (by assumption))
 all_goals (try have b5 := h5 (by assumption))
 all_goals (try have b6 := h6 (by assumption))
 all_goals (try have b7 := h7 (by assumption))
 all_goals clear h1 h2 h3 h4 h5 h6 h7
 all_goals first
  | (refine Jl ?_; omega)
  | skip
 ·refine Jk (th := l) ?_
  rcases hql with ⟨h8, h9⟩|hql
  ·rw [h9]; simp only [bJ]; omega
  ·omega
 ·rename_i l1 nx1 hql1 hpu1 hpu2
  refine Jj (th := l1) (el := l) ?_
  rcases hql1 with ⟨h8, h9⟩|hql1 <;> rcases hql with ⟨h10, h11⟩|hql
  ·rw [h9, h11]; simp only [bJ]; omega
  ·omega
  ·rw [h11]; simp only [bJ]; omega
  ·omega
theorem uI (s : ByteArray) (i dp : Int) (hs : s.size ≤ 100000) (hi0 : -1 ≤ i) (hi : i ≤ s.size + 10) (hd0 : -1 ≤ dp) (hd : dp ≤ 10) (list_ih : ∀ j dj : Int, 0 ≤ dp → dj = dp → 0 ≤ j → j ≤ s.size → PC Tryz.prog 121 [sv s, iv j, iv dj] (QL s j)) : PC Tryz.prog 193 [sv s, iv i, iv dp] (QB s i) := by
 have h1 : A2 s i ⟨#[123]⟩ = true → 0 ≤ i ∧ i + 1 ≤ s.size := fun h => j7 h
 (refine aQ Tryz.func193 rfl (by simp [Tryz.ntmps193]) ?_; rw [Tryz.ntmps193])
 repeat' (first|(apply aM;first|(apply aD;rfl;rfl)|(first|(apply a9;rfl;rfl;rfl;(assumption))|(apply aZ;rfl;rfl;rfl;(assumption))|(apply bC;(case hj|hb|hN => rfl);all_goals (intro hg;have hq := hg;(try simp only [cD] at hq);(try (exfalso;omega)))))|(first|(apply bO;rfl;rfl;omega;rfl)|(apply aV;rfl;rfl;rfl;rfl))|(apply aC;rfl;rfl)|(first|(apply bI;rfl;(assumption);rfl;rfl)|(apply bH;rfl;(assumption);rfl;rfl))|((with_reducible apply aI (k := 161));(case ha => rfl);(case h => (apply sR <;> (first|omega|decide)));(case hp => (rfl));(case hN => rfl))|(apply aF;kernel_rfl)|(apply cK;rfl;rfl))|(apply aO;first|apply aH|apply aB|(apply bX;rfl;(rfl))|(apply aP;rfl;all_goals intro hc;have hq:=hc;(try simp only [cD] at hq);try exfalso;omega)|apply aS|apply aW)|with_reducible apply aA|with_reducible apply b0)
 ·refine cA (Le.nilImm (d := 6) rfl) ?_
  exact qN (fun _ => QB.pur) (l := [.imm 0 [], iv (-1)]) rfl ⟨[], -1, rfl, .inl ⟨rfl, rfl⟩⟩
 ·have b1 := h1 (by assumption)
  repeat' (first|(apply aM;first|(apply aD;rfl;rfl)|(apply bO;rfl;rfl;omega;rfl)|(apply aC;rfl;rfl)|(first|((with_reducible apply iO (k := 121));(case ha => rfl);(case h => (apply list_ih <;> (first|assumption|omega)));(case hp => (rfl));(case hN => rfl);(rintro _ ⟨l, nx, rfl, hql⟩ _))|((with_reducible apply aI (k := 161));(case ha => rfl);(case h => (apply sR <;> (first|omega|decide)));(case hp => (rfl));(case hN => rfl)))|(apply aF;kernel_rfl)|(apply cK;rfl;rfl)|(apply dI;rfl;rfl;rfl))|(apply aO;first|apply aH|apply aB|(apply aP;rfl;all_goals intro hc;have hq:=hc;(try simp only [cD] at hq);try exfalso;omega)|apply aS|apply aW)|with_reducible apply aA|with_reducible apply b0)
  ·refine cA (Le.nilImm (d := 6) rfl) ?_
   exact qN (fun _ => QB.pur) (l := [.imm 0 [], iv (-1)]) rfl ⟨[], -1, rfl, .inl ⟨rfl, rfl⟩⟩
  ·have b2 : 0 ≤ nx ∧ nx + 1 ≤ s.size := j7 (w := ⟨#[125]⟩) (by assumption)
   exact qN (fun _ => QB.pur) (l := [sl aN l, iv (nx + 1)]) rfl ⟨l, nx + 1, rfl, by omega⟩
 ·refine cA (Le.nilImm (d := 6) rfl) ?_
  exact qN (fun _ => QB.pur) (l := [.imm 0 [], iv (-1)]) rfl ⟨[], -1, rfl, .inl ⟨rfl, rfl⟩⟩
theorem A5 (s : ByteArray) (i dp : Int) (hs : s.size ≤ 100000) (hi0 : 0 ≤ i) (hi : i ≤ s.size) (hd0 : 0 ≤ dp) (hd : dp ≤ 10) (parse_ih : ∀ j dj : Int, dj = dp → 0 ≤ j → j ≤ s.size → PC Tryz.prog 162 [sv s, iv j, iv dj] (QP s j)) : PC Tryz.prog 121 [sv s, iv i, iv dp] (QL s i) := by
 (refine aQ Tryz.func121 rfl (by simp [Tryz.ntmps121]) ?_; rw [Tryz.ntmps121])
 repeat' (first|(apply aM;first|(apply aD;rfl;rfl)|(first|(apply a9;rfl;rfl;rfl;(assumption))|(apply aZ;rfl;rfl;rfl;(assumption))|(apply bC;(case hj|hb|hN => rfl);all_goals (intro hg;have hq := hg;(try simp only [cD] at hq);(try (exfalso;omega)))))|(apply aV;rfl;rfl;rfl;rfl)|(apply aC;rfl;rfl)|(first|(apply bI;rfl;(assumption);rfl;rfl)|(apply bH;rfl;(assumption);rfl;rfl))|((with_reducible apply aI (k := 161));(case ha => rfl);(case h => (apply sR <;> (first|omega|decide)));(case hp => (rfl));(case hN => rfl))|(apply jO;rfl;rfl)|(apply aF;kernel_rfl)|(apply bK;rfl;rfl;rfl;(rfl);rfl;rfl))|(apply aO;first|apply aH|apply aB|(apply bX;rfl;(rfl))|(apply aP;rfl;all_goals intro hc;have hq:=hc;(try simp only [cD] at hq);try exfalso;omega)|apply aJ|apply aS|apply aW)|with_reducible apply aA|with_reducible apply b0)
 rotate_left 1
 ·refine bG (σ := Int × List AL.Stmt × Nat) [0, 2] [(0, _), (2, _)] [] [] (fun k => [(1, iv k.1), (8, .own 0 0 k.2.2 6)]) (fun k => [(0, some (flat aN k.2.1))]) (fun k => i ≤ k.1 ∧ k.1 ≤ s.size ∧ k.2.2 = k.2.1.length ∧ (bJ k.2.1 : Int) ≤ k.1 - i) (fun k => (s.size - k.1).toNat) (i, [], 0) ⟨by omega, by omega, rfl, by simp [bJ]⟩ rfl rfl (by repeat' (first | exact trivial | refine And.intro rfl ?_)) (by repeat' (first | exact trivial | refine And.intro (.inr rfl) ?_)) ?_
  rintro ⟨k, xs, m⟩ ⟨hk0, hk, hm, hc⟩
  dsimp only at hk0 hk hm hc ⊢
  have hln := cY xs
  repeat' (first|(apply aM;first|(apply aD;rfl;rfl)|(apply a6;rfl;rfl;(exact (rfl:_=[_, _, _, _, _, _]));rfl;rfl;rfl)|(first|(apply a9;rfl;rfl;rfl;(assumption))|(apply aZ;rfl;rfl;rfl;(assumption))|(apply bC;(case hj|hb|hN => rfl);all_goals (intro hg;have hq := hg;(try simp only [cD] at hq);(try (exfalso;omega)))))|(first|(apply bO;rfl;rfl;omega;rfl)|(apply aV;rfl;rfl;rfl;rfl))|(apply aC;rfl;rfl)|(first|(apply bI;rfl;(assumption);rfl;rfl)|(apply bH;rfl;(assumption);rfl;rfl))|(first|((with_reducible apply aI (k := 161));(case ha => rfl);(case h => (apply sR <;> (first|omega|decide)));(case hp => (rfl));(case hN => rfl))|((with_reducible apply iO (k := 162));(case ha => rfl);(case h => (apply parse_ih <;> (first|assumption|omega)));(case hp => (rfl));(case hN => rfl);(rintro _ ⟨x, nx, rfl, hqx⟩ _)))|(first|(apply jO;rfl;rfl)|(apply bV;rfl;rfl;rfl;rfl;rfl;(rw [aK]; omega);(rfl);omega;omega;(exact g9 (by (assumption)));rfl;rfl))|(apply aF;kernel_rfl)|(apply cK;rfl;rfl)|(apply bT;rfl;rfl)|(apply dI;rfl;rfl;rfl)|((apply bS (t := _));(case hze|hsm|hl => rfl);(case hfl => (exact (rfl:_=some [_, _, _, _, _, _])));(case hM|hN => rfl))|(apply a7;rfl;rfl;rfl;rfl;rfl;(case hl => (simp;done));(exact (rfl:_=[_, _, _, _, _, _]))))|(apply aO;first|apply aH|apply aB|(apply bX;rfl;(rfl))|(apply aP;rfl;all_goals intro hc;have hq:=hc;(try simp only [cD] at hq);try exfalso;omega)|apply aJ|apply aS|apply aW)|with_reducible apply aA|with_reducible apply b0|with_reducible apply aT|with_reducible apply eQ)
  ·refine cA (Le.nilImm (d := 6) rfl) ?_
   exact qN (fun _ => QL.pur) (l := [.imm 0 [], iv (-1)]) rfl ⟨[], -1, rfl, .inl ⟨rfl, rfl⟩⟩
  ·refine cA (Le.frzD (d := 6) (i := 3) rfl rfl) ?_
   refine qN (fun _ => QL.pur) (l := [.imm (m + 1) (flat aN (xs ++ [x])), iv nx]) rfl ⟨xs ++ [x], nx, ?_, ?_⟩
   ·show AV.tup [AV.imm (m + 1) _, _] = AV.tup [AV.imm (List.length (xs ++ [x])) _, _]
    rw [List.length_append, hm]; rfl
   ·rw [dS]; simp only [bJ]; omega
  ·have b2 : 0 ≤ nx ∧ nx + 1 ≤ s.size := j7 (w := ⟨#[59]⟩) (by assumption)
   (apply c6 (nx + 1, xs ++ [x], m + 1);focus (refine Le.ren [(0, 3)] rfl (by decide) ?_ ?_ <;> repeat' (first|exact trivial|refine And.intro ⟨_, rfl, ?_⟩ ?_|refine And.intro ⟨_, _, rfl, rfl, ?_⟩ ?_|exact Or.inr rfl|refine Or.inl ⟨?_, (by first|rfl|exact aX _ _)⟩|rfl)))
   ·dsimp only
    refine ⟨by omega, by omega, by simp [hm], ?_⟩
    rw [dS]; simp only [bJ]; omega
   ·dsimp only;omega
  ·refine cA (Le.nilImm (d := 6) rfl) ?_
   exact qN (fun _ => QL.pur) (l := [.imm 0 [], iv (-1)]) rfl ⟨[], -1, rfl, .inl ⟨rfl, rfl⟩⟩
 ·refine cA (Le.frzD (d := 6) (i := 0) rfl rfl) ?_
  exact qN (fun _ => QL.pur) (l := [.imm 0 [], iv i]) rfl ⟨[], i, rfl, by simp only [bJ]; omega⟩
 ·refine cA (Le.frzD (d := 6) (i := 0) rfl rfl) ?_
  exact qN (fun _ => QL.pur) (l := [.imm 0 [], iv i]) rfl ⟨[], i, rfl, by simp only [bJ]; omega⟩
theorem xW (s : ByteArray) (hs : s.size ≤ 100000) : ∀ n : Nat, n ≤ 10 → (∀ j : Int, -1 ≤ j → j ≤ s.size + 10 → PC Tryz.prog 193 [sv s, iv j, iv ((n : Int) - 1)] (QB s j)) ∧ (∀ j : Int, 0 ≤ j → j ≤ s.size → PC Tryz.prog 121 [sv s, iv j, iv (n : Int)] (QL s j))
 | 0, hn => by
  have hB : ∀ j : Int, -1 ≤ j → j ≤ s.size + 10 → PC Tryz.prog 193 [sv s, iv j, iv (((0 : Nat) : Int) - 1)] (QB s j) :=
   fun j h0 h1 => uI s j (((0 : Nat) : Int) - 1) hs h0 h1 (by omega) (by omega) (fun _ _ h => by omega)
  have hP : ∀ j : Int, 0 ≤ j → j ≤ s.size → PC Tryz.prog 162 [sv s, iv j, iv ((0 : Nat) : Int)] (QP s j) :=
   fun j h0 h1 => yN s j _ hs h0 h1 (by omega) (by omega) (fun k dj h2 h3 h4 => by subst h2;exact hB k h3 h4)
  exact ⟨hB, fun j h0 h1 => A5 s j _ hs h0 h1 (by omega) (by omega) (fun k dj h2 h3 h4 => by subst h2;exact hP k h3 h4)⟩
 | n + 1, hn => by
  have ih := xW s hs n (by omega)
  have e : (((n + 1 : Nat) : Int) - 1) = (n : Int) := by omega
  have hB : ∀ j : Int, -1 ≤ j → j ≤ s.size + 10 → PC Tryz.prog 193 [sv s, iv j, iv (((n + 1 : Nat) : Int) - 1)] (QB s j) :=
   fun j h0 h1 => uI s j _ hs h0 h1 (by omega) (by omega) (fun k dj h2 h3 h4 h5 => by rw [e] at h3;subst h3;exact ih.2 k h4 h5)
  have hP : ∀ j : Int, 0 ≤ j → j ≤ s.size → PC Tryz.prog 162 [sv s, iv j, iv ((n + 1 : Nat) : Int)] (QP s j) :=
   fun j h0 h1 => yN s j _ hs h0 h1 (by omega) (by omega) (fun k dj h2 h3 h4 => by subst h2;exact hB k h3 h4)
  exact ⟨hB, fun j h0 h1 => A5 s j _ hs h0 h1 (by omega) (by omega) (fun k dj h2 h3 h4 => by subst h2;exact hP k h3 h4)⟩
theorem Ha (s : ByteArray) (i : Int) (hs : s.size ≤ 100000) (hi0 : 0 ≤ i) (hi : i ≤ s.size) : PC Tryz.prog 121 [sv s, iv i, iv 4] (QL s i) := (xW s hs 4 (by omega)).2 i hi0 hi
theorem z7 (v : Int) (h0 : 0 ≤ v) (h1 : v ≤ 25) : PC Tryz.prog 214 [iv v] (fun r => r = sv (gO v)) := by
 (refine aQ Tryz.func214 rfl (by simp [Tryz.ntmps214]) ?_; rw [Tryz.ntmps214])
 repeat' (first|(apply aM;first|(apply F5;rfl;rfl;omega;rfl)|((apply Di (ns := [_]));(case hx|hs'|hN => rfl))|(apply y3;rfl;omega;rfl)|(apply aD;rfl;rfl)|(apply aC;rfl;rfl)|(apply aF;kernel_rfl)|(apply bK;rfl;rfl;rfl;exact (rfl:_=some [_]);rfl;rfl))|(apply aO;first|apply aH|apply aB|apply aW)|with_reducible apply aA|((with_reducible apply aU);case hr => rfl))
 exact ⟨rfl, rfl⟩
theorem E5 (n : Int) (h0 : 0 ≤ n) (h1 : n ≤ 9) : PC Tryz.prog 215 [iv n] (fun r => r = sv (zG n)) := by
 (refine aQ Tryz.func215 rfl (by simp [Tryz.ntmps215]) ?_; rw [Tryz.ntmps215])
 repeat' (first|(apply aM;first|(apply aD;rfl;rfl)|(apply aV;rfl;rfl;rfl;rfl)|(apply aC;rfl;rfl)|(apply aF;kernel_rfl))|(apply aO;first|apply aH|apply aB|(apply aP;rfl;all_goals intro hc;have hq:=hc;(try simp only [cD] at hq);try exfalso;omega)|apply aJ|apply aS)|with_reducible apply aA)
 refine bG (σ := Unit) [0, 3] [(0, _), (3, _)] [] [] (fun u => []) (fun u => []) (fun u => True) (fun u => 0) () trivial rfl rfl (by repeat' (exact trivial)) (by repeat' (exact trivial)) ?_
 rintro u _
 repeat' (first|(apply aM;first|(apply k7;rfl;rfl;(rfl);rfl)|((apply Di (ns := [_]));(case hx|hs'|hN => rfl))|(apply y3;rfl;omega;rfl)|(apply aD;rfl;rfl)|(first|(apply bO;rfl;rfl;omega;rfl)|(apply aV;rfl;rfl;rfl;rfl))|(apply aC;rfl;rfl)|(apply aF;kernel_rfl)|(apply bK;rfl;rfl;rfl;exact (rfl:_=some [_]);rfl;rfl))|(apply aO;first|apply aH|apply aB|(apply aP;rfl;all_goals intro hc;have hq:=hc;(try simp only [cD] at hq);try exfalso;omega)|apply bF|apply aW)|with_reducible apply aA|with_reducible apply bE|with_reducible apply bD|((with_reducible apply aU);case hr => rfl))
 exact ⟨rfl, rfl⟩
theorem AY (s : AL.Stmt) (hc : dH s ≤ 10000) (hop : (s.op = 9 ∨ s.op = 10) ∨ (1 ≤ s.op ∧ s.op ≤ 8 ∧ 0 ≤ s.x ∧ s.x ≤ 5 ∧ 0 ≤ s.y ∧ s.y ≤ 5 ∧ (s.op = 1 ∨ s.op = 2 → 0 ≤ s.n ∧ s.n ≤ 9)))
  (hth : s.op = 9 ∨ s.op = 10 → PC Tryz.prog 163 [sl aN s.th] (fun r => r = sv (jB s.th))) (hel : s.op = 9 → PC Tryz.prog 163 [sl aN s.el] (fun r => r = sv (jB s.el))) : PC Tryz.prog 195 [eN s] (fun r => r = sv (lB s)) := by
 have k1 := kZ s.th
 have k2 := kZ s.el
 have k3 := fO s
 (refine aQ Tryz.func195 rfl (by simp [Tryz.ntmps195]) ?_; rw [Tryz.ntmps195])
 repeat' (first|(apply aM;first|(apply k7;rfl;rfl;(first|rfl|exact pS (by (simp only [ByteArray.size_append, nW, List.length_cons, List.length_nil, mE, mM, oQ] <;> omega)));rfl)|(apply aD;rfl;rfl)|(apply aL;rfl;rfl;rfl;rfl)|(apply aE;rfl;rfl;rfl)|(apply aV;rfl;rfl;rfl;rfl)|(apply aC;rfl;rfl)|(first|((with_reducible apply aI (k := 163));(case ha => rfl);(case h => (first|(apply hth;omega)|(apply hel;omega)));(case hp => (exact Pur.pf));(case hN => rfl))|((with_reducible apply aI (k := 214));(case ha => rfl);(case h => (apply z7 <;> (omega)));(case hp => (rfl));(case hN => rfl))|((with_reducible apply aI (k := 215));(case ha => rfl);(case h => (apply E5 <;> (omega)));(case hp => (rfl));(case hN => rfl)))|(apply aF;kernel_rfl)|(apply bW;rfl;rfl;rfl;rfl))|(apply aO;first|apply aH|apply aB|(apply b9;kernel_rfl)|(apply aP;rfl;all_goals intro hc;have hq:=hc;(try simp only [cD] at hq);try exfalso;omega)|apply aJ|apply aS|apply aW)|with_reducible apply aA|with_reducible apply b0|with_reducible apply aT|with_reducible apply eQ|((with_reducible apply aU);case hr => rfl))
 all_goals (refine ⟨?_, rfl⟩; rw [Cn]; repeat' split)
 all_goals (first|rfl|omega)
theorem yS (l : List AL.Stmt) (hc : bJ l ≤ 10000) (text_ih : ∀ k, k < l.length → PC Tryz.prog 195 [eN l[k]!] (fun r => r = sv (lB l[k]!))) : PC Tryz.prog 163 [sl aN l] (fun r => r = sv (jB l)) := by
 have hlen := cY l
 (refine aQ Tryz.func163 rfl (by simp [Tryz.ntmps163]) ?_; rw [Tryz.ntmps163])
 repeat' (first|(apply aM;first|(apply aC;rfl;rfl)|(apply aF;kernel_rfl))|(apply aO;first|apply aH|apply aB|apply aJ)|with_reducible apply aA)
 refine bG (σ := Nat × ByteArray) [0] [(0, _)] [] [] (fun k => [(4, iv (k.1 : Int)), (3, sv k.2)]) (fun k => []) (fun k => k.1 ≤ l.length ∧ k.2 = jB (l.take k.1)) (fun k => l.length - k.1) (0, ⟨#[]⟩) ⟨by omega, rfl⟩ rfl rfl (by repeat' (first|exact trivial|refine And.intro rfl ?_)) (by repeat' (exact trivial)) ?_
 rintro ⟨k, t⟩ ⟨hk, ht⟩
 dsimp only at hk ht ⊢
 have k1 := kZ (l.take k)
 have k2 := s8 l[k]!
 have hck := fL l k
 have hct : bJ (l.take k) ≤ bJ l := by have := dS (l.take k) (l.drop k);rw [List.take_append_drop] at this;omega
 have k3 : t.size = (jB (l.take k)).size := by rw [ht]
 repeat' (first|(apply aM;first|(apply k7;rfl;rfl;(exact pS (by (first|omega|(simp only [ByteArray.size_append, nW, List.length_cons, List.length_nil, mE, mM, oQ] <;> omega))));rfl)|(apply aD;rfl;rfl)|(apply a6;rfl;rfl;(exact (rfl:_=[_, _, _, _, _, _]));rfl;rfl;rfl)|(first|(apply bO;rfl;rfl;omega;rfl)|(apply aV;rfl;rfl;rfl;rfl))|(apply aC;rfl;rfl)|(apply bB;(case hx|hi => rfl);(case hm => (omega));(case hml => (rfl));(case hα | hf|hg => infer_instance);(case hN => rfl))|((with_reducible apply aI (k := 195));(case ha => rfl);(case h => (apply text_ih <;> (omega)));(case hp => (exact Pur.pf));(case hN => rfl))|(apply a8;rfl;rfl;rfl)|(apply aF;kernel_rfl))|(apply aO;first|apply aH|apply aB|(apply aP;rfl;all_goals intro hc;have hq:=hc;(try simp only [cD] at hq);try exfalso;omega)|apply aJ|apply aS|apply bF|apply aW)|with_reducible apply aA|with_reducible apply bE|with_reducible apply aT|with_reducible apply bD|((with_reducible apply aU);case hr => rfl))
 ·(apply c6 (k + 1, _); focus (refine Le.ren [] rfl (by decide) ?_ ?_ <;> repeat' (first | exact trivial | refine And.intro ⟨_, rfl, ?_⟩ ?_ | refine Or.inl ⟨?_, (by first | rfl | exact aX _ _)⟩ | rfl)))
  ·exact ⟨by dsimp only;omega, by dsimp only;rw [qH l k (by omega), pD, if_pos (by omega), ht]⟩
  ·dsimp only;omega
 ·(apply c6 (k + 1, _); focus (refine Le.ren [] rfl (by decide) ?_ ?_ <;> repeat' (first | exact trivial | refine And.intro ⟨_, rfl, ?_⟩ ?_ | refine Or.inl ⟨?_, (by first | rfl | exact aX _ _)⟩ | rfl)))
  ·exact ⟨by dsimp only;omega, by dsimp only;rw [qH l k (by omega), pD, if_neg (by omega), ht]⟩
  ·dsimp only;omega
 ·have hke : k = l.length := by omega
  refine ⟨?_, rfl⟩
  rw [ht, hke, List.take_length]; rfl
theorem Dq (ts : List Int) (hts : cP ts = true) : ∀ m : Nat, m ≤ 10000 → ∀ l d, bJ l ≤ m → okL ts d l = true → PC Tryz.prog 163 [sl aN l] (fun r => r = sv (jB l)) := by
 intro m
 induction m with
 | zero =>
  intro hm l d hc ho
  have := cY l
  exact yS l (by omega) (fun k hk => by omega)
 | succ m ih =>
  intro hm l d hc ho
  refine yS l (by omega) (fun k hk => ?_)
  have hck := fL l k hk
  have hct := iG l[k]!
  have hs : tL ts d l[k]! = true := by rw [vW, jQ] at ho;exact ho k hk
  rw [A8] at hs
  by_cases h9 : l[k]!.op ≠ 9 ∧ l[k]!.op ≠ 10
  ·rw [if_pos h9] at hs
   simp only [Bool.and_eq_true] at hs
   exact AY _ (by omega) (.inr (B5 hts hs.2)) (fun h => by omega) (fun h => by omega)
  ·rw [if_neg h9] at hs
   cases d with
   | zero => cases hs
   | succ d =>
    simp only [Bool.and_eq_true] at hs
    exact AY _ (by omega) (.inl (by omega)) (fun h => ih (by omega) _ d (by omega) hs.1.2) (fun h => ih (by omega) _ d (by omega) hs.2)
theorem EI (ts : List Int) (d : Nat) (l : List AL.Stmt) (hts : cP ts = true) (hc : bJ l ≤ 10000) (ho : okL ts d l = true) : PC Tryz.prog 163 [sl aN l] (fun r => r = sv (jB l)) := Dq ts hts _ hc l d (Nat.le_refl _) ho
def Ak (s : ByteArray) : List AV := [.v (.string s)]
instance : FlT Ak 1 := ⟨fun _ => rfl⟩
instance : FE Ak (fun s => [.v (.string s)]) := ⟨fun _ => rfl⟩
instance (s : ByteArray) : Pur (Ak s) := ⟨rfl⟩
theorem Le.slotEq {ts : List (Nat × AV)} {hs : List (Nat × Option (List AV))} {n : Nat} {z0 : Lo} {d : Nat} (v v' : AV) (hd : lk ts d = some v) (h : v = v') : Le ⟨ts, hs, n, z0⟩ ⟨(d, v') :: ts, hs, n, z0⟩ :=
 Le.slot hd fun w bad ι y hr => h ▸ hr
def kinds : List ByteArray := [⟨#[]⟩, ⟨#[105]⟩, ⟨#[98]⟩, ⟨#[114]⟩, ⟨#[109]⟩]
theorem Ah (k : Nat) : (kinds[k]!).size ≤ 1 := by
 match k with
 | 0 => decide
 | 1 => decide
 | 2 => decide
 | 3 => decide
 | 4 => decide
 | k + 5 => exact (show (default : ByteArray).size ≤ 1 from by decide)
theorem yA (p : Prg) (hv : cM p = true) : PC Tryz.prog 122 [c8 p] (fun r => ∃ t, r = sv t) := by
 have hv2 := hv
 simp only [cM, Bool.and_eq_true, decide_eq_true_eq] at hv2
 obtain ⟨⟨hts, hol⟩, hcn⟩ := hv2
 have hl6 := eJ hts
 have htx := kZ p.body
 (refine aQ Tryz.func122 rfl (by simp [Tryz.ntmps122]) ?_; rw [Tryz.ntmps122])
 repeat' (first|(apply aM;first|(apply aC;rfl;rfl)|(apply aF;kernel_rfl)|(apply bW;rfl;rfl;rfl;rfl))|(apply aO;first|apply aH|apply aB|apply aJ)|with_reducible apply aA)
 refine bG (σ := Nat × ByteArray) [1] [(1, _)] [0] [(0, some _)] (fun k => [(4, iv (k.1 : Int)), (3, sv k.2)]) (fun k => []) (fun k => k.1 ≤ p.types.length ∧ k.2.size ≤ k.1) (fun k => p.types.length - k.1) (0, ⟨#[]⟩) ⟨by omega, by show 0 ≤ 0;omega⟩ rfl rfl (by repeat' (first|exact trivial|refine And.intro rfl ?_)) (by repeat' (exact trivial)) ?_
 rintro ⟨k, t⟩ ⟨hk, ht⟩
 dsimp only at hk ht ⊢
 have htk := kS hts k
 have hkz : (kinds[(p.types[k]!).toNat]!).size ≤ 1 := Ah _
 have hkl : kinds.length = 5 := rfl
 repeat' (first|(apply aM;first|(with_reducible apply dR (d := 14))|((with_reducible apply aI (k := 163));(case ha => rfl);(case h => exact EI p.types 4 p.body hts (by omega) hol);(case hp => (exact Pur.pf));(case hN => rfl))|(apply k7;rfl;rfl;(exact pS (by (simp only [ByteArray.size_append, nW, List.length_cons, List.length_nil, mE, mM, oQ] <;> omega)));rfl)|(apply aD;rfl;rfl)|(apply aL;rfl;rfl;rfl;rfl)|(apply aE;rfl;rfl;rfl)|(apply aV;rfl;rfl;rfl;rfl)|(apply aC;rfl;rfl)|(apply a8;rfl;rfl;rfl)|(apply aF;kernel_rfl)|((apply bS (t := _));(case hze|hsm|hl => rfl);(case hfl => (exact (rfl:_=some [_, _, _, _, _])));(case hM|hN => rfl)))|(apply aO;first|apply aH|apply aB|(apply aP;rfl;all_goals intro hc;have hq:=hc;(try simp only [cD] at hq);try exfalso;omega)|apply aJ|apply aS|apply bF|apply aW)|with_reducible apply aA|with_reducible apply bE|with_reducible apply bD)
 ·refine gK (fN ?_ (Le.slotEq (d := 13) _ (.imm 5 (flat Ak kinds)) rfl rfl))
  repeat' (first|(apply aM;first|(apply k7;rfl;rfl;(exact pS (by (omega)));rfl)|(apply aD;rfl;rfl)|(apply aL;rfl;rfl;rfl;rfl)|(apply aE;rfl;rfl;rfl)|(apply bO;rfl;rfl;omega;rfl)|(apply aC;rfl;rfl)|(first|(apply bB;(case hx|hi => rfl);(case hm => (omega));(case hml => (rfl));(case hα | hf|hg => infer_instance);(case hN => rfl))|(apply cC;(case hx|hi => rfl);(case hm => (omega));(case hml => (rfl));(case hα | hf|hg => infer_instance);(case hN => rfl)))|(apply aF;kernel_rfl))|(apply aO;(apply aB))|with_reducible apply aA|with_reducible apply aT)
  (apply c6 (k + 1, _);focus (refine Le.ren [(0, 0)] rfl (by decide) ?_ ?_ <;> repeat' (first|exact trivial|refine And.intro ⟨_, rfl, ?_⟩ ?_|refine And.intro ⟨_, _, rfl, rfl, ?_⟩ ?_|exact Or.inr rfl|refine Or.inl ⟨?_, (by first|rfl|exact Pur.pf)⟩|rfl)))
  ·exact ⟨by dsimp only;omega, by dsimp only;rw [ByteArray.size_append]; omega⟩
  ·dsimp only;omega
 ·refine aU rfl ⟨⟨_, rfl⟩, rfl⟩
theorem Fe {s : ByteArray} (b : Bool) : (∃ (q : Prg) (b' : Bool), AV.tup [AV.agg [.imm 0 [], .imm 0 []], bv b] = .tup [c8 q, bv b'] ∧ bJ q.body ≤ s.size + 10 ∧ q.types.length ≤ s.size + 10) :=
 ⟨⟨[], []⟩, b, rfl, by simp [bJ], by simp⟩
theorem rU (s : ByteArray) (hs : s.size ≤ 10000) : PC Tryz.prog 68 [sv s] (fun r => ∃ (q : Prg) (b : Bool), r = .tup [c8 q, bv b] ∧ bJ q.body ≤ s.size + 10 ∧ q.types.length ≤ s.size + 10) := by
 (refine aQ Tryz.func68 rfl (by simp [Tryz.ntmps68]) ?_; rw [Tryz.ntmps68])
 repeat' (first|(apply aM;first|(with_reducible apply dR (d := 13))|(apply aD;rfl;rfl)|(apply aV;rfl;rfl;rfl;rfl)|(apply aC;rfl;rfl)|(apply jO;rfl;rfl)|(apply aF;kernel_rfl)|(apply b8;rfl;(exact (rfl:_=some [_, _]));(exact (rfl:_=[_, _]));rfl)|(apply bT;rfl;rfl)|(apply a7;rfl;rfl;rfl;rfl;rfl;(decide);(exact (rfl:_=[_, _]))))|(apply aO;first|apply aH|apply aB|(apply aP;rfl;all_goals intro hc;have hq:=hc;(try simp only [cD] at hq);try exfalso;omega)|apply aS|apply aW)|with_reducible apply aA|with_reducible apply b0)
 ·exact aU (l := [.agg [.imm 0 [], .imm 0 []], bv false]) rfl ⟨Fe false, rfl⟩
 refine gK ?_
 apply sW
 case hl => rfl
 case hf => exact (rfl:_=some [AV.v (.slice none 0 0), AV.v (.slice none 0 0)])
 case hN => rfl
 repeat' (first|(apply aM;first|(apply aC;rfl;rfl)|(apply aF;kernel_rfl)|(apply bT;rfl;rfl)|(apply a7;rfl;rfl;rfl;rfl;rfl;(decide);(exact (rfl:_=[_, _]))))|(apply aO;first|apply aH|apply aB|apply aJ)|with_reducible apply aA)
 apply AW.le
 case k => exact Le.nilCell (i := 1) 1 [] rfl (by decide) (by decide)
 refine bG (σ := Nat × List Int × Nat) [0, 2, 4] [(0, _), (2, _), (4, _)] [0] [(0, some _)] (fun k => [(5, iv (k.1 : Int))]) (fun k => [(1, some [.own 2 0 k.2.2 1, .v (.slice none 0 0)]), (2, some (flat cI k.2.1))]) (fun k => k.1 ≤ s.size ∧ k.2.1.length = k.1 ∧ k.2.2 = k.2.1.length) (fun k => s.size - k.1) (0, [], 0) ⟨by omega, rfl, rfl⟩ rfl rfl (by repeat' (first|exact trivial|refine And.intro rfl ?_)) (by repeat' (first|exact trivial|refine And.intro (.inr rfl) ?_)) ?_
 rintro ⟨k, xs, m⟩ ⟨hk, hxl, hm⟩
 dsimp only at hk hxl hm ⊢
 repeat' (first|(apply aM;first|(with_reducible apply dR (d := 43))|(apply oK;rfl;rfl;omega;rfl)|(apply aD;rfl;rfl)|(apply aL;rfl;rfl;rfl;rfl)|(apply aE;rfl;rfl;rfl)|(first|(apply a9;rfl;rfl;rfl;(assumption))|(apply aZ;rfl;rfl;rfl;(assumption))|(apply bC;(case hj|hb|hN => rfl);all_goals (intro hg;have hq := hg;(try simp only [cD] at hq);(try (exfalso;omega)))))|(first|(apply bO;rfl;rfl;omega;rfl)|(apply aV;rfl;rfl;rfl;rfl))|(apply aC;rfl;rfl)|(first|(apply bI;rfl;(assumption);rfl;rfl)|(apply bH;rfl;(assumption);rfl;rfl))|(first|(apply jO;rfl;rfl)|(apply bV;rfl;rfl;rfl;rfl;rfl;(rw [aK]; omega);(rfl);omega;omega;(exact mF (by (assumption)));rfl;rfl))|(apply aF;kernel_rfl)|((apply bS (t := _));(case hze|hsm|hl => rfl);(case hfl => exact (rfl:_=some [_]));(case hM|hN => rfl))|(apply a7;rfl;rfl;rfl;rfl;rfl;(case hl => (simp;done));(exact (rfl:_=[_, _]))))|(apply aO;first|apply aH|apply aB|(apply cF;rfl;(rfl))|(apply aP;rfl;all_goals intro hc;have hq:=hc;(try simp only [cD] at hq);try exfalso;omega)|apply aJ|apply aS|apply bF)|with_reducible apply aA|with_reducible apply bE|with_reducible apply aT|with_reducible apply bD)
 ·(apply c6 (k + 1, xs ++ [1], m + 1); focus (refine Le.ren [(0, 0), (1, 1), (2, 4)] rfl (by decide) ?_ ?_ <;> repeat' (first | exact trivial | refine And.intro ⟨_, rfl, ?_⟩ ?_ | refine And.intro ⟨_, _, rfl, rfl, ?_⟩ ?_ | exact Or.inr rfl | refine Or.inl ⟨?_, (by first | rfl | exact aX _ _)⟩ | refine Or.inr (All2.cons ?_ ?_) | refine All2.cons ?_ ?_ | exact All2.nil | rfl)))
  ·exact ⟨by dsimp only;omega, by simp [hxl], by simp [hm]⟩
  ·dsimp only;omega
 ·(apply c6 (k + 1, xs ++ [2], m + 1); focus (refine Le.ren [(0, 0), (1, 1), (2, 4)] rfl (by decide) ?_ ?_ <;> repeat' (first | exact trivial | refine And.intro ⟨_, rfl, ?_⟩ ?_ | refine And.intro ⟨_, _, rfl, rfl, ?_⟩ ?_ | exact Or.inr rfl | refine Or.inl ⟨?_, (by first | rfl | exact aX _ _)⟩ | refine Or.inr (All2.cons ?_ ?_) | refine All2.cons ?_ ?_ | exact All2.nil | rfl)))
  ·exact ⟨by dsimp only;omega, by simp [hxl], by simp [hm]⟩
  ·dsimp only;omega
 ·(apply c6 (k + 1, xs ++ [3], m + 1); focus (refine Le.ren [(0, 0), (1, 1), (2, 4)] rfl (by decide) ?_ ?_ <;> repeat' (first | exact trivial | refine And.intro ⟨_, rfl, ?_⟩ ?_ | refine And.intro ⟨_, _, rfl, rfl, ?_⟩ ?_ | exact Or.inr rfl | refine Or.inl ⟨?_, (by first | rfl | exact aX _ _)⟩ | refine Or.inr (All2.cons ?_ ?_) | refine All2.cons ?_ ?_ | exact All2.nil | rfl)))
  ·exact ⟨by dsimp only;omega, by simp [hxl], by simp [hm]⟩
  ·dsimp only;omega
 ·(apply c6 (k + 1, xs ++ [4], m + 1); focus (refine Le.ren [(0, 0), (1, 1), (2, 4)] rfl (by decide) ?_ ?_ <;> repeat' (first | exact trivial | refine And.intro ⟨_, rfl, ?_⟩ ?_ | refine And.intro ⟨_, _, rfl, rfl, ?_⟩ ?_ | exact Or.inr rfl | refine Or.inl ⟨?_, (by first | rfl | exact aX _ _)⟩ | refine Or.inr (All2.cons ?_ ?_) | refine All2.cons ?_ ?_ | exact All2.nil | rfl)))
  ·exact ⟨by dsimp only;omega, by simp [hxl], by simp [hm]⟩
  ·dsimp only;omega
 ·(apply c6 (k + 1, xs ++ [0], m + 1); focus (refine Le.ren [(0, 0), (1, 1), (2, 4)] rfl (by decide) ?_ ?_ <;> repeat' (first | exact trivial | refine And.intro ⟨_, rfl, ?_⟩ ?_ | refine And.intro ⟨_, _, rfl, rfl, ?_⟩ ?_ | exact Or.inr rfl | refine Or.inl ⟨?_, (by first | rfl | exact aX _ _)⟩ | refine Or.inr (All2.cons ?_ ?_) | refine All2.cons ?_ ?_ | exact All2.nil | rfl)))
  ·exact ⟨by dsimp only;omega, by simp [hxl], by simp [hm]⟩
  ·dsimp only;omega
 all_goals subst hm
 all_goals (refine gK (fN ?_ (Le.frzC (j := 1) (i := 2) [] rfl rfl (by decide))))
 all_goals repeat' (first|(apply aM;first|((with_reducible apply iO (k := 121));(case ha => rfl);(case h => (apply Ha <;> omega));(case hp => (rfl));(case hN => rfl);(rintro _ ⟨l, nx, rfl, hql⟩ _))|((with_reducible apply aI (k := 57));(case ha => rfl);(case h => exact gZ ⟨xs, l⟩ (by show xs.length ≤ _; omega) (by show bJ l ≤ 100000000;rcases hql with ⟨_, h9⟩|h9;(rw [h9]; decide);omega));(case hp => (exact Pur.pf));(case hN => rfl))|((with_reducible apply iO (k := 122));(case ha => rfl);(case h => exact yA ⟨xs, l⟩ (by assumption));(case hp => (exact Pur.pf));(case hN => rfl);(rintro _ ⟨t, rfl⟩ _))|(apply k7;rfl;rfl;(rfl);rfl)|(apply aD;rfl;rfl)|(apply a6;rfl;rfl;(exact (rfl:_=[_, _]));rfl;rfl;rfl)|(apply aE;rfl;rfl;rfl)|(first|(apply a9;rfl;rfl;rfl;(assumption))|(apply aZ;rfl;rfl;rfl;(first|rfl|assumption))|(apply bC;(case hj|hb|hN => rfl);all_goals (intro hg;have hq := hg;(try simp only [cD] at hq);(try (exfalso;omega)))))|(first|(apply bO;rfl;rfl;omega;rfl)|(apply aV;rfl;rfl;rfl;rfl))|(apply aC;rfl;rfl)|(first|(apply bI;rfl;(first|rfl|assumption);rfl;rfl)|(apply bH;rfl;(assumption);rfl;rfl))|(apply jO;rfl;rfl)|(apply aF;kernel_rfl)|(apply b8;rfl;(exact (rfl:_=some [_, _]));(exact (rfl:_=[_, _]));rfl)|(apply cK;rfl;rfl)|(apply dI;rfl;rfl;rfl)|(apply a7;rfl;rfl;rfl;rfl;rfl;(case hl => (first|decide|(simp;done)));(exact (rfl:_=[_, _]))))|(apply aO;first|apply aH|apply aB|(apply bX;rfl;(rfl))|(apply aP;rfl;all_goals intro hc;have hq:=hc;(try simp only [cD] at hq);try exfalso;omega)|apply aS|apply aW)|with_reducible apply aA|with_reducible apply b0)
 all_goals first
  | exact aU (l := [.agg [.imm 0 [], .imm 0 []], bv false]) rfl ⟨Fe false, rfl⟩
  | (refine aU (l := [.agg [.imm xs.length (flat cI xs), sl aN l], bv true]) rfl ⟨⟨⟨xs, l⟩, true, rfl, ?_, by show xs.length ≤ _; omega⟩, Pur.pf⟩
     show bJ l ≤ _
     rcases hql with ⟨_, h9⟩|h9
     ·rw [h9]; simp [bJ]
     ·omega)
class NumS (cs : List AV) (xs : outParam (List ByteArray)) : Prop where h : cs = flat Ak xs
instance NumS.nil : NumS [] [] := ⟨rfl⟩
instance NumS.cons {n : ByteArray} {cs : List AV} {xs : List ByteArray} [h : NumS cs xs] : NumS (.v (.string n) :: cs) (n :: xs) := ⟨by rw [h.h]; rfl⟩
theorem Ev {cs : List AV} {xs : List ByteArray} {m : Nat} (h : NumS cs xs) (hm : m = xs.length) (hs : xs.all (fun s => decide (s.size ≤ 600)) = true) : ∃ ys : List ByteArray, AV.imm m cs = sl Ak ys ∧ ys.length = m ∧ ∀ i : Nat, (ys[i]!).size ≤ 600 := by
 refine ⟨xs, by rw [h.h, hm], hm.symm, fun i => ?_⟩
 by_cases hi : i < xs.length
 ·rw [List.all_eq_true] at hs
  rw [dG _ _ hi]
  simpa using hs _ (List.getElem_mem hi)
 ·rw [getElem!_neg xs i hi]; decide
theorem BR : PC Tryz.prog 70 [] (fun r => ∃ ys : List ByteArray, r = sl Ak ys ∧ ys.length = 25 ∧ ∀ i : Nat, (ys[i]!).size ≤ 600) := by
 (refine aQ Tryz.func70 rfl (by simp [Tryz.ntmps70]) ?_; rw [Tryz.ntmps70])
 repeat' (first|(apply aM;first|((apply bS (t := _));(case hze|hsm|hl => rfl);(case hfl => exact (rfl:_=some [_, _, _, _, _, _, _, _, _, _, _, _, _, _, _, _, _, _, _, _, _, _, _, _, _]));(case hM|hN => rfl))|(apply aC;rfl;rfl)|(apply aF;kernel_rfl))|(apply aO;first|apply aH|apply aB|apply aW)|with_reducible apply aA)
 refine qN (l := [.imm 25 [_, _, _, _, _, _, _, _, _, _, _, _, _, _, _, _, _, _, _, _, _, _, _, _, _]]) ?_ rfl ?_
 ·rintro _ ⟨ys, rfl, _⟩; exact aX _ _
 ·exact Ev inferInstance rfl (by decide)
theorem sC {P : Program} {N : Nat} {Q : Exit → AS → Prop} {all : Array Oper} {rest : List Oper} {ts : List (Nat × AV)} {hs : List (Nat × Option (List AV))} {n : Nat} {z0 : Lo} {ty : TypeId} {pos : String} {af : Array Edge} {d : Nat} {args : Array Operand} {tys : Array TypeId}
  {k : FuncId} {pv : List AV} {p0 : Prg × Nat → Prop} {i p : Nat} {bs : List UInt8} (h : MC P k (.optr 0 0 :: pv) [(0, some (e8 bs p))] 1 p0 (fun x => c8 x.1) (fun x => [(0, some (e8 bs x.2))])) [hc : CaT P k] (ha : evL (lk ts) args.toList = some (.optr i 0 :: pv)) (hpv : cO pv = true)
  (hH : bU hs i = some (e8 bs p)) (hM : Nat.ble (n + 0) bZ = true) (hN : Nat.blt d N = true) (kk : ∀ x, p0 x → RW P N all Q .txt rest ⟨(d, c8 x.1) :: ts, (i, some (e8 bs x.2)) :: hs, n + 0, z0⟩) :
  RW P N all Q .txt (⟨some d, .call ⟨.value (.func k), args, tys⟩, ty, pos, af, none⟩ :: rest) ⟨ts, hs, n, z0⟩ :=
 D7 (σ := Prg × Nat) [i] 1 (fun x : Prg × Nat => [(i, some (e8 bs x.2))]) h ha rfl ⟨⟨_, _, rfl, hH, RnL.purI inferInstance⟩, trivial⟩ rfl (RnL.cons (RnV.optr rfl) (RnL.pur hpv)) (by simpa using hM)
  (fun x _ => RnV.purI inferInstance) (fun x _ => by simp [e7]) (fun x _ => ⟨⟨0, _, rfl, rfl, RnL.purI inferInstance⟩, trivial⟩) hN kk
theorem DW (bs : List UInt8) (p : Nat) (xs : List Int) (lo hi : Int) (h0 : 0 < xs.length) (h : xs.all (fun x => decide (lo ≤ x) && decide (x ≤ hi)) = true) : lo ≤ iD bs p xs ∧ iD bs p xs ≤ hi := by
 have h1 := fC bs p (xs.length : Int)
 rw [jQ] at h
 have := h (cG bs p (xs.length : Int)).toNat (by omega)
 simp only [Bool.and_eq_true, decide_eq_true_eq] at this
 exact this
theorem Ho (bs : List UInt8) (p : Nat) (hb : bs.length ≤ 2000) (hp : p ≤ 1000) : MC Tryz.prog 74 [.optr 0 0] [(0, some (e8 bs p))] 1 (fun x : Prg × Nat => bJ x.1.body ≤ 620 ∧ x.1.types.length ≤ 620 ∧ x.2 ≤ 2000) (fun x => c8 x.1) (fun x => [(0, some (e8 bs x.2))]) := by
 have h0 := fC bs p 25
 have hn := DW bs (p + 1 + 1) [5, 4, 7, 3, 8] 0 8 (by decide) (by decide)
 (refine dB Tryz.func74 rfl (by simp [Tryz.ntmps74]) ?_; rw [Tryz.ntmps74])
 repeat' (first|(apply aM;first|((with_reducible apply iO (k := 70));(case ha => rfl);(case h => exact BR);(case hp => (rfl));(case hN => rfl);(rintro _ ⟨ys, rfl, hyl, hsz⟩ _);(have hpk := fC bs p (ys.length : Int)))|((with_reducible apply iO (k := 68));(case ha => rfl);(case h => exact rU _ (Nat.le_trans (hsz _) (by decide)));(case hp => (rfl));(case hN => rfl);(rintro _ ⟨q, b, rfl, hqc, hqt⟩ _))|((apply uF (ts := [1, 2, 2, 3, 4, 4]));(case ha0|ha1|ha2|ha3|hH0 => rfl);(case hmc => (apply Dl <;> (first|assumption|omega)));(case hM|hN => rfl))|(apply aD;rfl;rfl)|(first|(apply aL;rfl;rfl;rfl;rfl)|(apply a6;rfl;rfl;(exact (rfl:_=[_, _]));rfl;rfl;rfl))|(apply aE;rfl;rfl;rfl)|(first|(apply a9;rfl;rfl;rfl;(assumption))|(apply aZ;rfl;rfl;rfl;(assumption))|(apply bC;(case hj|hb|hN => rfl);all_goals (intro hg;have hq := hg;(try simp only [cD] at hq);(try (exfalso;omega)))))|(apply aV;rfl;rfl;rfl;rfl)|(apply aC;rfl;rfl)|(first|(apply bI;rfl;(assumption);rfl;rfl)|(apply bH;rfl;(assumption);rfl;rfl))|(apply cC;(case hx|hi => rfl);(case hm => (omega));(case hml => (rfl));(case hα | hf|hg => infer_instance);(case hN => rfl))|(first|(apply jV;rfl;rfl;(rfl);(apply l8 <;> (first|assumption|omega));rfl;rfl)|(apply pV;rfl;rfl;rfl;rfl;infer_instance;rfl;(rfl);assumption;omega;(decide);(decide);rfl;rfl))|(apply a8;rfl;rfl;rfl)|(apply aF;kernel_rfl)|(apply b8;rfl;(exact (rfl:_=some [_, _]));(exact (rfl:_=[_, _]));rfl)|(apply bT;rfl;rfl)|(apply dI;rfl;rfl;rfl)|((apply bS (t := _));(case hze|hsm|hl => rfl);(case hfl => (exact (rfl:_=some [_, _, _, _, _, _])));(case hM|hN => rfl))|(apply bK;rfl;rfl;rfl;(exact (rfl:_=some [_, _, _, _, _]));rfl;rfl)|(apply a7;rfl;rfl;rfl;rfl;rfl;(case hl => (first|decide|(simp;done)));(exact (rfl:_=[_, _]))))|(apply aO;first|apply aH|apply aB|(apply b9;kernel_rfl)|(apply bX;rfl;(rfl))|(apply aP;rfl;all_goals intro hc;have hq:=hc;(try simp only [cD] at hq);try exfalso;omega)|apply aS|apply aW)|with_reducible apply aA|with_reducible apply b0)
 ·have h9 := hsz (cG bs p (ys.length : Int)).toNat
  refine aU rfl ?_
  exact dA (q, p + 1 + 1) ⟨by dsimp only;omega, by dsimp only;omega, by dsimp only;omega⟩ rfl ⟨.inr rfl, trivial⟩
 ·have h9 := G9 bs (d := 2) (by omega) (iD bs (p + 1 + 1) [5, 4, 7, 3, 8]) (p + 1 + 1 + 1)
  have h10 := vC bs (d := 2) (by omega) (iD bs (p + 1 + 1) [5, 4, 7, 3, 8]) (p + 1 + 1 + 1)
  refine aU rfl ?_
  exact dA ((⟨[1, 2, 2, 3, 4, 4], (eI bs 2 (iD bs (p + 1 + 1) [5, 4, 7, 3, 8]) (p + 1 + 1 + 1)).1⟩ : Prg), (eI bs 2 (iD bs (p + 1 + 1) [5, 4, 7, 3, 8]) (p + 1 + 1 + 1)).2) ⟨by dsimp only;omega, by show 6 ≤ 620;decide, by dsimp only;omega⟩ rfl ⟨.inr rfl, trivial⟩
 ·have h9 := hsz (cG bs p (ys.length : Int)).toNat
  refine aU rfl ?_
  exact dA (q, p + 1 + 1) ⟨by dsimp only;omega, by dsimp only;omega, by dsimp only;omega⟩ rfl ⟨.inr rfl, trivial⟩
theorem sE {bs : List UInt8} {N : Nat} {Q : Exit → AS → Prop} {all : Array Oper} {rest : List Oper} {tsl : List (Nat × AV)} {hsl : List (Nat × Option (List AV))} {nidl : Nat} {z0 : Lo} {md : Md} {d : Nat} {ty : TypeId} {pos : String} {af : Array Edge} {tys : Array TypeId} {x0 : Operand} (ha0 : ev (lk tsl) x0 = some (sl cU bs)) (hmc : MC Tryz.prog 46 [sl cU bs] [] 0 (fun _ : Unit => True) (fun _ => .optr 0 0) (fun _ => [(0, some (e8 (bs.take 2000) 0))])) (hM : Nat.ble (nidl + 1) bZ = true) (hN : Nat.blt d N = true) {md' : Md} [hmd : MdA md (jH [x0] ++ []) (List.map Sum.inr (List.map Prod.fst ([(nidl, some (e8 (bs.take 2000) 0))] : List (Nat × Option (List AV)))) ++ [.inl d]) md'] (kk : RW Tryz.prog N all Q md' rest ⟨(d, .optr nidl 0) :: tsl, lE hsl [(nidl, some (e8 (bs.take 2000) 0))], nidl + 1, z0⟩) : RW Tryz.prog N all Q md (⟨some d, .call ⟨.value (.func 46), #[x0], tys⟩, ty, pos, af, none⟩ :: rest) ⟨tsl, hsl, nidl, z0⟩ := by
 refine c5 [] 1 [(nidl, some (e8 (bs.take 2000) 0))] hmc (avs := [sl cU bs]) ?_ rfl ?_ rfl ?_ (by simpa using hM) ?_ ?_ ?_ hN (md' := md') (hmd := hmd) kk
 ·show evL (lk tsl) [x0] = _
  simp only [evL, ha0]
 ·exact trivial
 ·(repeat' (exact RnL.purI inferInstance))
 ·(repeat' (exact RnV.optr rfl))
 ·simp [e7]
 ·(repeat' (first|exact trivial|(refine And.intro ⟨0, _, rfl, rfl, ?_⟩ ?_)|exact RnL.purI inferInstance))
theorem uH (bs : List UInt8) (hb : bs.length ≤ 1048576) : MC Tryz.prog 46 [sl cU bs] [] 0 (fun _ : Unit => True) (fun _ => .optr 0 0) (fun _ => [(0, some (e8 (bs.take 2000) 0))]) := Hq bs hb
theorem Dd (p : Prg) (hv : cM p = false) (hl : p.types.length ≤ 1000000) (hs : bJ p.body ≤ 1000000) : PC Tryz.prog 31 [c8 p] (fun r => r = sl kW []) := by
 (refine aQ Tryz.func31 rfl (by simp [Tryz.ntmps31]) ?_; rw [Tryz.ntmps31])
 repeat' (first|(apply aM;first|((with_reducible apply aI (k := 78));(case ha => rfl);(case h => exact (by have := oJ p hl hs;rw [if_neg (by simp [hv])] at this;exact this));(case hp => (exact Pur.pf));(case hN => rfl))|(apply aD;rfl;rfl)|(apply a6;rfl;rfl;(exact (rfl:_=[_, _]));rfl;rfl;rfl)|(apply aC;rfl;rfl)|(apply aF;kernel_rfl)|(apply cK;rfl;rfl)|(apply bW;rfl;rfl;rfl;rfl)|(apply dI;rfl;rfl;rfl))|(apply aO;first|apply aH|apply aB|(apply bX;rfl;(rfl))|apply aW)|with_reducible apply aA|with_reducible apply b0)
 (refine cA (Le.nilImm (d := 2) rfl) ?_; refine aU rfl ?_)
 exact ⟨rfl, rfl⟩
theorem CY (p : Prg) (hv : cM p = false) (hl : p.types.length ≤ 1000000) (hs : bJ p.body ≤ 1000000) : PC Tryz.prog 114 [c8 p] (fun r => r = sl kW []) := by
 have hval := gZ p hl (by omega)
 rw [hv] at hval
 (refine aQ Tryz.func114 rfl (by simp [Tryz.ntmps114]) ?_; rw [Tryz.ntmps114])
 repeat' (first|(apply aM;first|((with_reducible apply aI (k := 57));(case ha => rfl);(case h => exact hval);(case hp => (exact Pur.pf));(case hN => rfl))|(apply a6;rfl;rfl;(exact (rfl:_=[_, _]));rfl;rfl;rfl)|(apply aC;rfl;rfl)|(apply aF;kernel_rfl)|(apply cK;rfl;rfl)|(apply bW;rfl;rfl;rfl;rfl)|((apply bS (t := _));(case hze|hsm|hl => rfl);(case hfl => (rfl));(case hM|hN => rfl)))|(apply aO;first|apply aH|apply aB|(apply bX;rfl;(rfl))|apply aW)|with_reducible apply aA|with_reducible apply b0)
 exact aU rfl ⟨rfl, rfl⟩
theorem yK (p : Prg) (L : List Iss) (hl : p.types.length ≤ 1000000) (hs : bJ p.body ≤ 1000000) (hC : PC Tryz.prog 31 [c8 p] (fun r => r = sl kW L)) : PC Tryz.prog 19 [c8 p] (fun r => r = bv (cM p && L.isEmpty)) := by
 (refine aQ Tryz.func19 rfl (by simp [Tryz.ntmps19]) ?_; rw [Tryz.ntmps19])
 repeat' (first|(apply aM;first|((with_reducible apply aI (k := 31));(case ha => rfl);(case h => exact hC);(case hp => (exact Pur.pf));(case hN => rfl))|(apply aD;rfl;rfl)|(apply a6;rfl;rfl;(exact (rfl:_=[_, _]));rfl;rfl;rfl)|(first|(apply a9;rfl;rfl;rfl;(assumption))|(apply aZ;rfl;rfl;rfl;(assumption))|(apply bC;(case hj|hb|hN => rfl);all_goals (intro hg;have hq := hg;(try simp only [cD] at hq);(try (exfalso;omega)))))|(apply aV;rfl;rfl;rfl;rfl)|(apply aC;rfl;rfl)|(first|(apply bI;rfl;(assumption);rfl;rfl)|(apply bH;rfl;(assumption);rfl;rfl))|((with_reducible apply aI (k := 49));(case ha => rfl);(case h => (apply jF <;> (first|assumption|omega)));(case hp => (exact Pur.pf));(case hN => rfl))|(apply a8;rfl;rfl;rfl)|(apply aF;kernel_rfl)|(apply bW;rfl;rfl;rfl;rfl))|(apply aO;first|apply aH|apply aB|apply aW)|with_reducible apply aA)
 all_goals refine aU rfl ⟨?_, rfl⟩
 all_goals simp only [bQ]
 ·rw [show cM p = true by assumption]
  cases L with
  | nil => rfl
  | cons a b => simp;omega
 ·rw [show cM p = false by assumption]; rfl
theorem y6 (p : Prg) (L : List Iss) (hl : p.types.length ≤ 1000000) (hs : bJ p.body ≤ 1000000) (hC : PC Tryz.prog 114 [c8 p] (fun r => r = sl kW L)) : PC Tryz.prog 61 [c8 p] (fun r => r = bv (cM p && L.isEmpty)) := by
 have hval := gZ p hl (by omega)
 (refine aQ Tryz.func61 rfl (by simp [Tryz.ntmps61]) ?_; rw [Tryz.ntmps61])
 repeat' (first|(apply aM;first|((with_reducible apply aI (k := 114));(case ha => rfl);(case h => exact hC);(case hp => (exact Pur.pf));(case hN => rfl))|((with_reducible apply aI (k := 57));(case ha => rfl);(case h => exact hval);(case hp => (exact Pur.pf));(case hN => rfl))|(apply aD;rfl;rfl)|(apply a6;rfl;rfl;(exact (rfl:_=[_, _]));rfl;rfl;rfl)|(first|(apply a9;rfl;rfl;rfl;(assumption))|(apply aZ;rfl;rfl;rfl;(assumption))|(apply bC;(case hj|hb|hN => rfl);all_goals (intro hg;have hq := hg;(try simp only [cD] at hq);(try (exfalso;omega)))))|(apply aV;rfl;rfl;rfl;rfl)|(apply aC;rfl;rfl)|(first|(apply bI;rfl;(assumption);rfl;rfl)|(apply bH;rfl;(assumption);rfl;rfl))|(apply a8;rfl;rfl;rfl)|(apply aF;kernel_rfl)|(apply bW;rfl;rfl;rfl;rfl))|(apply aO;first|apply aH|apply aB|apply aW)|with_reducible apply aA)
 all_goals refine aU rfl ⟨?_, rfl⟩
 all_goals simp only [bQ]
 ·rw [show cM p = true by assumption]
  cases L with
  | nil => rfl
  | cons a b => simp;omega
 ·rw [show cM p = false by assumption]; rfl
end Go.Proofs.YtjcpngimjdckmaaGreat
