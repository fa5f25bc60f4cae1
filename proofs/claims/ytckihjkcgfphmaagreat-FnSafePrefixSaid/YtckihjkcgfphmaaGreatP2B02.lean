/-
 A part of the proofs over this program: rules and contracts of its functions (the contracts).
-/
import Derived.Test.YtckihjkcgfphmaaGreatP2B01
set_option linter.unusedVariables false
set_option linter.unusedSimpArgs false
set_option maxHeartbeats 8000000
set_option maxRecDepth 4000
attribute [local irreducible] Go.AL.RW Go.AL.AW Go.AL.Stop
namespace Go.Proofs.YtckihjkcgfphmaaGreat
open Go.AL Go.RowKit
def st (op x y n : Int) : AL.Stmt := .mk op x y n [] []
def iJ (bs : List UInt8) (p : Nat) : AL.Stmt × Nat :=
 let box := 1 + cJ bs p 2
 let owner := gG bs (p + 1) [1, 2, 1, 4, 5]
 let c := cJ bs (p + 1 + 1) 11
 if c = 0 then (st 1 0 0 (cJ bs (p + 1 + 1 + 1) 10), p + 4)
 else if c = 1 then (st 2 box 0 (cJ bs (p + 1 + 1 + 1) 10), p + 4)
 else if c = 2 then (st 3 box (3 - box) 0, p + 3)
 else if c = 3 then (st 4 3 owner 0, p + 3)
 else if c = 4 ∨ c = 5 then (st 5 4 (gG bs (p + 1 + 1 + 1) [1, 2, 1, 5]) 0, p + 4)
 else if c = 6 then (st 6 0 (gG bs (p + 1 + 1 + 1) [3, 4, 1, 2, 5]) 0, p + 4)
 else if c = 7 then (st 7 (gG bs (p + 1 + 1 + 1) [4, 1, 2, 5]) 0 0, p + 4)
 else if c = 8 then (st 8 box 0 0, p + 3)
 else (st 5 5 (gG bs (p + 1 + 1 + 1) [4, 1, 2]) 0, p + 4)
def gE (one : Nat → AL.Stmt × Nat) (s : AL.Stmt) (p : Nat) : Nat → List AL.Stmt × Nat
 | 0 => ([s], p)
 | k + 1 => ((gE one s p k).1 ++ [(one (gE one s p k).2).1], (one (gE one s p k).2).2)
def pY (bs : List UInt8) : Nat → Nat → AL.Stmt × Nat
 | 0, p => iJ bs p
 | d + 1, p =>
  let c := cJ bs (p + 1 + 1) 11
  if c = 9 then
   let r := gE (pY bs d) (st 2 1 0 (cJ bs (p + 1 + 1 + 1 + 1) 10)) (p + 1 + 1 + 1 + 1 + 1) (cJ bs (p + 1 + 1 + 1) 3).toNat
   let e := iJ bs r.2
   (.mk 9 0 0 0 r.1 [e.1], e.2)
  else if c = 10 then
   let a := iJ bs (p + 1 + 1 + 1)
   let b := iJ bs a.2
   (.mk 10 0 0 0 [a.1, b.1] [], b.2)
  else iJ bs p
def eD (bs : List UInt8) (d : Int) (p : Nat) : AL.Stmt × Nat := pY bs d.toNat p
def dP (bs : List UInt8) (d n : Int) (p : Nat) : List AL.Stmt × Nat := gE (eD bs d) (st 2 1 0 (cJ bs p 10)) (p + 1) n.toNat
theorem pH (bs : List UInt8) (p : Nat) : (iJ bs p).2 ≤ p + 4 := by
 unfold iJ;dsimp only;repeat' split
 all_goals omega
theorem oX (bs : List UInt8) (p : Nat) : c9 (iJ bs p).1 = 1 := by
 unfold iJ st;dsimp only;repeat' split
 all_goals simp [c9, bO]
theorem r9 {one : Nat → AL.Stmt × Nat} {c : Nat} (h : ∀ p, (one p).2 ≤ p + c) (s : AL.Stmt) (p : Nat) : ∀ k, (gE one s p k).2 ≤ p + k * c
 | 0 => by simp [gE]
 | k + 1 => by
  have := r9 h s p k
  have := h (gE one s p k).2
  simp only [gE, Nat.succ_mul]; omega
theorem sV {one : Nat → AL.Stmt × Nat} {c : Nat} (h : ∀ p, c9 (one p).1 ≤ c) (s : AL.Stmt) (p : Nat) : ∀ k, bO (gE one s p k).1 ≤ c9 s + k * c
 | 0 => by simp [gE, bO]
 | k + 1 => by
  have := sV h s p k
  have := h (gE one s p k).2
  simp only [gE, Nat.succ_mul, e8, bO]; omega
def tV : Nat → Nat
 | 0 => 4
 | d + 1 => 9 + 2 * tV d
def Au : Nat → Nat
 | 0 => 1
 | d + 1 => 3 + 2 * Au d
theorem k3 (bs : List UInt8) (p : Nat) : (cJ bs p 3).toNat ≤ 2 := by have := eZ bs p 3; omega
theorem Bp (bs : List UInt8) : ∀ d p, (pY bs d p).2 ≤ p + tV d
 | 0, p => pH bs p
 | d + 1, p => by
  have h0 := pH bs p
  have h1 := r9 (Bp bs d) (st 2 1 0 (cJ bs (p + 1 + 1 + 1 + 1) 10)) (p + 1 + 1 + 1 + 1 + 1) (cJ bs (p + 1 + 1 + 1) 3).toNat
  have h2 := k3 bs (p + 1 + 1 + 1)
  have h3 : (cJ bs (p + 1 + 1 + 1) 3).toNat * tV d ≤ 2 * tV d := Nat.mul_le_mul_right _ h2
  have h4 := pH bs (gE (pY bs d) (st 2 1 0 (cJ bs (p + 1 + 1 + 1 + 1) 10)) (p + 1 + 1 + 1 + 1 + 1) (cJ bs (p + 1 + 1 + 1) 3).toNat).2
  have h5 := pH bs (p + 1 + 1 + 1)
  have h6 := pH bs (iJ bs (p + 1 + 1 + 1)).2
  have h7 : 1 ≤ tV d := by cases d <;> simp only [tV] <;> omega
  simp only [pY, tV]
  split
  ·dsimp only;omega
  ·split
   ·dsimp only;omega
   ·omega
theorem Cq (bs : List UInt8) : ∀ d p, c9 (pY bs d p).1 ≤ Au d
 | 0, p => by rw [pY, oX]; decide
 | d + 1, p => by
  have h0 := oX bs p
  have h1 := sV (Cq bs d) (st 2 1 0 (cJ bs (p + 1 + 1 + 1 + 1) 10)) (p + 1 + 1 + 1 + 1 + 1) (cJ bs (p + 1 + 1 + 1) 3).toNat
  have h2 := k3 bs (p + 1 + 1 + 1)
  have h3 : (cJ bs (p + 1 + 1 + 1) 3).toNat * Au d ≤ 2 * Au d := Nat.mul_le_mul_right _ h2
  have h4 := oX bs (gE (pY bs d) (st 2 1 0 (cJ bs (p + 1 + 1 + 1 + 1) 10)) (p + 1 + 1 + 1 + 1 + 1) (cJ bs (p + 1 + 1 + 1) 3).toNat).2
  have h5 := oX bs (p + 1 + 1 + 1)
  have h6 := oX bs (iJ bs (p + 1 + 1 + 1)).2
  have h7 : c9 (st 2 1 0 (cJ bs (p + 1 + 1 + 1 + 1) 10)) = 1 := by simp [st, c9, bO]
  simp only [pY, Au]
  split
  ·simp only [c9, bO]; omega
  ·split
   ·simp only [c9, bO]; omega
   ·omega
theorem Bn (bs : List UInt8) {d : Int} (h : d ≤ 2) (p : Nat) : (eD bs d p).2 ≤ p + 43 := by
 have h1 := Bp bs d.toNat p
 have h2 : tV d.toNat ≤ 43 := by
  have : d.toNat = 0 ∨ d.toNat = 1 ∨ d.toNat = 2 := by omega
  rcases this with h|h|h <;> rw [h] <;> decide
 exact Nat.le_trans h1 (by omega)
theorem Fe (bs : List UInt8) {d : Int} (h : d ≤ 2) (p : Nat) : c9 (eD bs d p).1 ≤ 13 := by
 have h1 := Cq bs d.toNat p
 have h2 : Au d.toNat ≤ 13 := by
  have : d.toNat = 0 ∨ d.toNat = 1 ∨ d.toNat = 2 := by omega
  rcases this with h|h|h <;> rw [h] <;> decide
 exact Nat.le_trans h1 h2
theorem rK {one : Nat → AL.Stmt × Nat} (s : AL.Stmt) (p : Nat) : ∀ k, (gE one s p k).1.length = k + 1
 | 0 => rfl
 | k + 1 => by simp only [gE, List.length_append, rK s p k, List.length_cons, List.length_nil]
theorem Ar (bs : List UInt8) (d : Int) (n p : Nat) : (dP bs d (n : Int) p).1.length = n + 1 := rK _ _ _
theorem Dd (bs : List UInt8) (d : Int) (k p : Nat) : dP bs d ((k + 1 : Nat) : Int) p = ((dP bs d (k : Int) p).1 ++ [(eD bs d (dP bs d (k : Int) p).2).1], (eD bs d (dP bs d (k : Int) p).2).2) := rfl
theorem jG {xs : List AL.Stmt} {m : Nat} {s : AL.Stmt} (hm : m = xs.length) : ((aI bB xs).drop 0).take (m * 6) ++ [iv s.op, iv s.x, iv s.y, iv s.n, sl bB s.th, sl bB s.el] = aI bB (xs ++ [s]) := gD hm (dJ s).symm
def Gi (s : AL.Stmt) (a : Int) : AL.Stmt := .mk a s.x s.y s.n s.th s.el
def uX (s : AL.Stmt) (a : Int) : AL.Stmt := .mk s.op a s.y s.n s.th s.el
def uY (s : AL.Stmt) (a : Int) : AL.Stmt := .mk s.op s.x a s.n s.th s.el
def uN (s : AL.Stmt) (a : Int) : AL.Stmt := .mk s.op s.x s.y a s.th s.el
theorem EG {xs : List AL.Stmt} {k : Nat} {a : Int} (hk : k < xs.length) : gO (aI bB xs) (0 + k * 6 + 0) [iv a] = aI bB (xs.set k (Gi xs[k]! a)) := dZ hk (by simp) (by rw [dJ, dJ]; rfl)
theorem F1 {xs : List AL.Stmt} {k : Nat} {a : Int} (hk : k < xs.length) : gO (aI bB xs) (0 + k * 6 + 1) [iv a] = aI bB (xs.set k (uX xs[k]! a)) := dZ hk (by simp) (by rw [dJ, dJ]; rfl)
theorem FY {xs : List AL.Stmt} {k : Nat} {a : Int} (hk : k < xs.length) : gO (aI bB xs) (0 + k * 6 + 2) [iv a] = aI bB (xs.set k (uY xs[k]! a)) := dZ hk (by simp) (by rw [dJ, dJ]; rfl)
theorem F0 {xs : List AL.Stmt} {k : Nat} {a : Int} (hk : k < xs.length) : gO (aI bB xs) (0 + k * 6 + 3) [iv a] = aI bB (xs.set k (uN xs[k]! a)) := dZ hk (by simp) (by rw [dJ, dJ]; rfl)
theorem rY (bs : List UInt8) {d : Int} (h : d ≤ 2) (n : Int) (p : Nat) : (dP bs d n p).2 ≤ p + 1 + n.toNat * 43 := r9 (Bn bs h) _ _ _
theorem D5 (bs : List UInt8) {d : Int} (h : d ≤ 2) (n : Int) (p : Nat) : bO (dP bs d n p).1 ≤ 1 + n.toNat * 13 := by
 have h7 : c9 (st 2 1 0 (cJ bs p 10)) = 1 := by simp [st, c9, bO]
 have := sV (Fe bs h) (st 2 1 0 (cJ bs p 10)) (p + 1) n.toNat
 rw [h7] at this
 exact this
theorem wP (bs : List UInt8) {d : Int} (h : 0 < d) (p : Nat) : eD bs d p = 
  let c := cJ bs (p + 1 + 1) 11
  if c = 9 then
   let r := dP bs (d - 1) (cJ bs (p + 1 + 1 + 1) 3) (p + 1 + 1 + 1 + 1)
   let e := eD bs 0 r.2
   (.mk 9 0 0 0 r.1 [e.1], e.2)
  else if c = 10 then
   let a := eD bs 0 (p + 1 + 1 + 1)
   let b := eD bs 0 a.2
   (.mk 10 0 0 0 [a.1, b.1] [], b.2)
  else iJ bs p := by
 have : d.toNat = (d - 1).toNat + 1 := by omega
 simp only [eD, this, pY, dP]
 rfl
theorem FP (s : AL.Stmt) : aI bB [s] = [iv s.op, iv s.x, iv s.y, iv s.n, sl bB s.th, sl bB s.el] := by simp [aI, dJ]
theorem Ge (s t : AL.Stmt) : aI bB [s, t] = [iv s.op, iv s.x, iv s.y, iv s.n, sl bB s.th, sl bB s.el, iv t.op, iv t.x, iv t.y, iv t.n, sl bB t.th, sl bB t.el] := by simp [aI, dJ]
theorem ED (bs : List UInt8) {d : Int} (h0 : 0 ≤ d) (p : Nat) (h : ¬ 0 < d ∨ (cJ bs (p + 1 + 1) 11 ≠ 9 ∧ cJ bs (p + 1 + 1) 11 ≠ 10)) : eD bs d p = iJ bs p := by
 by_cases hd : 0 < d
 ·rw [wP bs hd p]
  dsimp only
  rw [if_neg (by omega), if_neg (by omega)]
 ·have : d = 0 := by omega
  subst this;rfl
theorem Fi (bs : List UInt8) {d : Int} (hd : 0 < d) (p : Nat) (h : cJ bs (p + 1 + 1) 11 = 9) : eD bs d p = (.mk 9 0 0 0 (dP bs (d - 1) (cJ bs (p + 1 + 1 + 1) 3) (p + 1 + 1 + 1 + 1)).1 [(eD bs 0 (dP bs (d - 1) (cJ bs (p + 1 + 1 + 1) 3) (p + 1 + 1 + 1 + 1)).2).1], (eD bs 0 (dP bs (d - 1) (cJ bs (p + 1 + 1 + 1) 3) (p + 1 + 1 + 1 + 1)).2).2) := by
 rw [wP bs hd p]
 dsimp only
 rw [if_pos h]
theorem DV (bs : List UInt8) {d : Int} (hd : 0 < d) (p : Nat) (h : cJ bs (p + 1 + 1) 11 = 10) : eD bs d p = (.mk 10 0 0 0 [(eD bs 0 (p + 1 + 1 + 1)).1, (eD bs 0 (eD bs 0 (p + 1 + 1 + 1)).2).1] [], (eD bs 0 (eD bs 0 (p + 1 + 1 + 1)).2).2) := by
 rw [wP bs hd p]
 dsimp only
 rw [if_neg (by omega), if_pos h]
theorem uB {bs : List UInt8} {p : Nat} {ts : List Int} {dp : Int} {N : Nat} {Q : Exit → AS → Prop} {all : Array Oper} {rest : List Oper} {tsl : List (Nat × AV)} {hsl : List (Nat × Option (List AV))} {nidl : Nat} {z0 : Lo} {md : Md} {d : Nat} {ty : TypeId} {pos : String} {af : Array Edge} {tys : Array TypeId} {x0 x1 x2 : Operand} {i0 : Nat} (ha0 : ev (lk tsl) x0 = some (.optr i0 0)) (ha1 : ev (lk tsl) x1 = some (sl cI ts)) (ha2 : ev (lk tsl) x2 = some (iv dp)) (hH0 : b8 hsl i0 = some (eF bs p)) (hmc : MC Tryz.prog 183 [.optr 0 0, sl cI ts, iv dp] [(0, some (eF bs p))] 1 (fun _ : Unit => True) (fun _ => eL (eD bs dp p).1) (fun _ => [(0, some (eF bs (eD bs dp p).2))])) (hM : Nat.ble (nidl + 0) dR = true) (hN : Nat.blt d N = true) {md' : Md} [hmd : MdA md (e7 [x0, x1, x2] ++ [.inr i0]) (List.map Sum.inr (List.map Prod.fst ([(i0, some (eF bs (eD bs dp p).2))] : List (Nat × Option (List AV)))) ++ [.inl d]) md'] (kk : RW Tryz.prog N all Q md' rest ⟨(d, eL (eD bs dp p).1) :: tsl, fS hsl [(i0, some (eF bs (eD bs dp p).2))], nidl + 0, z0⟩) : RW Tryz.prog N all Q md (⟨some d, .call ⟨.value (.func 183), #[x0, x1, x2], tys⟩, ty, pos, af, none⟩ :: rest) ⟨tsl, hsl, nidl, z0⟩ := by
 refine bP [i0] 1 [(i0, some (eF bs (eD bs dp p).2))] hmc (avs := [.optr i0 0, sl cI ts, iv dp]) ?_ rfl ?_ rfl ?_ (by simpa using hM) ?_ ?_ ?_ hN (md' := md') (hmd := hmd) kk
 ·show evL (lk tsl) [x0, x1, x2] = _
  simp only [evL, ha0, ha1, ha2]
 ·exact ⟨⟨_, _, rfl, hH0, by (repeat' (exact RnL.purI inferInstance))⟩, trivial⟩
 ·(repeat' (first|exact RnL.purI inferInstance|exact RnV.optr rfl|refine RnL.cons ?_ ?_))
 ·(repeat' (exact RnV.purI inferInstance))
 ·simp [cZ]
 ·(repeat' (first|exact trivial|(refine And.intro ⟨0, _, rfl, rfl, ?_⟩ ?_)|exact RnL.purI inferInstance))
theorem qP {bs : List UInt8} {p : Nat} {ts : List Int} {dp cn : Int} {N : Nat} {Q : Exit → AS → Prop} {all : Array Oper} {rest : List Oper} {tsl : List (Nat × AV)} {hsl : List (Nat × Option (List AV))} {nidl : Nat} {z0 : Lo} {md : Md} {d : Nat} {ty : TypeId} {pos : String} {af : Array Edge} {tys : Array TypeId} {x0 x1 x2 x3 : Operand} {i0 : Nat} (ha0 : ev (lk tsl) x0 = some (.optr i0 0)) (ha1 : ev (lk tsl) x1 = some (sl cI ts)) (ha2 : ev (lk tsl) x2 = some (iv dp)) (ha3 : ev (lk tsl) x3 = some (iv cn)) (hH0 : b8 hsl i0 = some (eF bs p)) (hmc : MC Tryz.prog 128 [.optr 0 0, sl cI ts, iv dp, iv cn] [(0, some (eF bs p))] 1 (fun _ : Unit => True) (fun _ => sl bB (dP bs dp cn p).1) (fun _ => [(0, some (eF bs (dP bs dp cn p).2))])) (hM : Nat.ble (nidl + 0) dR = true) (hN : Nat.blt d N = true) {md' : Md} [hmd : MdA md (e7 [x0, x1, x2, x3] ++ [.inr i0]) (List.map Sum.inr (List.map Prod.fst ([(i0, some (eF bs (dP bs dp cn p).2))] : List (Nat × Option (List AV)))) ++ [.inl d]) md'] (kk : RW Tryz.prog N all Q md' rest ⟨(d, sl bB (dP bs dp cn p).1) :: tsl, fS hsl [(i0, some (eF bs (dP bs dp cn p).2))], nidl + 0, z0⟩) : RW Tryz.prog N all Q md (⟨some d, .call ⟨.value (.func 128), #[x0, x1, x2, x3], tys⟩, ty, pos, af, none⟩ :: rest) ⟨tsl, hsl, nidl, z0⟩ := by
 refine bP [i0] 1 [(i0, some (eF bs (dP bs dp cn p).2))] hmc (avs := [.optr i0 0, sl cI ts, iv dp, iv cn]) ?_ rfl ?_ rfl ?_ (by simpa using hM) ?_ ?_ ?_ hN (md' := md') (hmd := hmd) kk
 ·show evL (lk tsl) [x0, x1, x2, x3] = _
  simp only [evL, ha0, ha1, ha2, ha3]
 ·exact ⟨⟨_, _, rfl, hH0, by (repeat' (exact RnL.purI inferInstance))⟩, trivial⟩
 ·(repeat' (first|exact RnL.purI inferInstance|exact RnV.optr rfl|refine RnL.cons ?_ ?_))
 ·(repeat' (exact RnV.purI inferInstance))
 ·simp [cZ]
 ·(repeat' (first|exact trivial|(refine And.intro ⟨0, _, rfl, rfl, ?_⟩ ?_)|exact RnL.purI inferInstance))
attribute [local irreducible] cJ
theorem tO (D : Int) (hD0 : 0 ≤ D) (hD : D ≤ 2) (l1One_ih : ∀ bs p ts, 0 < D → bs.length ≤ 2000 → p ≤ 900000 → ∀ dp : Int, dp = 0 → MC Tryz.prog 183 [.optr 0 0, sl cI ts, iv dp] [(0, some (eF bs p))] 1 (fun _ : Unit => True) (fun _ => eL (eD bs dp p).1) (fun _ => [(0, some (eF bs (eD bs dp p).2))])) (l1Some_ih : ∀ bs (p : Nat) ts cn, 0 < D → bs.length ≤ 2000 → (p : Int) ≤ 850000 - 100000 * (D - 1) → 0 ≤ cn → cn ≤ 2 → ∀ dp : Int, dp = D - 1 → MC Tryz.prog 128 [.optr 0 0, sl cI ts, iv dp, iv cn] [(0, some (eF bs p))] 1 (fun _ : Unit => True) (fun _ => sl bB (dP bs dp cn p).1) (fun _ => [(0, some (eF bs (dP bs dp cn p).2))])) (bs : List UInt8) (p : Nat) (ts : List Int) (dp : Int) (hd : dp = D) (hb : bs.length ≤ 2000) (hp : (p : Int) ≤ 900000 - 100000 * D) : MC Tryz.prog 183 [.optr 0 0, sl cI ts, iv dp] [(0, some (eF bs p))] 1 (fun _ : Unit => True) (fun _ => eL (eD bs dp p).1) (fun _ => [(0, some (eF bs (eD bs dp p).2))]) := by
 subst hd
 have h0 := eZ bs p 2
 have h2 := eZ bs (p + 1 + 1) 11
 have h3 := eZ bs (p + 1 + 1 + 1) 3
 have h3' := k3 bs (p + 1 + 1 + 1)
 have h4 := Bn bs (d := 0) (by omega) (p + 1 + 1 + 1)
 have h5 := rY bs (d := dp - 1) (by omega) (cJ bs (p + 1 + 1 + 1) 3) (p + 1 + 1 + 1 + 1)
 have h6 : (cJ bs (p + 1 + 1 + 1) 3).toNat * 43 ≤ 2 * 43 := Nat.mul_le_mul_right _ h3'
 (refine bK Tryz.func183 rfl (by simp [Tryz.ntmps183]) ?_; rw [Tryz.ntmps183])
 repeat' (first|(apply aL;first|(apply aE;rfl;rfl)|(first|(apply bN;rfl;rfl;omega;rfl)|(apply iB;rfl;rfl;omega;rfl)|(apply aU;rfl;rfl;rfl;rfl))|(apply aC;rfl;rfl)|(first|(apply E5;rfl;rfl;infer_instance;rfl;(rfl);assumption;omega;(decide);(decide);rfl;rfl)|(apply kL;rfl;rfl;(rfl);(apply mG <;> (first|assumption|omega));rfl;rfl)|(apply qP;rfl;rfl;rfl;rfl;(rfl);(apply l1Some_ih <;> (first|assumption|omega));rfl;rfl)|(apply uB;rfl;rfl;rfl;(rfl);(apply l1One_ih <;> (first|assumption|omega));rfl;rfl))|(apply aF;kernel_rfl)|(apply bY;rfl;(exact (rfl:_=some [_, _, _, _, _, _]));(exact (rfl:_=[_, _, _, _, _, _]));rfl)|(apply bD;rfl;rfl)|((apply bF (t := _));(case hze|hsm|hl => rfl);(case hfl => (first|exact (rfl:_=some [_, _, _])|exact (rfl:_=some [_, _, _, _])|exact (rfl:_=some [_, _, _, _, _])|exact (rfl:_=some [_, _, _, _, _, _])|rfl));(case hM|hN => rfl))|(apply aW;rfl;rfl;rfl;rfl;rfl;(case hl => (simp;done));(exact (rfl:_=[_, _, _, _, _, _]))))|(apply aM;first|apply aH|apply aB|(apply bR;rfl;(assumption))|(apply aQ;rfl;all_goals intro hc;have hq:=hc;(try simp only [cC] at hq);try exfalso;omega)|apply aN|apply aV|apply aO)|with_reducible apply aA|with_reducible apply a8|with_reducible apply aX|with_reducible apply cA)
 all_goals try (refine aK rfl ?_; refine bG () trivial ?_ ⟨.inr (Eq.trans (b := some _) rfl ?_), trivial⟩)
 all_goals try (rw [ED bs hD0 p (by omega)]; unfold iJ; dsimp only; repeat' split
                all_goals (first|rfl|(exfalso;omega));done)
 iterate 2
  rewrite [Fi bs (d := dp) (by assumption) p (by assumption)]
  first|rfl|(refine Eq.trans (b := AV.agg [_, _, _, _, _, AV.imm 1 (aI bB [_])]) ?_ rfl;rw [FP]; rfl)
 iterate 2
  rewrite [DV bs (d := dp) (by omega) p (by omega)]
  first|rfl|(refine Eq.trans (b := AV.agg [_, _, _, _, AV.imm 2 (aI bB [_, _]), _]) ?_ rfl;rw [Ge]; rfl)
theorem qL (D : Int) (hD0 : 0 ≤ D) (hD : D ≤ 2) (l1One_ih : ∀ bs (p : Nat) ts, bs.length ≤ 2000 → (p : Int) ≤ 900000 - 100000 * D → ∀ dp : Int, dp = D → MC Tryz.prog 183 [.optr 0 0, sl cI ts, iv dp] [(0, some (eF bs p))] 1 (fun _ : Unit => True) (fun _ => eL (eD bs dp p).1) (fun _ => [(0, some (eF bs (eD bs dp p).2))])) (bs : List UInt8) (p : Nat) (ts : List Int) (dp : Int) (hd : dp = D) (cn : Int) (hb : bs.length ≤ 2000) (hp : (p : Int) ≤ 850000 - 100000 * D) (hc0 : 0 ≤ cn) (hc : cn ≤ 8) : MC Tryz.prog 128 [.optr 0 0, sl cI ts, iv dp, iv cn] [(0, some (eF bs p))] 1 (fun _ : Unit => True) (fun _ => sl bB (dP bs dp cn p).1) (fun _ => [(0, some (eF bs (dP bs dp cn p).2))]) := by
 subst hd
 (refine bK Tryz.func128 rfl (by simp [Tryz.ntmps128]) ?_; rw [Tryz.ntmps128])
 repeat' (first|(apply aL;first|(apply aE;rfl;rfl)|(apply aC;rfl;rfl)|(apply kL;rfl;rfl;(rfl);(apply mG <;> (first|assumption|omega));rfl;rfl)|(apply aF;kernel_rfl)|(apply bY;rfl;(exact (rfl:_=some [_, _, _, _, _, _]));(exact (rfl:_=[_, _, _, _, _, _]));rfl)|(apply bQ;rfl;rfl;rfl;(exact (rfl:_=some [_, _, _, _, _, _]));rfl;rfl))|(apply aM;first|apply aH|apply aB|apply aN)|with_reducible apply aA)
 refine bL (σ := Nat × List AL.Stmt × Nat) [0, 1, 2, 3] [(0, _), (1, _), (2, _), (3, _)] [] [] (fun k => [(10, iv (k.1 : Int)), (9, .own 1 0 (k.1 + 1) 6)]) (fun k => [(0, some (eF bs k.2.2)), (1, some (aI bB k.2.1))]) (fun k => (k.1 : Int) ≤ cn ∧ k.2 = dP bs dp (k.1 : Int) p) (fun k => cn.toNat - k.1) (0, [st 2 1 0 (cJ bs p 10)], p + 1) ⟨by omega, rfl⟩ rfl rfl (by repeat' (first|exact trivial|refine And.intro rfl ?_)) (by repeat' (first|exact trivial|refine And.intro (.inr rfl) ?_)) ?_
 rintro ⟨k, xs, q⟩ ⟨hk, hse⟩
 dsimp only at hk hse ⊢
 have hp2 := rY bs (d := dp) (by omega) (k : Int) p
 have hkk : (k : Int).toNat * 43 ≤ 8 * 43 := Nat.mul_le_mul_right _ (by omega)
 have hln := Ar bs dp k p
 rw [← hse] at hp2 hln
 dsimp only at hp2 hln
 repeat' (first|(apply aL;first|(apply aE;rfl;rfl)|(first|(apply bN;rfl;rfl;omega;rfl)|(apply aU;rfl;rfl;rfl;rfl))|(apply aC;rfl;rfl)|(apply uB;rfl;rfl;rfl;(rfl);(apply l1One_ih <;> (first|assumption|omega));rfl;rfl)|(apply bV;rfl;rfl;rfl;rfl;rfl;(rw [aT]; omega);(rfl);omega;omega;(exact jG (by (omega)));rfl;rfl)|(apply aF;kernel_rfl)|((apply bF (t := _));(case hze|hsm|hl => rfl);(case hfl => (exact (rfl:_=some [_, _, _, _, _, _])));(case hM|hN => rfl)))|(apply aM;first|apply aH|apply aB|(apply aQ;rfl;all_goals intro hc;have hq:=hc;(try simp only [cC] at hq);try exfalso;omega)|apply aN|apply aV|apply bS|apply aO)|with_reducible apply aA|with_reducible apply bU|with_reducible apply aX|with_reducible apply bT)
 ·(apply dG (k + 1, _, _); focus (refine Le.ren [(1, 3)] rfl (by decide) ?_ ?_ <;> repeat' (first | exact trivial | refine And.intro ⟨_, rfl, ?_⟩ ?_ | refine And.intro ⟨_, _, rfl, rfl, ?_⟩ ?_ | exact Or.inr rfl | refine Or.inl ⟨?_, (by first | rfl | exact bH _ _ | exact Pur.pf)⟩ | rfl)))
  ·dsimp only
   refine ⟨by omega, ?_⟩
   rw [Dd, ← hse]
  ·dsimp only;omega
 ·have hke : (k : Int) = cn := by omega
  rw [hke] at hse
  (refine b0 (Le.frzD (d := 8) (i := 1) rfl rfl) ?_; refine aK rfl ?_)
  refine bG () trivial ?_ ⟨.inr (Eq.trans (b := some _) rfl ?_), trivial⟩
  ·rw [← hse]; show AV.imm (k + 1) (aI bB xs) = AV.imm xs.length (aI bB xs)
   rw [hln]
  ·rw [← hse]
theorem lA : ∀ D : Nat, D ≤ 2 → (∀ bs (p : Nat) ts, bs.length ≤ 2000 → (p : Int) ≤ 900000 - 100000 * (D : Int) → ∀ dp : Int, dp = (D : Int) → MC Tryz.prog 183 [.optr 0 0, sl cI ts, iv dp] [(0, some (eF bs p))] 1 (fun _ : Unit => True) (fun _ => eL (eD bs dp p).1) (fun _ => [(0, some (eF bs (eD bs dp p).2))])) ∧ (∀ bs (p : Nat) ts (cn : Int), bs.length ≤ 2000 → (p : Int) ≤ 850000 - 100000 * (D : Int) → 0 ≤ cn → cn ≤ 8 → ∀ dp : Int, dp = (D : Int) → MC Tryz.prog 128 [.optr 0 0, sl cI ts, iv dp, iv cn] [(0, some (eF bs p))] 1 (fun _ : Unit => True) (fun _ => sl bB (dP bs dp cn p).1) (fun _ => [(0, some (eF bs (dP bs dp cn p).2))]))
 | 0, _ => by
  have h1 : ∀ bs (p : Nat) ts, bs.length ≤ 2000 → (p : Int) ≤ 900000 - 100000 * ((0 : Nat) : Int) → ∀ dp : Int, dp = ((0 : Nat) : Int) → MC Tryz.prog 183 [.optr 0 0, sl cI ts, iv dp] [(0, some (eF bs p))] 1 (fun _ : Unit => True) (fun _ => eL (eD bs dp p).1) (fun _ => [(0, some (eF bs (eD bs dp p).2))]) :=
   fun bs p ts hb hp dp hd => tO ((0 : Nat) : Int) (by omega) (by omega) (fun _ _ _ h => by omega) (fun _ _ _ _ h => by omega) bs p ts dp hd hb hp
  exact ⟨h1, fun bs p ts cn hb hp h0 h8 dp hd => qL ((0 : Nat) : Int) (by omega) (by omega) h1 bs p ts dp hd cn hb hp h0 h8⟩
 | D + 1, hD => by
  have ih := lA D (by omega)
  have i0 := lA 0 (by omega)
  have h1 : ∀ bs (p : Nat) ts, bs.length ≤ 2000 → (p : Int) ≤ 900000 - 100000 * ((D + 1 : Nat) : Int) → ∀ dp : Int, dp = ((D + 1 : Nat) : Int) → MC Tryz.prog 183 [.optr 0 0, sl cI ts, iv dp] [(0, some (eF bs p))] 1 (fun _ : Unit => True) (fun _ => eL (eD bs dp p).1) (fun _ => [(0, some (eF bs (eD bs dp p).2))]) :=
   fun bs p ts hb hp dp hd => tO ((D + 1 : Nat) : Int) (by omega) (by omega) (fun bs p ts _ hb hp dp hd => i0.1 bs p ts hb (by omega) dp (by omega)) (fun bs p ts cn _ hb hp h0 h2 dp hd => ih.2 bs p ts cn hb (by omega) h0 (by omega) dp (by omega)) bs p ts dp hd hb hp
  exact ⟨h1, fun bs p ts cn hb hp h0 h8 dp hd => qL ((D + 1 : Nat) : Int) (by omega) (by omega) h1 bs p ts dp hd cn hb hp h0 h8⟩
theorem CD (bs : List UInt8) (p : Nat) (ts : List Int) (dp cn : Int) (hb : bs.length ≤ 2000) (hp : p ≤ 600000) (h0 : 0 ≤ cn) (h8 : cn ≤ 8) (hd0 : 0 ≤ dp) (hd : dp ≤ 2) : MC Tryz.prog 128 [.optr 0 0, sl cI ts, iv dp, iv cn] [(0, some (eF bs p))] 1 (fun _ : Unit => True) (fun _ => sl bB (dP bs dp cn p).1) (fun _ => [(0, some (eF bs (dP bs dp cn p).2))]) :=
 (lA dp.toNat (by omega)).2 bs p ts cn hb (by omega) h0 h8 dp (by omega)
end Go.Proofs.YtckihjkcgfphmaaGreat
namespace Go.Proofs.YtckihjkcgfphmaaGreat
open Go.AL Go.RowKit
theorem yI {w : World} {bad : Nat → Prop} {ι : Pl} : ∀ {cs cs' : List AV}, All2 (fun c c' => c' = c ∨ c' = mU c) cs cs' → ∀ {b β : Nat}, RdC w bad ι cs b β → RdC w bad ι cs' b β
 | _, _, .nil, _, _, h => h
 | _, _, .cons h1 h2, b, β, h => by
  simp only [RdC] at h ⊢
  obtain ⟨⟨x, q1, q2, q3⟩, q4⟩ := h
  refine ⟨⟨x, q1, q2, ?_⟩, yI h2 q4⟩
  rcases h1 with rfl|rfl
  ·exact q3
  ·exact k5 q3
theorem xW : ∀ (l : List AV) {a b : List AV}, All2 (fun c c' => c' = c ∨ c' = mU c) a b → All2 (fun c c' => c' = c ∨ c' = mU c) (l ++ a) (l ++ b)
 | [], _, _, h => h
 | _ :: l, _, _, h => .cons (.inl rfl) (xW l h)
theorem mA {α : Type} {p q : α → Prop} {F : α → AS} {s s' : AS} (L : Le s s') (h : ∃ j, p j ∧ q j ∧ Le s' (F j)) : ∃ j, p j ∧ q j ∧ Le s (F j) := by
 obtain ⟨j, h1, h2, h3⟩ := h
 exact ⟨j, h1, h2, L.trans h3⟩
theorem Le.stmtN {ts : List (Nat × AV)} {hs : List (Nat × Option (List AV))} {n i : Nat} {z0 : Lo} {xs : List AL.Stmt} (s : AL.Stmt) {m : Nat} {a b : AV} (hm : m = xs.length)
  (ha : a = sl bB s.th ∨ (a = .v (.slice none 0 0) ∧ s.th = [])) (hb : b = sl bB s.el ∨ (b = .v (.slice none 0 0) ∧ s.el = []))
  (hi : b8 hs i = some (((aI bB xs).drop 0).take (m * 6) ++ List.take (1 * 6) [iv s.op, iv s.x, iv s.y, iv s.n, a, b])) : Le ⟨ts, hs, n, z0⟩ ⟨ts, (i, some (aI bB (xs ++ [s]))) :: hs, n, z0⟩ := by
 have e : aI bB (xs ++ [s]) = ((aI bB xs).drop 0).take (m * 6) ++ [iv s.op, iv s.x, iv s.y, iv s.n, sl bB s.th, sl bB s.el] := (jG hm).symm
 have k : All2 (fun c c' => c' = c ∨ c' = mU c) (((aI bB xs).drop 0).take (m * 6) ++ List.take (1 * 6) [iv s.op, iv s.x, iv s.y, iv s.n, a, b]) (aI bB (xs ++ [s])) := by
  rw [e]
  refine xW _ (.cons (.inl rfl) (.cons (.inl rfl) (.cons (.inl rfl) (.cons (.inl rfl) (.cons ?_ (.cons ?_ .nil))))))
  ·rcases ha with h | ⟨h, h2⟩
   ·exact .inl h.symm
   ·refine .inr ?_; rw [h2, h]; rfl
  ·rcases hb with h | ⟨h, h2⟩
   ·exact .inl h.symm
   ·refine .inr ?_; rw [h2, h]; rfl
 refine Le.cells hi ?_ fun w bad ι b β h => yI k h
 rw [e]; simp
theorem yW (mm : Nat) (hmm : mm ≤ 1000000) (copy_ih : ∀ l, bO l < mm → PC Tryz.prog 180 [sl bB l] (fun r => r = sl bB l)) (l : List AL.Stmt) (hs : bO l ≤ mm) : PC Tryz.prog 180 [sl bB l] (fun r => r = sl bB l) := by
 have hlen := dX l
 (refine aS Tryz.func180 rfl (by simp [Tryz.ntmps180]) ?_; rw [Tryz.ntmps180])
 repeat' (first|(apply aL;first|(apply aC;rfl;rfl)|(apply aF;kernel_rfl)|(apply bQ;rfl;rfl;rfl;(rfl);rfl;rfl))|(apply aM;first|apply aH|apply aB|apply aN)|with_reducible apply aA)
 refine bL (σ := Nat × List AL.Stmt) [0] [(0, _)] [] [] (fun k => [(4, iv (k.1 : Int)), (3, .own 0 0 k.1 6)]) (fun k => [(0, some (aI bB k.2))]) (fun k => k.1 ≤ l.length ∧ k.2 = l.take k.1) (fun k => l.length - k.1) (0, []) ⟨by omega, rfl⟩ rfl rfl (by repeat' (first|exact trivial|refine And.intro rfl ?_)) (by repeat' (first|exact trivial|refine And.intro (.inr rfl) ?_)) ?_
 rintro ⟨k, xs⟩ ⟨hk, hxs⟩
 dsimp only at hk hxs ⊢
 have hck := fF l k
 have hct := jL l[k]!
 have hln : xs.length = k := by rw [hxs, List.length_take]; omega
 repeat' (first|(apply aL;first|(apply aE;rfl;rfl)|(first|(apply aP;rfl;rfl;rfl;rfl)|(apply aR;rfl;rfl;(exact (rfl:_=[_, _, _, _, _, _]));rfl;rfl;rfl))|(apply aD;rfl;rfl;rfl)|(first|(apply bN;rfl;rfl;omega;rfl)|(apply aU;rfl;rfl;rfl;rfl))|(apply aC;rfl;rfl)|(apply bI;(case hx|hi => rfl);(case hm => (omega));(case hml => (rfl));(case hα | hf|hg => infer_instance);(case hN => rfl))|((with_reducible apply aJ (k := 180));(case ha => rfl);(case h => (apply copy_ih <;> (omega)));(case hp => (exact Pur.pf));(case hN => rfl))|(first|(apply bM;rfl;rfl;rfl)|(apply bV;rfl;rfl;rfl;rfl;rfl;(rw [aT]; omega);(rfl);omega;omega;(first|exact jG (by (omega))|rfl);rfl;rfl))|(apply aF;kernel_rfl)|(apply bD;rfl;rfl)|((apply bF (t := _));(case hze|hsm|hl => rfl);(case hfl => (exact (rfl:_=some [_, _, _, _, _, _])));(case hM|hN => rfl))|(apply aW;rfl;rfl;rfl;rfl;rfl;(case hl => (simp;done));(exact (rfl:_=[_, _, _, _, _, _]))))|(apply aM;first|apply aH|apply aB|(apply aQ;rfl;all_goals intro hc;have hq:=hc;(try simp only [cC] at hq);try exfalso;omega)|apply aN|apply aV|apply bS|apply aO)|with_reducible apply aA|with_reducible apply bU|with_reducible apply aX|with_reducible apply bT)
 ·(apply dG (k + 1, _); focus (refine Le.ren [(0, 3)] rfl (by decide) ?_ ?_ <;> repeat' (first | exact trivial | refine And.intro ⟨_, rfl, ?_⟩ ?_ | refine And.intro ⟨_, _, rfl, rfl, ?_⟩ ?_ | exact Or.inr rfl | refine Or.inl ⟨?_, (by first | rfl | exact bH _ _)⟩ | rfl)))
  ·exact ⟨by dsimp only;omega, by dsimp only;rw [hxs, cQ l k (by omega)]⟩
  ·dsimp only;omega
 ·have hel : l[k]!.el = [] := List.eq_nil_of_length_eq_zero (by omega)
  refine mA (Le.stmtN (i := 3) l[k]! hln.symm (.inl rfl) (.inr ⟨rfl, hel⟩) rfl) ?_
  (apply dG (k + 1, _);focus (refine Le.ren [(0, 3)] rfl (by decide) ?_ ?_ <;> repeat' (first|exact trivial|refine And.intro ⟨_, rfl, ?_⟩ ?_|refine And.intro ⟨_, _, rfl, rfl, ?_⟩ ?_|exact Or.inr rfl|refine Or.inl ⟨?_, (by first|rfl|exact bH _ _)⟩|rfl)))
  ·exact ⟨by dsimp only;omega, by dsimp only;rw [hxs, cQ l k (by omega)]⟩
  ·dsimp only;omega
 ·have hth : l[k]!.th = [] := List.eq_nil_of_length_eq_zero (by omega)
  refine mA (Le.stmtN (i := 3) l[k]! hln.symm (.inr ⟨rfl, hth⟩) (.inl rfl) rfl) ?_
  (apply dG (k + 1, _);focus (refine Le.ren [(0, 3)] rfl (by decide) ?_ ?_ <;> repeat' (first|exact trivial|refine And.intro ⟨_, rfl, ?_⟩ ?_|refine And.intro ⟨_, _, rfl, rfl, ?_⟩ ?_|exact Or.inr rfl|refine Or.inl ⟨?_, (by first|rfl|exact bH _ _)⟩|rfl)))
  ·exact ⟨by dsimp only;omega, by dsimp only;rw [hxs, cQ l k (by omega)]⟩
  ·dsimp only;omega
 ·have hth : l[k]!.th = [] := List.eq_nil_of_length_eq_zero (by omega)
  have hel : l[k]!.el = [] := List.eq_nil_of_length_eq_zero (by omega)
  refine mA (Le.stmtN (i := 3) l[k]! hln.symm (.inr ⟨rfl, hth⟩) (.inr ⟨rfl, hel⟩) rfl) ?_
  (apply dG (k + 1, _);focus (refine Le.ren [(0, 3)] rfl (by decide) ?_ ?_ <;> repeat' (first|exact trivial|refine And.intro ⟨_, rfl, ?_⟩ ?_|refine And.intro ⟨_, _, rfl, rfl, ?_⟩ ?_|exact Or.inr rfl|refine Or.inl ⟨?_, (by first|rfl|exact bH _ _)⟩|rfl)))
  ·exact ⟨by dsimp only;omega, by dsimp only;rw [hxs, cQ l k (by omega)]⟩
  ·dsimp only;omega
 ·have hke : k = l.length := by omega
  (refine b0 (Le.frzD (d := 2) (i := 0) rfl rfl) ?_; refine aK rfl ?_)
  refine ⟨?_, Pur.pf⟩
  rw [hxs, hke, List.take_length]; rfl
theorem Fw (l : List AL.Stmt) (hb : bO l ≤ 1000000) : PC Tryz.prog 180 [sl bB l] (fun r => r = sl bB l) := by
 have key : ∀ m, m ≤ 1000000 → ∀ l, bO l ≤ m → PC Tryz.prog 180 [sl bB l] (fun r => r = sl bB l) := by
  intro m
  induction m with
  | zero => intro hm l hl;exact yW 0 hm (fun l h => by omega) l hl
  | succ m ih => intro hm l hl;exact yW (m + 1) hm (fun l h => ih (by omega) l (by omega)) l hl
 exact key (bO l) hb l (Nat.le_refl _)
theorem DG (l : List AL.Stmt) (hs : bO l ≤ 1000000) : MC Tryz.prog 180 [sl bB l] [] 0 (fun _ : Unit => True) (fun _ => .own 0 0 l.length 6) (fun _ => [(0, some (aI bB l))]) := by
 have hlen := dX l
 (refine bK Tryz.func180 rfl (by simp [Tryz.ntmps180]) ?_; rw [Tryz.ntmps180])
 repeat' (first|(apply aL;first|(apply aC;rfl;rfl)|(apply aF;kernel_rfl)|(apply bQ;rfl;rfl;rfl;(rfl);rfl;rfl))|(apply aM;first|apply aH|apply aB|apply aN)|with_reducible apply aA)
 refine bL (σ := Nat × List AL.Stmt) [0] [(0, _)] [] [] (fun k => [(4, iv (k.1 : Int)), (3, .own 0 0 k.1 6)]) (fun k => [(0, some (aI bB k.2))]) (fun k => k.1 ≤ l.length ∧ k.2 = l.take k.1) (fun k => l.length - k.1) (0, []) ⟨by omega, rfl⟩ rfl rfl (by repeat' (first|exact trivial|refine And.intro rfl ?_)) (by repeat' (first|exact trivial|refine And.intro (.inr rfl) ?_)) ?_
 rintro ⟨k, xs⟩ ⟨hk, hxs⟩
 dsimp only at hk hxs ⊢
 have hck := fF l k
 have hct := jL l[k]!
 have hln : xs.length = k := by rw [hxs, List.length_take]; omega
 repeat' (first|(apply aL;first|(apply aE;rfl;rfl)|(first|(apply aP;rfl;rfl;rfl;rfl)|(apply aR;rfl;rfl;(exact (rfl:_=[_, _, _, _, _, _]));rfl;rfl;rfl))|(apply aD;rfl;rfl;rfl)|(first|(apply bN;rfl;rfl;omega;rfl)|(apply aU;rfl;rfl;rfl;rfl))|(apply aC;rfl;rfl)|(apply bI;(case hx|hi => rfl);(case hm => (omega));(case hml => (rfl));(case hα | hf|hg => infer_instance);(case hN => rfl))|((with_reducible apply aJ (k := 180));(case ha => rfl);(case h => (apply Fw <;> (omega)));(case hp => (exact Pur.pf));(case hN => rfl))|(first|(apply bM;rfl;rfl;rfl)|(apply bV;rfl;rfl;rfl;rfl;rfl;(rw [aT]; omega);(rfl);omega;omega;(first|exact jG (by (omega))|rfl);rfl;rfl))|(apply aF;kernel_rfl)|(apply bD;rfl;rfl)|((apply bF (t := _));(case hze|hsm|hl => rfl);(case hfl => (exact (rfl:_=some [_, _, _, _, _, _])));(case hM|hN => rfl))|(apply aW;rfl;rfl;rfl;rfl;rfl;(case hl => (simp;done));(exact (rfl:_=[_, _, _, _, _, _]))))|(apply aM;first|apply aH|apply aB|(apply aQ;rfl;all_goals intro hc;have hq:=hc;(try simp only [cC] at hq);try exfalso;omega)|apply aN|apply aV|apply bS|apply aO)|with_reducible apply aA|with_reducible apply bU|with_reducible apply aX|with_reducible apply bT)
 ·(apply dG (k + 1, _); focus (refine Le.ren [(0, 3)] rfl (by decide) ?_ ?_ <;> repeat' (first | exact trivial | refine And.intro ⟨_, rfl, ?_⟩ ?_ | refine And.intro ⟨_, _, rfl, rfl, ?_⟩ ?_ | exact Or.inr rfl | refine Or.inl ⟨?_, (by first | rfl | exact bH _ _)⟩ | rfl)))
  ·exact ⟨by dsimp only;omega, by dsimp only;rw [hxs, cQ l k (by omega)]⟩
  ·dsimp only;omega
 ·have hel : l[k]!.el = [] := List.eq_nil_of_length_eq_zero (by omega)
  refine mA (Le.stmtN (i := 3) l[k]! hln.symm (.inl rfl) (.inr ⟨rfl, hel⟩) rfl) ?_
  (apply dG (k + 1, _);focus (refine Le.ren [(0, 3)] rfl (by decide) ?_ ?_ <;> repeat' (first|exact trivial|refine And.intro ⟨_, rfl, ?_⟩ ?_|refine And.intro ⟨_, _, rfl, rfl, ?_⟩ ?_|exact Or.inr rfl|refine Or.inl ⟨?_, (by first|rfl|exact bH _ _)⟩|rfl)))
  ·exact ⟨by dsimp only;omega, by dsimp only;rw [hxs, cQ l k (by omega)]⟩
  ·dsimp only;omega
 ·have hth : l[k]!.th = [] := List.eq_nil_of_length_eq_zero (by omega)
  refine mA (Le.stmtN (i := 3) l[k]! hln.symm (.inr ⟨rfl, hth⟩) (.inl rfl) rfl) ?_
  (apply dG (k + 1, _);focus (refine Le.ren [(0, 3)] rfl (by decide) ?_ ?_ <;> repeat' (first|exact trivial|refine And.intro ⟨_, rfl, ?_⟩ ?_|refine And.intro ⟨_, _, rfl, rfl, ?_⟩ ?_|exact Or.inr rfl|refine Or.inl ⟨?_, (by first|rfl|exact bH _ _)⟩|rfl)))
  ·exact ⟨by dsimp only;omega, by dsimp only;rw [hxs, cQ l k (by omega)]⟩
  ·dsimp only;omega
 ·have hth : l[k]!.th = [] := List.eq_nil_of_length_eq_zero (by omega)
  have hel : l[k]!.el = [] := List.eq_nil_of_length_eq_zero (by omega)
  refine mA (Le.stmtN (i := 3) l[k]! hln.symm (.inr ⟨rfl, hth⟩) (.inr ⟨rfl, hel⟩) rfl) ?_
  (apply dG (k + 1, _);focus (refine Le.ren [(0, 3)] rfl (by decide) ?_ ?_ <;> repeat' (first|exact trivial|refine And.intro ⟨_, rfl, ?_⟩ ?_|refine And.intro ⟨_, _, rfl, rfl, ?_⟩ ?_|exact Or.inr rfl|refine Or.inl ⟨?_, (by first|rfl|exact bH _ _)⟩|rfl)))
  ·exact ⟨by dsimp only;omega, by dsimp only;rw [hxs, cQ l k (by omega)]⟩
  ·dsimp only;omega
 ·have hke : k = l.length := by omega
  have hxl : xs = l := by rw [hxs, hke, List.take_length]
  subst hke
  refine aK rfl ?_
  refine bG () trivial ?_ ⟨.inr (Eq.trans (b := some _) rfl ?_), trivial⟩
  ·rfl
  ·rw [hxl]
theorem B5 {l : List AL.Stmt} {N : Nat} {Q : Exit → AS → Prop} {all : Array Oper} {rest : List Oper} {tsl : List (Nat × AV)} {hsl : List (Nat × Option (List AV))} {nidl : Nat} {z0 : Lo} {md : Md} {d : Nat} {ty : TypeId} {pos : String} {af : Array Edge} {tys : Array TypeId} {x0 : Operand} (ha0 : ev (lk tsl) x0 = some (sl bB l)) (hmc : MC Tryz.prog 180 [sl bB l] [] 0 (fun _ : Unit => True) (fun _ => .own 0 0 l.length 6) (fun _ => [(0, some (aI bB l))])) (hM : Nat.ble (nidl + 1) dR = true) (hN : Nat.blt d N = true) {md' : Md} [hmd : MdA md (e7 [x0] ++ []) (List.map Sum.inr (List.map Prod.fst ([(nidl, some (aI bB l))] : List (Nat × Option (List AV)))) ++ [.inl d]) md'] (kk : RW Tryz.prog N all Q md' rest ⟨(d, .own nidl 0 l.length 6) :: tsl, fS hsl [(nidl, some (aI bB l))], nidl + 1, z0⟩) : RW Tryz.prog N all Q md (⟨some d, .call ⟨.value (.func 180), #[x0], tys⟩, ty, pos, af, none⟩ :: rest) ⟨tsl, hsl, nidl, z0⟩ := by
 refine bP [] 1 [(nidl, some (aI bB l))] hmc (avs := [sl bB l]) ?_ rfl ?_ rfl ?_ (by simpa using hM) ?_ ?_ ?_ hN (md' := md') (hmd := hmd) kk
 ·show evL (lk tsl) [x0] = _
  simp only [evL, ha0]
 ·exact trivial
 ·(repeat' (exact RnL.purI inferInstance))
 ·(repeat' (exact RnV.own rfl))
 ·simp [cZ]
 ·(repeat' (first|exact trivial|(refine And.intro ⟨0, _, rfl, rfl, ?_⟩ ?_)|exact RnL.purI inferInstance))
theorem Ab {q : Prg} {N : Nat} {Q : Exit → AS → Prop} {all : Array Oper} {rest : List Oper} {tsl : List (Nat × AV)} {hsl : List (Nat × Option (List AV))} {nidl : Nat} {z0 : Lo} {md : Md} {d : Nat} {ty : TypeId} {pos : String} {af : Array Edge} {tys : Array TypeId} {x0 : Operand} (ha0 : ev (lk tsl) x0 = some (cW q)) (hmc : MC Tryz.prog 125 [cW q] [] 0 (fun _ : Unit => True) (fun _ => .agg [.own 3 0 q.types.length 1, .own 4 0 q.body.length 6]) (fun _ => [(3, some (aI cI q.types)), (4, some (aI bB q.body))])) (hM : Nat.ble (nidl + 5) dR = true) (hN : Nat.blt d N = true) {md' : Md} [hmd : MdA md (e7 [x0] ++ []) (List.map Sum.inr (List.map Prod.fst ([((nidl + 3), some (aI cI q.types)), ((nidl + 4), some (aI bB q.body))] : List (Nat × Option (List AV)))) ++ [.inl d]) md'] (kk : RW Tryz.prog N all Q md' rest ⟨(d, .agg [.own (nidl + 3) 0 q.types.length 1, .own (nidl + 4) 0 q.body.length 6]) :: tsl, fS hsl [((nidl + 3), some (aI cI q.types)), ((nidl + 4), some (aI bB q.body))], nidl + 5, z0⟩) : RW Tryz.prog N all Q md (⟨some d, .call ⟨.value (.func 125), #[x0], tys⟩, ty, pos, af, none⟩ :: rest) ⟨tsl, hsl, nidl, z0⟩ := by
 refine bP [] 5 [((nidl + 3), some (aI cI q.types)), ((nidl + 4), some (aI bB q.body))] hmc (avs := [cW q]) ?_ rfl ?_ rfl ?_ (by simpa using hM) ?_ ?_ ?_ hN (md' := md') (hmd := hmd) kk
 ·show evL (lk tsl) [x0] = _
  simp only [evL, ha0]
 ·exact trivial
 ·(repeat' (exact RnL.purI inferInstance))
 ·(repeat' (first|exact RnL.purI inferInstance|exact RnV.own rfl|refine RnL.cons ?_ ?_|refine RnV.agg ?_))
 ·simp [cZ]
 ·(repeat' (first|exact trivial|(refine And.intro ⟨3, _, rfl, rfl, ?_⟩ ?_)|(refine And.intro ⟨4, _, rfl, rfl, ?_⟩ ?_)|exact RnL.purI inferInstance))
theorem Ch (q : Prg) (hs : bO q.body ≤ 1000000) (ht : q.types.length ≤ 1000000) : MC Tryz.prog 125 [cW q] [] 0 (fun _ : Unit => True) (fun _ => .agg [.own 3 0 q.types.length 1, .own 4 0 q.body.length 6]) (fun _ => [(3, some (aI cI q.types)), (4, some (aI bB q.body))]) := by
 (refine bK Tryz.func125 rfl (by simp [Tryz.ntmps125]) ?_; rw [Tryz.ntmps125])
 repeat' (first|(apply aL;first|(apply B5;rfl;(apply DG;assumption);rfl;rfl)|(apply aP;rfl;rfl;rfl;rfl)|(apply aD;rfl;rfl;rfl)|(apply bV;rfl;rfl;rfl;rfl;rfl;(case hl => (simp [aT]; done));(exact gF (by (rfl)));omega;omega;(exact dW (by (omega)));rfl;rfl)|(apply aF;kernel_rfl)|(apply bY;rfl;(exact (rfl:_=some [_, _]));(exact (rfl:_=[_, _]));rfl)|(apply bA;rfl;rfl;rfl;rfl)|(apply bD;rfl;rfl)|(apply bQ;rfl;rfl;rfl;(rfl);rfl;rfl)|(apply aW;rfl;rfl;rfl;rfl;rfl;(case hl => (simp;done));(exact (rfl:_=[_, _]))))|(apply aM;first|apply aH|apply aB|(apply bZ;kernel_rfl)|apply aO)|with_reducible apply aA)
 refine aK rfl ?_
 refine bG () trivial ?_ ⟨.inr (Eq.trans (b := some _) rfl ?_), .inr (Eq.trans (b := some _) rfl ?_), trivial⟩
 ·show AV.agg [AV.own 3 0 (0 + q.types.length) 1, AV.own 4 0 q.body.length 6] = _
  rw [Nat.zero_add]
 ·rfl
 ·rfl
theorem Cf (s : AL.Stmt) (a : Int) : c9 (Gi s a) = c9 s := by simp [fJ, Gi, AL.Stmt.th, AL.Stmt.el]
theorem Dx (s : AL.Stmt) (a : Int) : c9 (uX s a) = c9 s := by simp [fJ, uX, AL.Stmt.th, AL.Stmt.el]
theorem DE (s : AL.Stmt) (a : Int) : c9 (uY s a) = c9 s := by simp [fJ, uY, AL.Stmt.th, AL.Stmt.el]
theorem Eh (s : AL.Stmt) (a : Int) : c9 (uN s a) = c9 s := by simp [fJ, uN, AL.Stmt.th, AL.Stmt.el]
theorem j8 : ∀ (xs : List AL.Stmt) (k : Nat) (y : AL.Stmt), k < xs.length → c9 y = c9 xs[k]! → bO (xs.set k y) = bO xs
 | [], k, y, h, _ => by simp at h
 | x :: xs, 0, y, _, h => by simp only [List.set_cons_zero, bO]; simp only [List.getElem!_cons_zero] at h;omega
 | x :: xs, k + 1, y, h, h2 => by
  simp only [List.set_cons_succ, bO]
  rw [j8 xs k y (by simpa using h) (by rw [h2]; simp only [List.getElem!_cons_succ])]
theorem vT (s : AL.Stmt) : ∀ k, bO (List.replicate k s) = k * c9 s
 | 0 => by simp [bO]
 | k + 1 => by simp only [List.replicate_succ, bO, vT s k, Nat.succ_mul]; omega
theorem uV : ∀ (xs : List AL.Stmt) (k : Nat), bO (xs.take k ++ xs.drop (k + 1)) ≤ bO xs
 | [], k => by simp [bO]
 | x :: xs, 0 => by simp [bO]
 | x :: xs, k + 1 => by have := uV xs k;simp only [List.take_succ_cons, List.drop_succ_cons, List.cons_append, bO]; omega
theorem nE {T : Nat → Option AV} {x : Operand} {dd : Nat} {k : IntKind} {m : Int} (hx : ev T x = some (.v (.int k m))) (h : 0 ≤ m) : fL T (some x) dd = some m.toNat := by
 simp only [fL, hx]; rw [if_pos h]
section
variable {P : Program} {N : Nat} {Q : Exit → AS → Prop} {all : Array Oper} {rest : List Oper} {ts : List (Nat × AV)} {hs : List (Nat × Option (List AV))} {n : Nat} {z0 : Lo} {md : Md}
variable {d : Nat} {ty : TypeId} {pos : String} {af : Array Edge}
theorem xT {t el : TypeId} {x : Operand} {hi : Option Operand} {i o m e h : Nat} [ht : SlT P t el] [he : SzT P el e] (hx : ev (lk ts) x = some (.own i o m e))
  (hh : fL (lk ts) hi m = some h) (hb : h ≤ m) (hN : Nat.blt d N = true) {md' : Md} [hmd : MdA md (rO x ++ (rB none ++ rB hi)) [.inl d] md'] (kk : RW P N all Q md' rest ⟨(d, .own i o h e) :: ts, hs, n, z0⟩) :
  RW P N all Q md (⟨some d, .slice t x none hi none, ty, pos, af, none⟩ :: rest) ⟨ts, hs, n, z0⟩ :=
 gB (m := m) (l := 0) (h := h) hx rfl rfl hh (by simp [E2, hb]) hN (md' := md') (hmd := hmd) kk
end
theorem DW {hs : List (Nat × Option (List AV))} {xs : List AL.Stmt} {i k n : Nat} (hH : b8 hs i = some (aI bB xs)) (hn : n = xs.length - k) : sCells (b8 hs) 6 (mU (.own i (0 + k * 6) n 6)) = some (n, aI bB (xs.drop k)) := by
 show ((b8 hs i).bind fun cs => if n * 6 ≤ (cs.drop (0 + k * 6)).length then some (n, (cs.drop (0 + k * 6)).take (n * 6)) else none) = _
 rw [hH, Option.bind_some, Nat.zero_add]
 have h1 : (aI bB xs).length = xs.length * 6 := aT bB xs
 have h3 : (aI bB xs).drop (k * 6) = aI bB (xs.drop k) := by
  have h4 : aI bB xs = aI bB (xs.take k) ++ aI bB (xs.drop k) := by rw [dC, List.take_append_drop]
  have h5 : (aI bB (xs.take k)).length = (xs.take k).length * 6 := aT bB _
  by_cases hk : k ≤ xs.length
  ·rw [h4, ← show (aI bB (xs.take k)).length = k * 6 from by rw [h5, List.length_take]; congr 1;omega, List.drop_left]
  ·rw [List.drop_of_length_le (by omega), List.drop_of_length_le (by omega)]; rfl
 rw [h3]
 have h2 : (aI bB (xs.drop k)).length = (xs.length - k) * 6 := by rw [aT bB (e := 6), List.length_drop]
 rw [if_pos (by omega), List.take_of_length_le (by omega)]
theorem CZ {xs ys : List AL.Stmt} {k : Nat} (hk : k ≤ xs.length) : ((aI bB xs).drop 0).take (k * 6) ++ aI bB ys = aI bB (xs.take k ++ ys) := by
 rw [List.drop_zero, eV bB (e := 6), dC]
theorem BE (bs : List UInt8) (p : Nat) (q : Prg) (hb : bs.length ≤ 2000) (hp : p ≤ 900000) (hs : bO q.body ≤ 10000) (ht : q.types.length ≤ 10000) : MC Tryz.prog 80 [.optr 0 0, cW q] [(0, some (eF bs p))] 1 (fun x : Prg × Nat => bO x.1.body ≤ 32 * bO q.body ∧ x.1.types.length ≤ q.types.length + 1 ∧ x.2 ≤ p + 3) (fun x => cW x.1) (fun x => [(0, some (eF bs x.2))]) := by
 have hlen := dX q.body
 have h0 := eZ bs p (q.body.length : Int)
 (refine bK Tryz.func80 rfl (by simp [Tryz.ntmps80]) ?_; rw [Tryz.ntmps80])
 repeat' (first|(apply aL;first|(apply aE;rfl;rfl)|(first|(apply aP;rfl;rfl;rfl;rfl)|(apply aR;rfl;rfl;(exact (rfl:_=[_, _]));rfl;rfl;rfl))|(apply aD;rfl;rfl;rfl)|(apply aU;rfl;rfl;rfl;rfl)|(apply aC;rfl;rfl)|(apply cG;rfl;rfl;(omega);rfl)|(first|(apply sI;rfl;rfl;rfl;rfl;infer_instance;rfl;(rfl);assumption;omega;(decide);(decide);rfl;rfl)|(apply kL;rfl;rfl;(rfl);(apply mG <;> (first|assumption|omega));rfl;rfl)|(apply Ab;rfl;(apply Ch <;> (omega));rfl;rfl))|(first|(apply bM;rfl;rfl;rfl)|(apply bV;rfl;rfl;rfl;rfl;rfl;(rw [aT]; omega);(rfl);omega;omega;(exact fW (by (omega)));rfl;rfl))|(apply aF;kernel_rfl)|(apply bA;rfl;rfl;rfl;rfl)|(apply bD;rfl;rfl)|(apply bQ;rfl;rfl;rfl;(first|exact (rfl:_=some [_])|exact (rfl:_=some [_, _, _])|exact (rfl:_=some [_, _, _, _])|exact (rfl:_=some [_, _, _, _, _]));rfl;rfl)|(apply aW;rfl;rfl;rfl;rfl;rfl;(case hl => (first|(rw [aT]; simp only [gY] <;> omega)|(simp;done)));(first|exact EG (by (omega))|exact F1 (by (omega))|exact FY (by (omega))|exact F0 (by (omega))|exact (rfl:_=[_, _]))))|(apply aM;first|apply aH|apply aB|(apply bZ;kernel_rfl)|(apply aQ;rfl;all_goals intro hc;have hq:=hc;(try simp only [cC] at hq);try exfalso;omega)|apply aN|apply aV|apply aO)|with_reducible apply aA|with_reducible apply a8|with_reducible apply aX)
 ·refine b0 (Le.frzC (j := 2) (i := 6) [] rfl rfl (by decide)) ?_
  refine b0 (Le.frzC (j := 2) (i := 7) [.imm _ _] rfl rfl (by decide)) ?_
  refine aK rfl ?_
  refine bG ((⟨q.types, q.body⟩ : Prg), p) ?_ ?_ ⟨.inr (Eq.trans (b := some _) rfl ?_), trivial⟩
  ·exact ⟨by dsimp only;omega, by dsimp only;omega, by dsimp only;omega⟩
  ·rfl
  ·rfl
 ·refine b0 (Le.frzC (j := 2) (i := 6) [] rfl rfl (by decide)) ?_
  refine b0 (Le.frzC (j := 2) (i := 7) [.imm _ _] rfl rfl (by decide)) ?_
  refine aK rfl ?_
  refine bG ((⟨q.types, q.body.set (cJ bs p (q.body.length : Int)).toNat (Gi q.body[(cJ bs p (q.body.length : Int)).toNat]! (gG bs (p + 1 + 1) [0, 11, 1, 3, 8]))⟩ : Prg), p + 1 + 1 + 1) ?_ ?_ ⟨.inr (Eq.trans (b := some _) rfl ?_), trivial⟩
  ·refine ⟨?_, by dsimp only;omega, by dsimp only;omega⟩; dsimp only;rw [j8 q.body (cJ bs p (q.body.length : Int)).toNat _ (by omega) (by rw [Cf])]; omega
  ·show _ = AV.agg [_, AV.imm (List.length (q.body.set _ _)) _]; rw [List.length_set]; rfl
  ·rfl
 ·refine b0 (Le.frzC (j := 2) (i := 6) [] rfl rfl (by decide)) ?_
  refine b0 (Le.frzC (j := 2) (i := 7) [.imm _ _] rfl rfl (by decide)) ?_
  refine aK rfl ?_
  refine bG ((⟨q.types, q.body.set (cJ bs p (q.body.length : Int)).toNat (uX q.body[(cJ bs p (q.body.length : Int)).toNat]! (gG bs (p + 1 + 1) [6, -1, 0, 1]))⟩ : Prg), p + 1 + 1 + 1) ?_ ?_ ⟨.inr (Eq.trans (b := some _) rfl ?_), trivial⟩
  ·refine ⟨?_, by dsimp only;omega, by dsimp only;omega⟩; dsimp only;rw [j8 q.body (cJ bs p (q.body.length : Int)).toNat _ (by omega) (by rw [Dx])]; omega
  ·show _ = AV.agg [_, AV.imm (List.length (q.body.set _ _)) _]; rw [List.length_set]; rfl
  ·rfl
 ·refine b0 (Le.frzC (j := 2) (i := 6) [] rfl rfl (by decide)) ?_
  refine b0 (Le.frzC (j := 2) (i := 7) [.imm _ _] rfl rfl (by decide)) ?_
  refine aK rfl ?_
  refine bG ((⟨q.types, q.body.set (cJ bs p (q.body.length : Int)).toNat (uY q.body[(cJ bs p (q.body.length : Int)).toNat]! (gG bs (p + 1 + 1) [6, -1, 0, 1]))⟩ : Prg), p + 1 + 1 + 1) ?_ ?_ ⟨.inr (Eq.trans (b := some _) rfl ?_), trivial⟩
  ·refine ⟨?_, by dsimp only;omega, by dsimp only;omega⟩; dsimp only;rw [j8 q.body (cJ bs p (q.body.length : Int)).toNat _ (by omega) (by rw [DE])]; omega
  ·show _ = AV.agg [_, AV.imm (List.length (q.body.set _ _)) _]; rw [List.length_set]; rfl
  ·rfl
 ·refine b0 (Le.frzC (j := 2) (i := 6) [] rfl rfl (by decide)) ?_
  refine b0 (Le.frzC (j := 2) (i := 7) [.imm _ _] rfl rfl (by decide)) ?_
  refine aK rfl ?_
  refine bG ((⟨q.types, q.body.set (cJ bs p (q.body.length : Int)).toNat (uN q.body[(cJ bs p (q.body.length : Int)).toNat]! (gG bs (p + 1 + 1) [10, -1, 5]))⟩ : Prg), p + 1 + 1 + 1) ?_ ?_ ⟨.inr (Eq.trans (b := some _) rfl ?_), trivial⟩
  ·refine ⟨?_, by dsimp only;omega, by dsimp only;omega⟩; dsimp only;rw [j8 q.body (cJ bs p (q.body.length : Int)).toNat _ (by omega) (by rw [Eh])]; omega
  ·show _ = AV.agg [_, AV.imm (List.length (q.body.set _ _)) _]; rw [List.length_set]; rfl
  ·rfl
 ·refine b0 (Le.frzC (j := 2) (i := 11) [] rfl rfl (by decide)) ?_
  refine b0 (Le.frzC (j := 2) (i := 7) [.imm _ _] rfl rfl (by decide)) ?_
  refine aK rfl ?_
  refine bG ((⟨q.types ++ [gG bs (p + 1 + 1) [1, 5, 0, 4]], q.body⟩ : Prg), p + 1 + 1 + 1) ?_ ?_ ⟨.inr (Eq.trans (b := some _) rfl ?_), trivial⟩
  ·exact ⟨by dsimp only;omega, by simp, by dsimp only;omega⟩
  ·show _ = AV.agg [AV.imm (List.length (q.types ++ [_])) _, _]; rw [List.length_append]; rfl
  ·rfl
 ·refine bL (σ := Nat × List AL.Stmt × Nat) [4, 5] [(4, _), (5, _)] [6, 2, 0] [(6, some _), (2, some _), (0, some _)] (fun k => [(7, iv (k.1 : Int))]) (fun k => [(7, some (aI bB k.2.1)), (8, some [.own 6 0 q.types.length 1, .own 7 0 k.2.2 6])]) (fun k => k.1 ≤ 31 ∧ k.2.1 = q.body ++ List.replicate k.1 q.body[0]! ∧ k.2.2 = k.2.1.length) (fun k => 31 - k.1) (0, q.body, q.body.length) ⟨by omega, by simp, rfl⟩ rfl rfl (by repeat' (first | exact trivial | refine And.intro rfl ?_)) (by repeat' (first | exact trivial | refine And.intro (.inr rfl) ?_)) ?_
  rintro ⟨k, xs, m⟩ ⟨hk, hxs, hm⟩
  dsimp only at hk hxs hm ⊢
  have hln : 0 < xs.length := by rw [hxs, List.length_append]; omega
  have hl2 : xs.length = q.body.length + k := by rw [hxs, List.length_append, List.length_replicate]
  repeat' (first|(apply aL;first|(apply aE;rfl;rfl)|(first|(apply fC;(case hx|hH => rfl);(case hf|hg|hα => infer_instance);(case hk => omega);(case h0|hN => rfl))|(apply aP;rfl;rfl;rfl;rfl)|(apply aR;rfl;rfl;(exact (rfl:_=[_, _]));rfl;rfl;rfl))|(apply aD;rfl;rfl;rfl)|(first|(apply bN;rfl;rfl;omega;rfl)|(apply aU;rfl;rfl;rfl;rfl))|(apply aC;rfl;rfl)|(apply cG;rfl;rfl;(omega);rfl)|(apply bV;rfl;rfl;rfl;rfl;rfl;(rw [aT]; omega);(rfl);omega;omega;(exact jG (by (assumption)));rfl;rfl)|(apply aF;kernel_rfl)|(apply bQ;rfl;rfl;rfl;(exact (rfl:_=some [_, _, _, _, _, _]));rfl;rfl)|(apply aW;rfl;rfl;rfl;rfl;rfl;(case hl => (simp;done));(exact (rfl:_=[_, _]))))|(apply aM;first|apply aH|apply aB|(apply bZ;kernel_rfl)|(apply aQ;rfl;all_goals intro hc;have hq:=hc;(try simp only [cC] at hq);try exfalso;omega)|apply aN|apply aV|apply bS|apply aO)|with_reducible apply aA|with_reducible apply bU|with_reducible apply aX|with_reducible apply bT)
  ·(apply dG (k + 1, _, _); focus (refine Le.ren [(7, 10), (8, 8), (6, 6), (2, 2)] rfl (by decide) ?_ ?_ <;> repeat' (first | exact trivial | refine And.intro ⟨_, rfl, ?_⟩ ?_ | refine And.intro ⟨_, _, rfl, rfl, ?_⟩ ?_ | exact Or.inr rfl | refine Or.inl ⟨?_, (by first | rfl | exact bH _ _ | exact Pur.pf)⟩ | refine Or.inr (All2.cons ?_ ?_) | refine All2.cons ?_ ?_ | exact All2.nil | rfl)))
   ·dsimp only
    refine ⟨by omega, ?_, by simp [hm]⟩
    have e0 : xs[Int.toNat 0]! = q.body[0]! := by
     show xs[0]! = _
     rw [hxs, getElem!_pos _ _ (by rw [List.length_append]; omega), List.getElem_append_left (by omega), getElem!_pos _ _ (by omega)]
    rw [e0, hxs, List.replicate_succ', List.append_assoc]
   ·dsimp only;omega
  ·have hc0 : c9 q.body[0]! ≤ bO q.body := fF q.body 0 (by omega)
   have hc1 : bO xs = bO q.body + k * c9 q.body[0]! := by rw [hxs, e8, vT]
   have hc2 : k * c9 q.body[0]! ≤ 31 * bO q.body := Nat.mul_le_mul hk hc0
   subst hm
   refine b0 (Le.frzC (j := 2) (i := 6) [] rfl rfl (by decide)) ?_
   refine b0 (Le.frzC (j := 2) (i := 7) [.imm _ _] rfl rfl (by decide)) ?_
   refine aK rfl ?_
   refine bG ((⟨q.types, xs⟩ : Prg), p + 1 + 1) ?_ ?_ ⟨.inr (Eq.trans (b := some _) rfl ?_), trivial⟩
   ·exact ⟨by dsimp only;omega, by dsimp only;omega, by dsimp only;omega⟩
   ·rfl
   ·rfl
 ·have hK : (cJ bs p (q.body.length : Int) + 1).toNat = (cJ bs p (q.body.length : Int)).toNat + 1 := by omega
  repeat' (first|(apply aL;first|(apply xT;rfl;exact nE rfl (by omega);omega;rfl)|(apply wL;rfl;exact nE rfl (by omega);omega;rfl)|(apply bV;rfl;rfl;rfl;rfl;rfl;(rw [aT]; omega);exact DW rfl (by omega);omega;omega;exact CZ (by omega);rfl;rfl)|(apply aE;rfl;rfl)|(first|(apply aP;rfl;rfl;rfl;rfl)|(apply aR;rfl;rfl;(exact (rfl:_=[_, _]));rfl;rfl;rfl))|(apply aD;rfl;rfl;rfl)|(apply bN;rfl;rfl;omega;rfl)|(apply aF;kernel_rfl)|(apply aW;rfl;rfl;rfl;rfl;rfl;(case hl => (simp;done));(exact (rfl:_=[_, _]))))|(apply aM;first|apply aH|apply aB|apply aO)|with_reducible apply aA|with_reducible apply aX)
  refine b0 (Le.frzC (j := 2) (i := 6) [] rfl rfl (by decide)) ?_
  refine b0 (Le.frzC (j := 2) (i := 9) [.imm _ _] rfl rfl (by decide)) ?_
  refine aK rfl ?_
  refine bG ((⟨q.types, q.body.take (cJ bs p (q.body.length : Int)).toNat ++ q.body.drop (cJ bs p (q.body.length : Int) + 1).toNat⟩ : Prg), p + 1 + 1) ?_ ?_ ⟨.inr (Eq.trans (b := some _) rfl ?_), trivial⟩
  ·refine ⟨?_, by dsimp only; omega, by dsimp only; omega⟩
   dsimp only
   rw [hK]
   have := uV q.body (cJ bs p (q.body.length : Int)).toNat
   omega
  ·show AV.agg [_, AV.imm _ _] = AV.agg [_, AV.imm (List.length (_ ++ _)) _]
   rw [List.length_append, List.length_take, List.length_drop, Nat.min_eq_left (by omega)]
  ·rfl
 ·refine b0 (Le.frzC (j := 2) (i := 6) [] rfl rfl (by decide)) ?_
  refine b0 (Le.frzC (j := 2) (i := 7) [.imm _ _] rfl rfl (by decide)) ?_
  refine aK rfl ?_
  refine bG (q, p + 1 + 1) ⟨by dsimp only;omega, by dsimp only;omega, by dsimp only;omega⟩ rfl ⟨.inr (Eq.trans (b := some _) rfl ?_), trivial⟩
  ·rfl
def yQ (s : ByteArray) (i : Int) (w : ByteArray) : Bool := decide (0 ≤ i) && (decide (i + w.size ≤ s.size) && ((s.extract i.toNat (i + w.size).toNat).toList == w.toList))
def Eb (lo hi : Int) (s : ByteArray) (i : Int) : Int := if i < 0 then -1 else if (s.size : Int) ≤ i then -1 else if ((s[i.toNat]!).toNat : Int) < lo then -1 else if hi < ((s[i.toNat]!).toNat : Int) then -1 else ((s[i.toNat]!).toNat : Int) - lo
theorem n3 (s : ByteArray) (i : Int) (w : ByteArray) (hs : s.size ≤ 1000000) (hw : w.size ≤ 1000000) (hi : i ≤ 1000000) : PC Tryz.prog 225 [sv s, iv i, sv w] (fun r => r = bv (yQ s i w)) := by
 (refine aS Tryz.func225 rfl (by simp [Tryz.ntmps225]) ?_; rw [Tryz.ntmps225])
 repeat' (first|(apply aL;first|(apply jT;rfl;rfl;(rfl);rfl)|(apply zM;rfl;exact nE rfl (by omega);exact nE rfl (by omega);omega;rfl)|(apply aE;rfl;rfl)|(first|(apply aY;rfl;rfl;rfl;(assumption))|(apply a7;rfl;rfl;rfl;(first|rfl|assumption))|(apply bE;(case hj|hb|hN => rfl);all_goals (intro hg;have hq := hg;(try simp only [cC] at hq);(try (exfalso;omega)))))|(first|(apply bN;rfl;rfl;omega;rfl)|(apply aU;rfl;rfl;rfl;rfl))|(apply aC;rfl;rfl)|(first|(apply bJ;rfl;(assumption);rfl;rfl)|(apply bC;rfl;(first|rfl|assumption);rfl;rfl))|(apply iK;rfl;rfl)|(apply aF;kernel_rfl))|(apply aM;first|apply aH|apply aB|apply aO)|with_reducible apply aA|((with_reducible apply aK);case hr => rfl))
 all_goals (refine ⟨?_, rfl⟩; simp only [bX, AV.v.injEq, Value.bool.injEq, Value.int.injEq, true_and])
 ·unfold yQ
  rw [decide_eq_true (by omega), decide_eq_true (by omega)]; rfl
 ·unfold yQ
  rw [decide_eq_true (p := 0 ≤ i) (by omega), decide_eq_false (by omega)]; rfl
 ·unfold yQ
  rw [decide_eq_false (by omega)]; rfl
theorem DA (s : ByteArray) (i : Int) (hs : s.size ≤ 1000000) : PC Tryz.prog 246 [sv s, iv i] (fun r => r = iv (Eb 97 122 s i)) := by
 have hb0 : ((s[i.toNat]!).toNat : Int) ≤ 255 := by have := (s[i.toNat]!).toNat_lt;omega
 (refine aS Tryz.func246 rfl (by simp [Tryz.ntmps246]) ?_; rw [Tryz.ntmps246])
 repeat' (first|(apply aL;first|(apply mM;rfl;rfl;omega;rfl)|(apply y3;rfl;rfl;omega;rfl)|(apply aE;rfl;rfl)|(first|(apply aY;rfl;rfl;rfl;(assumption))|(apply a7;rfl;rfl;rfl;(first|rfl|assumption))|(apply bE;(case hj|hb|hN => rfl);all_goals (intro hg;have hq := hg;(try simp only [cC] at hq);(try (exfalso;omega)))))|(apply aU;rfl;rfl;rfl;rfl)|(apply aC;rfl;rfl)|(first|(apply bJ;rfl;(first|rfl|assumption);rfl;rfl)|(apply bC;rfl;(assumption);rfl;rfl))|(apply iK;rfl;rfl)|(apply aF;kernel_rfl)|(apply mB;rfl;(omega);rfl))|(apply aM;first|apply aH|apply aB|(apply bR;rfl;(rfl))|(apply aQ;rfl;all_goals intro hc;have hq:=hc;(try simp only [cC] at hq);try exfalso;omega)|apply aV|apply aO)|with_reducible apply aA|with_reducible apply a8|((with_reducible apply aK);case hr => rfl))
 all_goals (refine ⟨?_, rfl⟩; simp only [bX, AV.v.injEq, Value.bool.injEq, Value.int.injEq, true_and])
 all_goals (unfold Eb;repeat' split)
 all_goals (first|rfl|omega)
theorem z8 (s : ByteArray) (i : Int) (hs : s.size ≤ 1000000) : PC Tryz.prog 248 [sv s, iv i] (fun r => r = iv (Eb 48 57 s i)) := by
 have hb0 : ((s[i.toNat]!).toNat : Int) ≤ 255 := by have := (s[i.toNat]!).toNat_lt;omega
 (refine aS Tryz.func248 rfl (by simp [Tryz.ntmps248]) ?_; rw [Tryz.ntmps248])
 repeat' (first|(apply aL;first|(apply mM;rfl;rfl;omega;rfl)|(apply y3;rfl;rfl;omega;rfl)|(apply aE;rfl;rfl)|(first|(apply aY;rfl;rfl;rfl;(assumption))|(apply a7;rfl;rfl;rfl;(first|rfl|assumption))|(apply bE;(case hj|hb|hN => rfl);all_goals (intro hg;have hq := hg;(try simp only [cC] at hq);(try (exfalso;omega)))))|(apply aU;rfl;rfl;rfl;rfl)|(apply aC;rfl;rfl)|(first|(apply bJ;rfl;(first|rfl|assumption);rfl;rfl)|(apply bC;rfl;(assumption);rfl;rfl))|(apply iK;rfl;rfl)|(apply aF;kernel_rfl)|(apply mB;rfl;(omega);rfl))|(apply aM;first|apply aH|apply aB|(apply bR;rfl;(rfl))|(apply aQ;rfl;all_goals intro hc;have hq:=hc;(try simp only [cC] at hq);try exfalso;omega)|apply aV|apply aO)|with_reducible apply aA|with_reducible apply a8|((with_reducible apply aK);case hr => rfl))
 all_goals (refine ⟨?_, rfl⟩; simp only [bX, AV.v.injEq, Value.bool.injEq, Value.int.injEq, true_and])
 all_goals (unfold Eb;repeat' split)
 all_goals (first|rfl|omega)
def QP (s : ByteArray) (i : Int) (r : AV) : Prop := ∃ (x : AL.Stmt) (nx : Int), r = .tup [eL x, iv nx] ∧ ((nx = -1 ∧ (c9 x : Int) ≤ s.size + 1) ∨ (i < nx ∧ nx ≤ s.size + 3 ∧ (c9 x : Int) ≤ nx - i))
def QB (s : ByteArray) (i : Int) (r : AV) : Prop := ∃ (l : List AL.Stmt) (nx : Int), r = .tup [sl bB l, iv nx] ∧ ((nx = -1 ∧ l = []) ∨ (0 ≤ i ∧ i + 2 ≤ nx ∧ nx ≤ s.size ∧ (bO l : Int) ≤ nx - i))
def QL (s : ByteArray) (i : Int) (r : AV) : Prop := ∃ (l : List AL.Stmt) (nx : Int), r = .tup [sl bB l, iv nx] ∧ ((nx = -1 ∧ l = []) ∨ (i ≤ nx ∧ nx ≤ s.size ∧ (bO l : Int) ≤ nx - i))
theorem iR {s w : ByteArray} {i : Int} (h : yQ s i w = true) : 0 ≤ i ∧ i + w.size ≤ s.size := by
 unfold yQ at h;simp only [Bool.and_eq_true, decide_eq_true_eq] at h;exact ⟨h.1, h.2.1⟩
theorem Gp {s : ByteArray} {i op x y n nx : Int} (h : nx = -1 ∨ (i < nx ∧ nx ≤ s.size + 3)) : QP s i (.tup [.agg [iv op, iv x, iv y, iv n, .imm 0 [], .imm 0 []], iv nx]) :=
 ⟨.mk op x y n [] [], nx, rfl, by simp only [c9, bO]; omega⟩
theorem Gr {s : ByteArray} {i op x y n nx : Int} {th : List AL.Stmt} (h : (nx = -1 ∧ (bO th : Int) ≤ s.size) ∨ (i < nx ∧ nx ≤ s.size + 3 ∧ (bO th : Int) + 1 ≤ nx - i)) : QP s i (.tup [.agg [iv op, iv x, iv y, iv n, sl bB th, .imm 0 []], iv nx]) :=
 ⟨.mk op x y n th [], nx, rfl, by simp only [c9, bO]; omega⟩
theorem Gq {s : ByteArray} {i op x y n nx : Int} {th el : List AL.Stmt} (h : (nx = -1 ∧ (bO th : Int) + bO el ≤ s.size) ∨ (i < nx ∧ nx ≤ s.size + 3 ∧ (bO th : Int) + bO el + 1 ≤ nx - i)) : QP s i (.tup [.agg [iv op, iv x, iv y, iv n, sl bB th, sl bB el], iv nx]) :=
 ⟨.mk op x y n th el, nx, rfl, by simp only [c9]; omega⟩
theorem QP.pur {s : ByteArray} {i : Int} {r : AV} (h : QP s i r) : r.pur = true := by obtain ⟨x, nx, rfl, _⟩ := h; exact Pur.pf
theorem QB.pur {s : ByteArray} {i : Int} {r : AV} (h : QB s i r) : r.pur = true := by obtain ⟨x, nx, rfl, _⟩ := h; exact Pur.pf
theorem QL.pur {s : ByteArray} {i : Int} {r : AV} (h : QL s i r) : r.pur = true := by obtain ⟨x, nx, rfl, _⟩ := h; exact Pur.pf
theorem oL {P : Program} {s : AS} {res : Array ResultVar} {q : AV → Prop} {l : List AV} (hQ : ∀ r, q r → r.pur = true) (hr : vW P (lk s.ts) (b8 s.hs) res.toList = some l) (h : q (bX l)) : uW P res (fun r _ => q r ∧ r.pur = true) .ret s := aK hr ⟨h, hQ _ h⟩
theorem tY (s : ByteArray) (i dp : Int) (hs : s.size ≤ 100000) (hi0 : 0 ≤ i) (hi : i ≤ s.size) (hd0 : 0 ≤ dp) (hd : dp ≤ 10) (braces_ih : ∀ j dj : Int, dj = dp - 1 → -1 ≤ j → j ≤ s.size + 10 → PC Tryz.prog 247 [sv s, iv j, iv dj] (QB s j)) : PC Tryz.prog 226 [sv s, iv i, iv dp] (QP s i) := by
 have h1 : yQ s i ⟨#[100, 114, 111, 112, 32]⟩ = true → i + 5 ≤ s.size := fun h => (iR h).2
 have h2 : yQ s i ⟨#[108, 111, 111, 112, 123]⟩ = true → i + 5 ≤ s.size := fun h => (iR h).2
 have h3 : yQ s i ⟨#[105, 102, 123]⟩ = true → i + 3 ≤ s.size := fun h => (iR h).2
 have h4 : yQ s i ⟨#[42]⟩ = true → i + 1 ≤ s.size := fun h => (iR h).2
 have h5 : yQ s (i + 1) ⟨#[61]⟩ = true → i + 1 + 1 ≤ s.size := fun h => (iR h).2
 have h6 : yQ s (i + 2) ⟨#[98, 111, 120, 32]⟩ = true → i + 2 + 4 ≤ s.size := fun h => (iR h).2
 have h7 : yQ s (i + 2) ⟨#[38, 109, 117, 116, 32]⟩ = true → i + 2 + 5 ≤ s.size := fun h => (iR h).2
 (refine aS Tryz.func226 rfl (by simp [Tryz.ntmps226]) ?_; rw [Tryz.ntmps226])
 repeat' (first|(apply aL;first|(apply aE;rfl;rfl)|(first|(apply aY;rfl;rfl;rfl;(assumption))|(apply a7;rfl;rfl;rfl;(assumption))|(apply bE;(case hj|hb|hN => rfl);all_goals (intro hg;have hq := hg;(try simp only [cC] at hq);(try (exfalso;omega)))))|(first|(apply bN;rfl;rfl;omega;rfl)|(apply iB;rfl;rfl;omega;rfl)|(apply aU;rfl;rfl;rfl;rfl))|(apply aC;rfl;rfl)|(first|(apply bJ;rfl;(assumption);rfl;rfl)|(apply bC;rfl;(assumption);rfl;rfl))|(first|((with_reducible apply aJ (k := 225));(case ha => rfl);(case h => (apply n3 <;> (first|omega|decide)));(case hp => (rfl));(case hN => rfl))|((with_reducible apply aJ (k := 246));(case ha => rfl);(case h => (apply DA <;> (omega)));(case hp => (rfl));(case hN => rfl))|((with_reducible apply fE (k := 247));(case ha => rfl);(case h => (apply braces_ih <;> (omega)));(case hp => (rfl));(case hN => rfl);(rintro _ ⟨l, nx, rfl, hql⟩ _))|((with_reducible apply aJ (k := 248));(case ha => rfl);(case h => (apply z8 <;> (omega)));(case hp => (rfl));(case hN => rfl)))|(apply aF;kernel_rfl)|(apply bY;rfl;(exact (rfl:_=some [_, _, _, _, _, _]));(exact (rfl:_=[_, _, _, _, _, _]));rfl)|(apply bW;rfl;rfl)|(apply bD;rfl;rfl)|(apply aZ;rfl;rfl;rfl)|(apply aW;rfl;rfl;rfl;rfl;rfl;(case hl => (first|decide|(simp;done)));(exact (rfl:_=[_, _, _, _, _, _]))))|(apply aM;first|apply aH|apply aB|(apply bR;rfl;(rfl))|(apply aQ;rfl;all_goals intro hc;have hq:=hc;(try simp only [cC] at hq);try exfalso;omega)|apply aN|apply aV|apply aO)|with_reducible apply aA|with_reducible apply a8|with_reducible apply aX|with_reducible apply cA)
 all_goals refine oL (fun _ => QP.pur) (l := [.agg [_, _, _, _, _, _], _]) rfl ?_
 all_goals (try have b1 := h1 (by assumption))
 all_goals (try have b2 := h2 (by assumption))
 all_goals (try have b3 := h3 (by assumption))
 all_goals (try have b4 := h4 (by assumption))
 all_goals (try have b5 := h5 (by assumption))
 all_goals (try have b6 := h6 (by assumption))
 all_goals (try have b7 := h7 (by assumption))
 all_goals clear h1 h2 h3 h4 h5 h6 h7
 all_goals first
  | (refine Gp ?_; omega)
  | skip
 ·refine Gr (th := l) ?_
  rcases hql with ⟨h8, h9⟩|hql
  ·rw [h9]; simp only [bO]; omega
  ·omega
 ·rename_i l1 nx1 hql1 hpu1 hpu2
  refine Gq (th := l1) (el := l) ?_
  rcases hql1 with ⟨h8, h9⟩|hql1 <;> rcases hql with ⟨h10, h11⟩|hql
  ·rw [h9, h11]; simp only [bO]; omega
  ·omega
  ·rw [h11]; simp only [bO]; omega
  ·omega
theorem qJ (s : ByteArray) (i dp : Int) (hs : s.size ≤ 100000) (hi0 : -1 ≤ i) (hi : i ≤ s.size + 10) (hd0 : -1 ≤ dp) (hd : dp ≤ 10) (list_ih : ∀ j dj : Int, 0 ≤ dp → dj = dp → 0 ≤ j → j ≤ s.size → PC Tryz.prog 181 [sv s, iv j, iv dj] (QL s j)) : PC Tryz.prog 247 [sv s, iv i, iv dp] (QB s i) := by
 have h1 : yQ s i ⟨#[123]⟩ = true → 0 ≤ i ∧ i + 1 ≤ s.size := fun h => iR h
 (refine aS Tryz.func247 rfl (by simp [Tryz.ntmps247]) ?_; rw [Tryz.ntmps247])
 repeat' (first|(apply aL;first|(apply aE;rfl;rfl)|(first|(apply aY;rfl;rfl;rfl;(assumption))|(apply a7;rfl;rfl;rfl;(assumption))|(apply bE;(case hj|hb|hN => rfl);all_goals (intro hg;have hq := hg;(try simp only [cC] at hq);(try (exfalso;omega)))))|(first|(apply bN;rfl;rfl;omega;rfl)|(apply aU;rfl;rfl;rfl;rfl))|(apply aC;rfl;rfl)|(first|(apply bJ;rfl;(assumption);rfl;rfl)|(apply bC;rfl;(assumption);rfl;rfl))|((with_reducible apply aJ (k := 225));(case ha => rfl);(case h => (apply n3 <;> (first|omega|decide)));(case hp => (rfl));(case hN => rfl))|(apply aF;kernel_rfl)|(apply bW;rfl;rfl))|(apply aM;first|apply aH|apply aB|(apply bR;rfl;(rfl))|(apply aQ;rfl;all_goals intro hc;have hq:=hc;(try simp only [cC] at hq);try exfalso;omega)|apply aV|apply aO)|with_reducible apply aA|with_reducible apply a8)
 ·refine b0 (Le.nilImm (d := 6) rfl) ?_
  exact oL (fun _ => QB.pur) (l := [.imm 0 [], iv (-1)]) rfl ⟨[], -1, rfl, .inl ⟨rfl, rfl⟩⟩
 ·have b1 := h1 (by assumption)
  repeat' (first|(apply aL;first|(apply aE;rfl;rfl)|(apply bN;rfl;rfl;omega;rfl)|(apply aC;rfl;rfl)|(first|((with_reducible apply fE (k := 181));(case ha => rfl);(case h => (apply list_ih <;> (first|assumption|omega)));(case hp => (rfl));(case hN => rfl);(rintro _ ⟨l, nx, rfl, hql⟩ _))|((with_reducible apply aJ (k := 225));(case ha => rfl);(case h => (apply n3 <;> (first|omega|decide)));(case hp => (rfl));(case hN => rfl)))|(apply aF;kernel_rfl)|(apply bW;rfl;rfl)|(apply aZ;rfl;rfl;rfl))|(apply aM;first|apply aH|apply aB|(apply aQ;rfl;all_goals intro hc;have hq:=hc;(try simp only [cC] at hq);try exfalso;omega)|apply aV|apply aO)|with_reducible apply aA|with_reducible apply a8)
  ·refine b0 (Le.nilImm (d := 6) rfl) ?_
   exact oL (fun _ => QB.pur) (l := [.imm 0 [], iv (-1)]) rfl ⟨[], -1, rfl, .inl ⟨rfl, rfl⟩⟩
  ·have b2 : 0 ≤ nx ∧ nx + 1 ≤ s.size := iR (w := ⟨#[125]⟩) (by assumption)
   exact oL (fun _ => QB.pur) (l := [sl bB l, iv (nx + 1)]) rfl ⟨l, nx + 1, rfl, by omega⟩
 ·refine b0 (Le.nilImm (d := 6) rfl) ?_
  exact oL (fun _ => QB.pur) (l := [.imm 0 [], iv (-1)]) rfl ⟨[], -1, rfl, .inl ⟨rfl, rfl⟩⟩
theorem yN (s : ByteArray) (i dp : Int) (hs : s.size ≤ 100000) (hi0 : 0 ≤ i) (hi : i ≤ s.size) (hd0 : 0 ≤ dp) (hd : dp ≤ 10) (parse_ih : ∀ j dj : Int, dj = dp → 0 ≤ j → j ≤ s.size → PC Tryz.prog 226 [sv s, iv j, iv dj] (QP s j)) : PC Tryz.prog 181 [sv s, iv i, iv dp] (QL s i) := by
 (refine aS Tryz.func181 rfl (by simp [Tryz.ntmps181]) ?_; rw [Tryz.ntmps181])
 repeat' (first|(apply aL;first|(apply aE;rfl;rfl)|(first|(apply aY;rfl;rfl;rfl;(assumption))|(apply a7;rfl;rfl;rfl;(assumption))|(apply bE;(case hj|hb|hN => rfl);all_goals (intro hg;have hq := hg;(try simp only [cC] at hq);(try (exfalso;omega)))))|(apply aU;rfl;rfl;rfl;rfl)|(apply aC;rfl;rfl)|(first|(apply bJ;rfl;(assumption);rfl;rfl)|(apply bC;rfl;(assumption);rfl;rfl))|((with_reducible apply aJ (k := 225));(case ha => rfl);(case h => (apply n3 <;> (first|omega|decide)));(case hp => (rfl));(case hN => rfl))|(apply iK;rfl;rfl)|(apply aF;kernel_rfl)|(apply bQ;rfl;rfl;rfl;(rfl);rfl;rfl))|(apply aM;first|apply aH|apply aB|(apply bR;rfl;(rfl))|(apply aQ;rfl;all_goals intro hc;have hq:=hc;(try simp only [cC] at hq);try exfalso;omega)|apply aN|apply aV|apply aO)|with_reducible apply aA|with_reducible apply a8)
 rotate_left 1
 ·refine bL (σ := Int × List AL.Stmt × Nat) [0, 2] [(0, _), (2, _)] [] [] (fun k => [(1, iv k.1), (8, .own 0 0 k.2.2 6)]) (fun k => [(0, some (aI bB k.2.1))]) (fun k => i ≤ k.1 ∧ k.1 ≤ s.size ∧ k.2.2 = k.2.1.length ∧ (bO k.2.1 : Int) ≤ k.1 - i) (fun k => (s.size - k.1).toNat) (i, [], 0) ⟨by omega, by omega, rfl, by simp [bO]⟩ rfl rfl (by repeat' (first | exact trivial | refine And.intro rfl ?_)) (by repeat' (first | exact trivial | refine And.intro (.inr rfl) ?_)) ?_
  rintro ⟨k, xs, m⟩ ⟨hk0, hk, hm, hc⟩
  dsimp only at hk0 hk hm hc ⊢
  have hln := dX xs
  repeat' (first|(apply aL;first|(apply aE;rfl;rfl)|(apply aR;rfl;rfl;(exact (rfl:_=[_, _, _, _, _, _]));rfl;rfl;rfl)|(first|(apply aY;rfl;rfl;rfl;(assumption))|(apply a7;rfl;rfl;rfl;(assumption))|(apply bE;(case hj|hb|hN => rfl);all_goals (intro hg;have hq := hg;(try simp only [cC] at hq);(try (exfalso;omega)))))|(first|(apply bN;rfl;rfl;omega;rfl)|(apply aU;rfl;rfl;rfl;rfl))|(apply aC;rfl;rfl)|(first|(apply bJ;rfl;(assumption);rfl;rfl)|(apply bC;rfl;(assumption);rfl;rfl))|(first|((with_reducible apply aJ (k := 225));(case ha => rfl);(case h => (apply n3 <;> (first|omega|decide)));(case hp => (rfl));(case hN => rfl))|((with_reducible apply fE (k := 226));(case ha => rfl);(case h => (apply parse_ih <;> (first|assumption|omega)));(case hp => (rfl));(case hN => rfl);(rintro _ ⟨x, nx, rfl, hqx⟩ _)))|(first|(apply iK;rfl;rfl)|(apply bV;rfl;rfl;rfl;rfl;rfl;(rw [aT]; omega);(rfl);omega;omega;(exact jG (by (assumption)));rfl;rfl))|(apply aF;kernel_rfl)|(apply bW;rfl;rfl)|(apply bD;rfl;rfl)|(apply aZ;rfl;rfl;rfl)|((apply bF (t := _));(case hze|hsm|hl => rfl);(case hfl => (exact (rfl:_=some [_, _, _, _, _, _])));(case hM|hN => rfl))|(apply aW;rfl;rfl;rfl;rfl;rfl;(case hl => (simp;done));(exact (rfl:_=[_, _, _, _, _, _]))))|(apply aM;first|apply aH|apply aB|(apply bR;rfl;(rfl))|(apply aQ;rfl;all_goals intro hc;have hq:=hc;(try simp only [cC] at hq);try exfalso;omega)|apply aN|apply aV|apply aO)|with_reducible apply aA|with_reducible apply a8|with_reducible apply aX|with_reducible apply cA)
  ·refine b0 (Le.nilImm (d := 6) rfl) ?_
   exact oL (fun _ => QL.pur) (l := [.imm 0 [], iv (-1)]) rfl ⟨[], -1, rfl, .inl ⟨rfl, rfl⟩⟩
  ·refine b0 (Le.frzD (d := 6) (i := 3) rfl rfl) ?_
   refine oL (fun _ => QL.pur) (l := [.imm (m + 1) (aI bB (xs ++ [x])), iv nx]) rfl ⟨xs ++ [x], nx, ?_, ?_⟩
   ·show AV.tup [AV.imm (m + 1) _, _] = AV.tup [AV.imm (List.length (xs ++ [x])) _, _]
    rw [List.length_append, hm]; rfl
   ·rw [e8]; simp only [bO]; omega
  ·have b2 : 0 ≤ nx ∧ nx + 1 ≤ s.size := iR (w := ⟨#[59]⟩) (by assumption)
   (apply dG (nx + 1, xs ++ [x], m + 1);focus (refine Le.ren [(0, 3)] rfl (by decide) ?_ ?_ <;> repeat' (first|exact trivial|refine And.intro ⟨_, rfl, ?_⟩ ?_|refine And.intro ⟨_, _, rfl, rfl, ?_⟩ ?_|exact Or.inr rfl|refine Or.inl ⟨?_, (by first|rfl|exact bH _ _)⟩|rfl)))
   ·dsimp only
    refine ⟨by omega, by omega, by simp [hm], ?_⟩
    rw [e8]; simp only [bO]; omega
   ·dsimp only;omega
  ·refine b0 (Le.nilImm (d := 6) rfl) ?_
   exact oL (fun _ => QL.pur) (l := [.imm 0 [], iv (-1)]) rfl ⟨[], -1, rfl, .inl ⟨rfl, rfl⟩⟩
 ·refine b0 (Le.frzD (d := 6) (i := 0) rfl rfl) ?_
  exact oL (fun _ => QL.pur) (l := [.imm 0 [], iv i]) rfl ⟨[], i, rfl, by simp only [bO]; omega⟩
 ·refine b0 (Le.frzD (d := 6) (i := 0) rfl rfl) ?_
  exact oL (fun _ => QL.pur) (l := [.imm 0 [], iv i]) rfl ⟨[], i, rfl, by simp only [bO]; omega⟩
theorem vO (s : ByteArray) (hs : s.size ≤ 100000) : ∀ n : Nat, n ≤ 10 → (∀ j : Int, -1 ≤ j → j ≤ s.size + 10 → PC Tryz.prog 247 [sv s, iv j, iv ((n : Int) - 1)] (QB s j)) ∧ (∀ j : Int, 0 ≤ j → j ≤ s.size → PC Tryz.prog 181 [sv s, iv j, iv (n : Int)] (QL s j))
 | 0, hn => by
  have hB : ∀ j : Int, -1 ≤ j → j ≤ s.size + 10 → PC Tryz.prog 247 [sv s, iv j, iv (((0 : Nat) : Int) - 1)] (QB s j) :=
   fun j h0 h1 => qJ s j (((0 : Nat) : Int) - 1) hs h0 h1 (by omega) (by omega) (fun _ _ h => by omega)
  have hP : ∀ j : Int, 0 ≤ j → j ≤ s.size → PC Tryz.prog 226 [sv s, iv j, iv ((0 : Nat) : Int)] (QP s j) :=
   fun j h0 h1 => tY s j _ hs h0 h1 (by omega) (by omega) (fun k dj h2 h3 h4 => by subst h2;exact hB k h3 h4)
  exact ⟨hB, fun j h0 h1 => yN s j _ hs h0 h1 (by omega) (by omega) (fun k dj h2 h3 h4 => by subst h2;exact hP k h3 h4)⟩
 | n + 1, hn => by
  have ih := vO s hs n (by omega)
  have e : (((n + 1 : Nat) : Int) - 1) = (n : Int) := by omega
  have hB : ∀ j : Int, -1 ≤ j → j ≤ s.size + 10 → PC Tryz.prog 247 [sv s, iv j, iv (((n + 1 : Nat) : Int) - 1)] (QB s j) :=
   fun j h0 h1 => qJ s j _ hs h0 h1 (by omega) (by omega) (fun k dj h2 h3 h4 h5 => by rw [e] at h3;subst h3;exact ih.2 k h4 h5)
  have hP : ∀ j : Int, 0 ≤ j → j ≤ s.size → PC Tryz.prog 226 [sv s, iv j, iv ((n + 1 : Nat) : Int)] (QP s j) :=
   fun j h0 h1 => tY s j _ hs h0 h1 (by omega) (by omega) (fun k dj h2 h3 h4 => by subst h2;exact hB k h3 h4)
  exact ⟨hB, fun j h0 h1 => yN s j _ hs h0 h1 (by omega) (by omega) (fun k dj h2 h3 h4 => by subst h2;exact hP k h3 h4)⟩
theorem CS (s : ByteArray) (i : Int) (hs : s.size ≤ 100000) (hi0 : 0 ≤ i) (hi : i ≤ s.size) : PC Tryz.prog 181 [sv s, iv i, iv 4] (QL s i) := (vO s hs 4 (by omega)).2 i hi0 hi
theorem xK (v : Int) (h0 : 0 ≤ v) (h1 : v ≤ 25) : PC Tryz.prog 251 [iv v] (fun r => r = sv (fK v)) := by
 (refine aS Tryz.func251 rfl (by simp [Tryz.ntmps251]) ?_; rw [Tryz.ntmps251])
 repeat' (first|(apply aL;first|(apply Dt;rfl;rfl;omega;rfl)|((apply BS (ns := [_]));(case hx|hs'|hN => rfl))|(apply uE;rfl;omega;rfl)|(apply aE;rfl;rfl)|(apply aC;rfl;rfl)|(apply aF;kernel_rfl)|(apply bQ;rfl;rfl;rfl;exact (rfl:_=some [_]);rfl;rfl))|(apply aM;first|apply aH|apply aB|apply aO)|with_reducible apply aA|((with_reducible apply aK);case hr => rfl))
 exact ⟨rfl, rfl⟩
theorem BR (n : Int) (h0 : 0 ≤ n) (h1 : n ≤ 9) : PC Tryz.prog 252 [iv n] (fun r => r = sv (w9 n)) := by
 (refine aS Tryz.func252 rfl (by simp [Tryz.ntmps252]) ?_; rw [Tryz.ntmps252])
 repeat' (first|(apply aL;first|(apply aE;rfl;rfl)|(apply aU;rfl;rfl;rfl;rfl)|(apply aC;rfl;rfl)|(apply aF;kernel_rfl))|(apply aM;first|apply aH|apply aB|(apply aQ;rfl;all_goals intro hc;have hq:=hc;(try simp only [cC] at hq);try exfalso;omega)|apply aN|apply aV)|with_reducible apply aA)
 refine bL (σ := Unit) [0, 3] [(0, _), (3, _)] [] [] (fun u => []) (fun u => []) (fun u => True) (fun u => 0) () trivial rfl rfl (by repeat' (exact trivial)) (by repeat' (exact trivial)) ?_
 rintro u _
 repeat' (first|(apply aL;first|(apply jT;rfl;rfl;(rfl);rfl)|((apply BS (ns := [_]));(case hx|hs'|hN => rfl))|(apply uE;rfl;omega;rfl)|(apply aE;rfl;rfl)|(first|(apply bN;rfl;rfl;omega;rfl)|(apply aU;rfl;rfl;rfl;rfl))|(apply aC;rfl;rfl)|(apply aF;kernel_rfl)|(apply bQ;rfl;rfl;rfl;exact (rfl:_=some [_]);rfl;rfl))|(apply aM;first|apply aH|apply aB|(apply aQ;rfl;all_goals intro hc;have hq:=hc;(try simp only [cC] at hq);try exfalso;omega)|apply bS|apply aO)|with_reducible apply aA|with_reducible apply bU|with_reducible apply bT|((with_reducible apply aK);case hr => rfl))
 exact ⟨rfl, rfl⟩
theorem xU (s : AL.Stmt) (hc : c9 s ≤ 10000) (hop : (s.op = 9 ∨ s.op = 10) ∨ (1 ≤ s.op ∧ s.op ≤ 8 ∧ 0 ≤ s.x ∧ s.x ≤ 5 ∧ 0 ≤ s.y ∧ s.y ≤ 5 ∧ (s.op = 1 ∨ s.op = 2 → 0 ≤ s.n ∧ s.n ≤ 9)))
  (hth : s.op = 9 ∨ s.op = 10 → PC Tryz.prog 227 [sl bB s.th] (fun r => r = sv (hU s.th))) (hel : s.op = 9 → PC Tryz.prog 227 [sl bB s.el] (fun r => r = sv (hU s.el))) : PC Tryz.prog 249 [eL s] (fun r => r = sv (jV s)) := by
 have k1 := jJ s.th
 have k2 := jJ s.el
 have k3 := fJ s
 (refine aS Tryz.func249 rfl (by simp [Tryz.ntmps249]) ?_; rw [Tryz.ntmps249])
 repeat' (first|(apply aL;first|(apply jT;rfl;rfl;(first|rfl|exact nI (by (simp only [ByteArray.size_append, lZ, List.length_cons, List.length_nil, kJ, kH, mQ] <;> omega)));rfl)|(apply aE;rfl;rfl)|(apply aP;rfl;rfl;rfl;rfl)|(apply aD;rfl;rfl;rfl)|(apply aU;rfl;rfl;rfl;rfl)|(apply aC;rfl;rfl)|(first|((with_reducible apply aJ (k := 227));(case ha => rfl);(case h => (first|(apply hth;omega)|(apply hel;omega)));(case hp => (exact Pur.pf));(case hN => rfl))|((with_reducible apply aJ (k := 251));(case ha => rfl);(case h => (apply xK <;> (omega)));(case hp => (rfl));(case hN => rfl))|((with_reducible apply aJ (k := 252));(case ha => rfl);(case h => (apply BR <;> (omega)));(case hp => (rfl));(case hN => rfl)))|(apply aF;kernel_rfl)|(apply bA;rfl;rfl;rfl;rfl))|(apply aM;first|apply aH|apply aB|(apply bZ;kernel_rfl)|(apply aQ;rfl;all_goals intro hc;have hq:=hc;(try simp only [cC] at hq);try exfalso;omega)|apply aN|apply aV|apply aO)|with_reducible apply aA|with_reducible apply a8|with_reducible apply aX|with_reducible apply cA|((with_reducible apply aK);case hr => rfl))
 all_goals (refine ⟨?_, rfl⟩; rw [Aj]; repeat' split)
 all_goals (first|rfl|omega)
theorem tH (l : List AL.Stmt) (hc : bO l ≤ 10000) (text_ih : ∀ k, k < l.length → PC Tryz.prog 249 [eL l[k]!] (fun r => r = sv (jV l[k]!))) : PC Tryz.prog 227 [sl bB l] (fun r => r = sv (hU l)) := by
 have hlen := dX l
 (refine aS Tryz.func227 rfl (by simp [Tryz.ntmps227]) ?_; rw [Tryz.ntmps227])
 repeat' (first|(apply aL;first|(apply aC;rfl;rfl)|(apply aF;kernel_rfl))|(apply aM;first|apply aH|apply aB|apply aN)|with_reducible apply aA)
 refine bL (σ := Nat × ByteArray) [0] [(0, _)] [] [] (fun k => [(4, iv (k.1 : Int)), (3, sv k.2)]) (fun k => []) (fun k => k.1 ≤ l.length ∧ k.2 = hU (l.take k.1)) (fun k => l.length - k.1) (0, ⟨#[]⟩) ⟨by omega, rfl⟩ rfl rfl (by repeat' (first|exact trivial|refine And.intro rfl ?_)) (by repeat' (exact trivial)) ?_
 rintro ⟨k, t⟩ ⟨hk, ht⟩
 dsimp only at hk ht ⊢
 have k1 := jJ (l.take k)
 have k2 := oB l[k]!
 have hck := fF l k
 have hct : bO (l.take k) ≤ bO l := by have := e8 (l.take k) (l.drop k);rw [List.take_append_drop] at this;omega
 have k3 : t.size = (hU (l.take k)).size := by rw [ht]
 repeat' (first|(apply aL;first|(apply jT;rfl;rfl;(exact nI (by (first|omega|(simp only [ByteArray.size_append, lZ, List.length_cons, List.length_nil, kJ, kH, mQ] <;> omega))));rfl)|(apply aE;rfl;rfl)|(apply aR;rfl;rfl;(exact (rfl:_=[_, _, _, _, _, _]));rfl;rfl;rfl)|(first|(apply bN;rfl;rfl;omega;rfl)|(apply aU;rfl;rfl;rfl;rfl))|(apply aC;rfl;rfl)|(apply bI;(case hx|hi => rfl);(case hm => (omega));(case hml => (rfl));(case hα | hf|hg => infer_instance);(case hN => rfl))|((with_reducible apply aJ (k := 249));(case ha => rfl);(case h => (apply text_ih <;> (omega)));(case hp => (exact Pur.pf));(case hN => rfl))|(apply bM;rfl;rfl;rfl)|(apply aF;kernel_rfl))|(apply aM;first|apply aH|apply aB|(apply aQ;rfl;all_goals intro hc;have hq:=hc;(try simp only [cC] at hq);try exfalso;omega)|apply aN|apply aV|apply bS|apply aO)|with_reducible apply aA|with_reducible apply bU|with_reducible apply aX|with_reducible apply bT|((with_reducible apply aK);case hr => rfl))
 ·(apply dG (k + 1, _); focus (refine Le.ren [] rfl (by decide) ?_ ?_ <;> repeat' (first | exact trivial | refine And.intro ⟨_, rfl, ?_⟩ ?_ | refine Or.inl ⟨?_, (by first | rfl | exact bH _ _)⟩ | rfl)))
  ·exact ⟨by dsimp only;omega, by dsimp only;rw [oI l k (by omega), m6, if_pos (by omega), ht]⟩
  ·dsimp only;omega
 ·(apply dG (k + 1, _); focus (refine Le.ren [] rfl (by decide) ?_ ?_ <;> repeat' (first | exact trivial | refine And.intro ⟨_, rfl, ?_⟩ ?_ | refine Or.inl ⟨?_, (by first | rfl | exact bH _ _)⟩ | rfl)))
  ·exact ⟨by dsimp only;omega, by dsimp only;rw [oI l k (by omega), m6, if_neg (by omega), ht]⟩
  ·dsimp only;omega
 ·have hke : k = l.length := by omega
  refine ⟨?_, rfl⟩
  rw [ht, hke, List.take_length]; rfl
theorem Bz (ts : List Int) (hts : cP ts = true) : ∀ m : Nat, m ≤ 10000 → ∀ l d, bO l ≤ m → okL ts d l = true → PC Tryz.prog 227 [sl bB l] (fun r => r = sv (hU l)) := by
 intro m
 induction m with
 | zero =>
  intro hm l d hc ho
  have := dX l
  exact tH l (by omega) (fun k hk => by omega)
 | succ m ih =>
  intro hm l d hc ho
  refine tH l (by omega) (fun k hk => ?_)
  have hck := fF l k hk
  have hct := jL l[k]!
  have hs : nS ts d l[k]! = true := by rw [s7, iH] at ho;exact ho k hk
  rw [y6] at hs
  by_cases h9 : l[k]!.op ≠ 9 ∧ l[k]!.op ≠ 10
  ·rw [if_pos h9] at hs
   simp only [Bool.and_eq_true] at hs
   exact xU _ (by omega) (.inr (zR hts hs.2)) (fun h => by omega) (fun h => by omega)
  ·rw [if_neg h9] at hs
   cases d with
   | zero => cases hs
   | succ d =>
    simp only [Bool.and_eq_true] at hs
    exact xU _ (by omega) (.inl (by omega)) (fun h => ih (by omega) _ d (by omega) hs.1.2) (fun h => ih (by omega) _ d (by omega) hs.2)
theorem BT (ts : List Int) (d : Nat) (l : List AL.Stmt) (hts : cP ts = true) (hc : bO l ≤ 10000) (ho : okL ts d l = true) : PC Tryz.prog 227 [sl bB l] (fun r => r = sv (hU l)) := Bz ts hts _ hc l d (Nat.le_refl _) ho
def wH (s : ByteArray) : List AV := [.v (.string s)]
instance : FlT wH 1 := ⟨fun _ => rfl⟩
instance : FE wH (fun s => [.v (.string s)]) := ⟨fun _ => rfl⟩
instance (s : ByteArray) : Pur (wH s) := ⟨rfl⟩
theorem Le.slotEq {ts : List (Nat × AV)} {hs : List (Nat × Option (List AV))} {n : Nat} {z0 : Lo} {d : Nat} (v v' : AV) (hd : lk ts d = some v) (h : v = v') : Le ⟨ts, hs, n, z0⟩ ⟨(d, v') :: ts, hs, n, z0⟩ :=
 Le.slot hd fun w bad ι y hr => h ▸ hr
def kinds : List ByteArray := [⟨#[]⟩, ⟨#[105]⟩, ⟨#[98]⟩, ⟨#[114]⟩, ⟨#[109]⟩]
theorem xI (k : Nat) : (kinds[k]!).size ≤ 1 := by
 match k with
 | 0 => decide
 | 1 => decide
 | 2 => decide
 | 3 => decide
 | 4 => decide
 | k + 5 => exact (show (default : ByteArray).size ≤ 1 from by decide)
theorem tW (p : Prg) (hv : c8 p = true) : PC Tryz.prog 182 [cW p] (fun r => ∃ t, r = sv t) := by
 have hv2 := hv
 simp only [c8, Bool.and_eq_true, decide_eq_true_eq] at hv2
 obtain ⟨⟨hts, hol⟩, hcn⟩ := hv2
 have hl6 := gA hts
 have htx := jJ p.body
 (refine aS Tryz.func182 rfl (by simp [Tryz.ntmps182]) ?_; rw [Tryz.ntmps182])
 repeat' (first|(apply aL;first|(apply aC;rfl;rfl)|(apply aF;kernel_rfl)|(apply bA;rfl;rfl;rfl;rfl))|(apply aM;first|apply aH|apply aB|apply aN)|with_reducible apply aA)
 refine bL (σ := Nat × ByteArray) [1] [(1, _)] [0] [(0, some _)] (fun k => [(4, iv (k.1 : Int)), (3, sv k.2)]) (fun k => []) (fun k => k.1 ≤ p.types.length ∧ k.2.size ≤ k.1) (fun k => p.types.length - k.1) (0, ⟨#[]⟩) ⟨by omega, by show 0 ≤ 0;omega⟩ rfl rfl (by repeat' (first|exact trivial|refine And.intro rfl ?_)) (by repeat' (exact trivial)) ?_
 rintro ⟨k, t⟩ ⟨hk, ht⟩
 dsimp only at hk ht ⊢
 have htk := jK hts k
 have hkz : (kinds[(p.types[k]!).toNat]!).size ≤ 1 := xI _
 have hkl : kinds.length = 5 := rfl
 repeat' (first|(apply aL;first|(with_reducible apply cF (d := 14))|((with_reducible apply aJ (k := 227));(case ha => rfl);(case h => exact BT p.types 4 p.body hts (by omega) hol);(case hp => (exact Pur.pf));(case hN => rfl))|(apply jT;rfl;rfl;(exact nI (by (simp only [ByteArray.size_append, lZ, List.length_cons, List.length_nil, kJ, kH, mQ] <;> omega)));rfl)|(apply aE;rfl;rfl)|(apply aP;rfl;rfl;rfl;rfl)|(apply aD;rfl;rfl;rfl)|(apply aU;rfl;rfl;rfl;rfl)|(apply aC;rfl;rfl)|(apply bM;rfl;rfl;rfl)|(apply aF;kernel_rfl)|((apply bF (t := _));(case hze|hsm|hl => rfl);(case hfl => (exact (rfl:_=some [_, _, _, _, _])));(case hM|hN => rfl)))|(apply aM;first|apply aH|apply aB|(apply aQ;rfl;all_goals intro hc;have hq:=hc;(try simp only [cC] at hq);try exfalso;omega)|apply aN|apply aV|apply bS|apply aO)|with_reducible apply aA|with_reducible apply bU|with_reducible apply bT)
 ·refine dB (gI ?_ (Le.slotEq (d := 13) _ (.imm 5 (aI wH kinds)) rfl rfl))
  repeat' (first|(apply aL;first|(apply jT;rfl;rfl;(exact nI (by (omega)));rfl)|(apply aE;rfl;rfl)|(apply aP;rfl;rfl;rfl;rfl)|(apply aD;rfl;rfl;rfl)|(apply bN;rfl;rfl;omega;rfl)|(apply aC;rfl;rfl)|(first|(apply bI;(case hx|hi => rfl);(case hm => (omega));(case hml => (rfl));(case hα | hf|hg => infer_instance);(case hN => rfl))|(apply cM;(case hx|hi => rfl);(case hm => (omega));(case hml => (rfl));(case hα | hf|hg => infer_instance);(case hN => rfl)))|(apply aF;kernel_rfl))|(apply aM;(apply aB))|with_reducible apply aA|with_reducible apply aX)
  (apply dG (k + 1, _);focus (refine Le.ren [(0, 0)] rfl (by decide) ?_ ?_ <;> repeat' (first|exact trivial|refine And.intro ⟨_, rfl, ?_⟩ ?_|refine And.intro ⟨_, _, rfl, rfl, ?_⟩ ?_|exact Or.inr rfl|refine Or.inl ⟨?_, (by first|rfl|exact Pur.pf)⟩|rfl)))
  ·exact ⟨by dsimp only;omega, by dsimp only;rw [ByteArray.size_append]; omega⟩
  ·dsimp only;omega
 ·refine aK rfl ⟨⟨_, rfl⟩, rfl⟩
theorem BJ {s : ByteArray} (b : Bool) : (∃ (q : Prg) (b' : Bool), AV.tup [AV.agg [.imm 0 [], .imm 0 []], bv b] = .tup [cW q, bv b'] ∧ bO q.body ≤ s.size + 10 ∧ q.types.length ≤ s.size + 10) :=
 ⟨⟨[], []⟩, b, rfl, by simp [bO], by simp⟩
theorem pB (s : ByteArray) (hs : s.size ≤ 10000) : PC Tryz.prog 127 [sv s] (fun r => ∃ (q : Prg) (b : Bool), r = .tup [cW q, bv b] ∧ bO q.body ≤ s.size + 10 ∧ q.types.length ≤ s.size + 10) := by
 (refine aS Tryz.func127 rfl (by simp [Tryz.ntmps127]) ?_; rw [Tryz.ntmps127])
 repeat' (first|(apply aL;first|(with_reducible apply cF (d := 13))|(apply aE;rfl;rfl)|(apply aU;rfl;rfl;rfl;rfl)|(apply aC;rfl;rfl)|(apply iK;rfl;rfl)|(apply aF;kernel_rfl)|(apply bY;rfl;(exact (rfl:_=some [_, _]));(exact (rfl:_=[_, _]));rfl)|(apply bD;rfl;rfl)|(apply aW;rfl;rfl;rfl;rfl;rfl;(decide);(exact (rfl:_=[_, _]))))|(apply aM;first|apply aH|apply aB|(apply aQ;rfl;all_goals intro hc;have hq:=hc;(try simp only [cC] at hq);try exfalso;omega)|apply aV|apply aO)|with_reducible apply aA|with_reducible apply a8)
 ·exact aK (l := [.agg [.imm 0 [], .imm 0 []], bv false]) rfl ⟨BJ false, rfl⟩
 refine dB ?_
 apply uM
 case hl => rfl
 case hf => exact (rfl:_=some [AV.v (.slice none 0 0), AV.v (.slice none 0 0)])
 case hN => rfl
 repeat' (first|(apply aL;first|(apply aC;rfl;rfl)|(apply aF;kernel_rfl)|(apply bD;rfl;rfl)|(apply aW;rfl;rfl;rfl;rfl;rfl;(decide);(exact (rfl:_=[_, _]))))|(apply aM;first|apply aH|apply aB|apply aN)|with_reducible apply aA)
 apply AW.le
 case k => exact Le.nilCell (i := 1) 1 [] rfl (by decide) (by decide)
 refine bL (σ := Nat × List Int × Nat) [0, 2, 4] [(0, _), (2, _), (4, _)] [0] [(0, some _)] (fun k => [(5, iv (k.1 : Int))]) (fun k => [(1, some [.own 2 0 k.2.2 1, .v (.slice none 0 0)]), (2, some (aI cI k.2.1))]) (fun k => k.1 ≤ s.size ∧ k.2.1.length = k.1 ∧ k.2.2 = k.2.1.length) (fun k => s.size - k.1) (0, [], 0) ⟨by omega, rfl, rfl⟩ rfl rfl (by repeat' (first|exact trivial|refine And.intro rfl ?_)) (by repeat' (first|exact trivial|refine And.intro (.inr rfl) ?_)) ?_
 rintro ⟨k, xs, m⟩ ⟨hk, hxl, hm⟩
 dsimp only at hk hxl hm ⊢
 repeat' (first|(apply aL;first|(with_reducible apply cF (d := 43))|(apply mM;rfl;rfl;omega;rfl)|(apply aE;rfl;rfl)|(apply aP;rfl;rfl;rfl;rfl)|(apply aD;rfl;rfl;rfl)|(first|(apply aY;rfl;rfl;rfl;(assumption))|(apply a7;rfl;rfl;rfl;(assumption))|(apply bE;(case hj|hb|hN => rfl);all_goals (intro hg;have hq := hg;(try simp only [cC] at hq);(try (exfalso;omega)))))|(first|(apply bN;rfl;rfl;omega;rfl)|(apply aU;rfl;rfl;rfl;rfl))|(apply aC;rfl;rfl)|(first|(apply bJ;rfl;(assumption);rfl;rfl)|(apply bC;rfl;(assumption);rfl;rfl))|(first|(apply iK;rfl;rfl)|(apply bV;rfl;rfl;rfl;rfl;rfl;(rw [aT]; omega);(rfl);omega;omega;(exact fW (by (assumption)));rfl;rfl))|(apply aF;kernel_rfl)|((apply bF (t := _));(case hze|hsm|hl => rfl);(case hfl => exact (rfl:_=some [_]));(case hM|hN => rfl))|(apply aW;rfl;rfl;rfl;rfl;rfl;(case hl => (simp;done));(exact (rfl:_=[_, _]))))|(apply aM;first|apply aH|apply aB|(apply b9;rfl;(rfl))|(apply aQ;rfl;all_goals intro hc;have hq:=hc;(try simp only [cC] at hq);try exfalso;omega)|apply aN|apply aV|apply bS)|with_reducible apply aA|with_reducible apply bU|with_reducible apply aX|with_reducible apply bT)
 ·(apply dG (k + 1, xs ++ [1], m + 1); focus (refine Le.ren [(0, 0), (1, 1), (2, 4)] rfl (by decide) ?_ ?_ <;> repeat' (first | exact trivial | refine And.intro ⟨_, rfl, ?_⟩ ?_ | refine And.intro ⟨_, _, rfl, rfl, ?_⟩ ?_ | exact Or.inr rfl | refine Or.inl ⟨?_, (by first | rfl | exact bH _ _)⟩ | refine Or.inr (All2.cons ?_ ?_) | refine All2.cons ?_ ?_ | exact All2.nil | rfl)))
  ·exact ⟨by dsimp only;omega, by simp [hxl], by simp [hm]⟩
  ·dsimp only;omega
 ·(apply dG (k + 1, xs ++ [2], m + 1); focus (refine Le.ren [(0, 0), (1, 1), (2, 4)] rfl (by decide) ?_ ?_ <;> repeat' (first | exact trivial | refine And.intro ⟨_, rfl, ?_⟩ ?_ | refine And.intro ⟨_, _, rfl, rfl, ?_⟩ ?_ | exact Or.inr rfl | refine Or.inl ⟨?_, (by first | rfl | exact bH _ _)⟩ | refine Or.inr (All2.cons ?_ ?_) | refine All2.cons ?_ ?_ | exact All2.nil | rfl)))
  ·exact ⟨by dsimp only;omega, by simp [hxl], by simp [hm]⟩
  ·dsimp only;omega
 ·(apply dG (k + 1, xs ++ [3], m + 1); focus (refine Le.ren [(0, 0), (1, 1), (2, 4)] rfl (by decide) ?_ ?_ <;> repeat' (first | exact trivial | refine And.intro ⟨_, rfl, ?_⟩ ?_ | refine And.intro ⟨_, _, rfl, rfl, ?_⟩ ?_ | exact Or.inr rfl | refine Or.inl ⟨?_, (by first | rfl | exact bH _ _)⟩ | refine Or.inr (All2.cons ?_ ?_) | refine All2.cons ?_ ?_ | exact All2.nil | rfl)))
  ·exact ⟨by dsimp only;omega, by simp [hxl], by simp [hm]⟩
  ·dsimp only;omega
 ·(apply dG (k + 1, xs ++ [4], m + 1); focus (refine Le.ren [(0, 0), (1, 1), (2, 4)] rfl (by decide) ?_ ?_ <;> repeat' (first | exact trivial | refine And.intro ⟨_, rfl, ?_⟩ ?_ | refine And.intro ⟨_, _, rfl, rfl, ?_⟩ ?_ | exact Or.inr rfl | refine Or.inl ⟨?_, (by first | rfl | exact bH _ _)⟩ | refine Or.inr (All2.cons ?_ ?_) | refine All2.cons ?_ ?_ | exact All2.nil | rfl)))
  ·exact ⟨by dsimp only;omega, by simp [hxl], by simp [hm]⟩
  ·dsimp only;omega
 ·(apply dG (k + 1, xs ++ [0], m + 1); focus (refine Le.ren [(0, 0), (1, 1), (2, 4)] rfl (by decide) ?_ ?_ <;> repeat' (first | exact trivial | refine And.intro ⟨_, rfl, ?_⟩ ?_ | refine And.intro ⟨_, _, rfl, rfl, ?_⟩ ?_ | exact Or.inr rfl | refine Or.inl ⟨?_, (by first | rfl | exact bH _ _)⟩ | refine Or.inr (All2.cons ?_ ?_) | refine All2.cons ?_ ?_ | exact All2.nil | rfl)))
  ·exact ⟨by dsimp only;omega, by simp [hxl], by simp [hm]⟩
  ·dsimp only;omega
 all_goals subst hm
 all_goals (refine dB (gI ?_ (Le.frzC (j := 1) (i := 2) [] rfl rfl (by decide))))
 all_goals repeat' (first|(apply aL;first|((with_reducible apply fE (k := 181));(case ha => rfl);(case h => (apply CS <;> omega));(case hp => (rfl));(case hN => rfl);(rintro _ ⟨l, nx, rfl, hql⟩ _))|((with_reducible apply aJ (k := 87));(case ha => rfl);(case h => exact lS ⟨xs, l⟩ (by show xs.length ≤ _; omega) (by show bO l ≤ 100000000;rcases hql with ⟨_, h9⟩|h9;(rw [h9]; decide);omega));(case hp => (exact Pur.pf));(case hN => rfl))|((with_reducible apply fE (k := 182));(case ha => rfl);(case h => exact tW ⟨xs, l⟩ (by assumption));(case hp => (exact Pur.pf));(case hN => rfl);(rintro _ ⟨t, rfl⟩ _))|(apply jT;rfl;rfl;(rfl);rfl)|(apply aE;rfl;rfl)|(apply aR;rfl;rfl;(exact (rfl:_=[_, _]));rfl;rfl;rfl)|(apply aD;rfl;rfl;rfl)|(first|(apply aY;rfl;rfl;rfl;(assumption))|(apply a7;rfl;rfl;rfl;(first|rfl|assumption))|(apply bE;(case hj|hb|hN => rfl);all_goals (intro hg;have hq := hg;(try simp only [cC] at hq);(try (exfalso;omega)))))|(first|(apply bN;rfl;rfl;omega;rfl)|(apply aU;rfl;rfl;rfl;rfl))|(apply aC;rfl;rfl)|(first|(apply bJ;rfl;(first|rfl|assumption);rfl;rfl)|(apply bC;rfl;(assumption);rfl;rfl))|(apply iK;rfl;rfl)|(apply aF;kernel_rfl)|(apply bY;rfl;(exact (rfl:_=some [_, _]));(exact (rfl:_=[_, _]));rfl)|(apply bW;rfl;rfl)|(apply aZ;rfl;rfl;rfl)|(apply aW;rfl;rfl;rfl;rfl;rfl;(case hl => (first|decide|(simp;done)));(exact (rfl:_=[_, _]))))|(apply aM;first|apply aH|apply aB|(apply bR;rfl;(rfl))|(apply aQ;rfl;all_goals intro hc;have hq:=hc;(try simp only [cC] at hq);try exfalso;omega)|apply aV|apply aO)|with_reducible apply aA|with_reducible apply a8)
 all_goals first
  | exact aK (l := [.agg [.imm 0 [], .imm 0 []], bv false]) rfl ⟨BJ false, rfl⟩
  | (refine aK (l := [.agg [.imm xs.length (aI cI xs), sl bB l], bv true]) rfl ⟨⟨⟨xs, l⟩, true, rfl, ?_, by show xs.length ≤ _; omega⟩, Pur.pf⟩
     show bO l ≤ _
     rcases hql with ⟨_, h9⟩|h9
     ·rw [h9]; simp [bO]
     ·omega)
class NumS (cs : List AV) (xs : outParam (List ByteArray)) : Prop where h : cs = aI wH xs
instance NumS.nil : NumS [] [] := ⟨rfl⟩
instance NumS.cons {n : ByteArray} {cs : List AV} {xs : List ByteArray} [h : NumS cs xs] : NumS (.v (.string n) :: cs) (n :: xs) := ⟨by rw [h.h]; rfl⟩
theorem AY {cs : List AV} {xs : List ByteArray} {m : Nat} (h : NumS cs xs) (hm : m = xs.length) (hs : xs.all (fun s => decide (s.size ≤ 600)) = true) : ∃ ys : List ByteArray, AV.imm m cs = sl wH ys ∧ ys.length = m ∧ ∀ i : Nat, (ys[i]!).size ≤ 600 := by
 refine ⟨xs, by rw [h.h, hm], hm.symm, fun i => ?_⟩
 by_cases hi : i < xs.length
 ·rw [List.all_eq_true] at hs
  rw [cV _ _ hi]
  simpa using hs _ (List.getElem_mem hi)
 ·rw [getElem!_neg xs i hi]; decide
theorem Av : PC Tryz.prog 126 [] (fun r => ∃ ys : List ByteArray, r = sl wH ys ∧ ys.length = 25 ∧ ∀ i : Nat, (ys[i]!).size ≤ 600) := by
 (refine aS Tryz.func126 rfl (by simp [Tryz.ntmps126]) ?_; rw [Tryz.ntmps126])
 repeat' (first|(apply aL;first|((apply bF (t := _));(case hze|hsm|hl => rfl);(case hfl => exact (rfl:_=some [_, _, _, _, _, _, _, _, _, _, _, _, _, _, _, _, _, _, _, _, _, _, _, _, _]));(case hM|hN => rfl))|(apply aC;rfl;rfl)|(apply aF;kernel_rfl))|(apply aM;first|apply aH|apply aB|apply aO)|with_reducible apply aA)
 refine oL (l := [.imm 25 [_, _, _, _, _, _, _, _, _, _, _, _, _, _, _, _, _, _, _, _, _, _, _, _, _]]) ?_ rfl ?_
 ·rintro _ ⟨ys, rfl, _⟩; exact bH _ _
 ·exact AY inferInstance rfl (by decide)
theorem oG {P : Program} {N : Nat} {Q : Exit → AS → Prop} {all : Array Oper} {rest : List Oper} {ts : List (Nat × AV)} {hs : List (Nat × Option (List AV))} {n : Nat} {z0 : Lo} {ty : TypeId} {pos : String} {af : Array Edge} {d : Nat} {args : Array Operand} {tys : Array TypeId}
  {k : FuncId} {pv : List AV} {p0 : Prg × Nat → Prop} {i p : Nat} {bs : List UInt8} (h : MC P k (.optr 0 0 :: pv) [(0, some (eF bs p))] 1 p0 (fun x => cW x.1) (fun x => [(0, some (eF bs x.2))])) [hc : CaT P k] (ha : evL (lk ts) args.toList = some (.optr i 0 :: pv)) (hpv : cO pv = true)
  (hH : b8 hs i = some (eF bs p)) (hM : Nat.ble (n + 0) dR = true) (hN : Nat.blt d N = true) (kk : ∀ x, p0 x → RW P N all Q .txt rest ⟨(d, cW x.1) :: ts, (i, some (eF bs x.2)) :: hs, n + 0, z0⟩) :
  RW P N all Q .txt (⟨some d, .call ⟨.value (.func k), args, tys⟩, ty, pos, af, none⟩ :: rest) ⟨ts, hs, n, z0⟩ :=
 A5 (σ := Prg × Nat) [i] 1 (fun x : Prg × Nat => [(i, some (eF bs x.2))]) h ha rfl ⟨⟨_, _, rfl, hH, RnL.purI inferInstance⟩, trivial⟩ rfl (RnL.cons (RnV.optr rfl) (RnL.pur hpv)) (by simpa using hM)
  (fun x _ => RnV.purI inferInstance) (fun x _ => by simp [cZ]) (fun x _ => ⟨⟨0, _, rfl, rfl, RnL.purI inferInstance⟩, trivial⟩) hN kk
theorem Bw (bs : List UInt8) (p : Nat) (xs : List Int) (lo hi : Int) (h0 : 0 < xs.length) (h : xs.all (fun x => decide (lo ≤ x) && decide (x ≤ hi)) = true) : lo ≤ gG bs p xs ∧ gG bs p xs ≤ hi := by
 have h1 := eZ bs p (xs.length : Int)
 rw [iH] at h
 have := h (cJ bs p (xs.length : Int)).toNat (by omega)
 simp only [Bool.and_eq_true, decide_eq_true_eq] at this
 exact this
theorem Fz (bs : List UInt8) (p : Nat) (hb : bs.length ≤ 2000) (hp : p ≤ 1000) : MC Tryz.prog 81 [.optr 0 0] [(0, some (eF bs p))] 1 (fun x : Prg × Nat => bO x.1.body ≤ 620 ∧ x.1.types.length ≤ 620 ∧ x.2 ≤ 2000) (fun x => cW x.1) (fun x => [(0, some (eF bs x.2))]) := by
 have h0 := eZ bs p 25
 have hn := Bw bs (p + 1 + 1) [5, 4, 7, 3, 8] 0 8 (by decide) (by decide)
 (refine bK Tryz.func81 rfl (by simp [Tryz.ntmps81]) ?_; rw [Tryz.ntmps81])
 repeat' (first|(apply aL;first|((with_reducible apply fE (k := 126));(case ha => rfl);(case h => exact Av);(case hp => (rfl));(case hN => rfl);(rintro _ ⟨ys, rfl, hyl, hsz⟩ _);(have hpk := eZ bs p (ys.length : Int)))|((with_reducible apply fE (k := 127));(case ha => rfl);(case h => exact pB _ (Nat.le_trans (hsz _) (by decide)));(case hp => (rfl));(case hN => rfl);(rintro _ ⟨q, b, rfl, hqc, hqt⟩ _))|((apply qP (ts := [1, 2, 2, 3, 4, 4]));(case ha0|ha1|ha2|ha3|hH0 => rfl);(case hmc => (apply CD <;> (first|assumption|omega)));(case hM|hN => rfl))|(apply aE;rfl;rfl)|(first|(apply aP;rfl;rfl;rfl;rfl)|(apply aR;rfl;rfl;(exact (rfl:_=[_, _]));rfl;rfl;rfl))|(apply aD;rfl;rfl;rfl)|(first|(apply aY;rfl;rfl;rfl;(assumption))|(apply a7;rfl;rfl;rfl;(assumption))|(apply bE;(case hj|hb|hN => rfl);all_goals (intro hg;have hq := hg;(try simp only [cC] at hq);(try (exfalso;omega)))))|(apply aU;rfl;rfl;rfl;rfl)|(apply aC;rfl;rfl)|(first|(apply bJ;rfl;(assumption);rfl;rfl)|(apply bC;rfl;(assumption);rfl;rfl))|(apply cM;(case hx|hi => rfl);(case hm => (omega));(case hml => (rfl));(case hα | hf|hg => infer_instance);(case hN => rfl))|(first|(apply sI;rfl;rfl;rfl;rfl;infer_instance;rfl;(rfl);assumption;omega;(decide);(decide);rfl;rfl)|(apply kL;rfl;rfl;(rfl);(apply mG <;> (first|assumption|omega));rfl;rfl))|(apply bM;rfl;rfl;rfl)|(apply aF;kernel_rfl)|(apply bY;rfl;(exact (rfl:_=some [_, _]));(exact (rfl:_=[_, _]));rfl)|(apply bD;rfl;rfl)|(apply aZ;rfl;rfl;rfl)|((apply bF (t := _));(case hze|hsm|hl => rfl);(case hfl => (exact (rfl:_=some [_, _, _, _, _, _])));(case hM|hN => rfl))|(apply bQ;rfl;rfl;rfl;(exact (rfl:_=some [_, _, _, _, _]));rfl;rfl)|(apply aW;rfl;rfl;rfl;rfl;rfl;(case hl => (first|decide|(simp;done)));(exact (rfl:_=[_, _]))))|(apply aM;first|apply aH|apply aB|(apply bZ;kernel_rfl)|(apply bR;rfl;(rfl))|(apply aQ;rfl;all_goals intro hc;have hq:=hc;(try simp only [cC] at hq);try exfalso;omega)|apply aV|apply aO)|with_reducible apply aA|with_reducible apply a8)
 ·have h9 := hsz (cJ bs p (ys.length : Int)).toNat
  refine aK rfl ?_
  exact bG (q, p + 1 + 1) ⟨by dsimp only;omega, by dsimp only;omega, by dsimp only;omega⟩ rfl ⟨.inr rfl, trivial⟩
 ·have h9 := D5 bs (d := 2) (by omega) (gG bs (p + 1 + 1) [5, 4, 7, 3, 8]) (p + 1 + 1 + 1)
  have h10 := rY bs (d := 2) (by omega) (gG bs (p + 1 + 1) [5, 4, 7, 3, 8]) (p + 1 + 1 + 1)
  refine aK rfl ?_
  exact bG ((⟨[1, 2, 2, 3, 4, 4], (dP bs 2 (gG bs (p + 1 + 1) [5, 4, 7, 3, 8]) (p + 1 + 1 + 1)).1⟩ : Prg), (dP bs 2 (gG bs (p + 1 + 1) [5, 4, 7, 3, 8]) (p + 1 + 1 + 1)).2) ⟨by dsimp only;omega, by show 6 ≤ 620;decide, by dsimp only;omega⟩ rfl ⟨.inr rfl, trivial⟩
 ·have h9 := hsz (cJ bs p (ys.length : Int)).toNat
  refine aK rfl ?_
  exact bG (q, p + 1 + 1) ⟨by dsimp only;omega, by dsimp only;omega, by dsimp only;omega⟩ rfl ⟨.inr rfl, trivial⟩
theorem wO {bs : List UInt8} {N : Nat} {Q : Exit → AS → Prop} {all : Array Oper} {rest : List Oper} {tsl : List (Nat × AV)} {hsl : List (Nat × Option (List AV))} {nidl : Nat} {z0 : Lo} {md : Md} {d : Nat} {ty : TypeId} {pos : String} {af : Array Edge} {tys : Array TypeId} {x0 : Operand} (ha0 : ev (lk tsl) x0 = some (sl cU bs)) (hmc : MC Tryz.prog 79 [sl cU bs] [] 0 (fun _ : Unit => True) (fun _ => .optr 0 0) (fun _ => [(0, some (eF (bs.take 2000) 0))])) (hM : Nat.ble (nidl + 1) dR = true) (hN : Nat.blt d N = true) {md' : Md} [hmd : MdA md (e7 [x0] ++ []) (List.map Sum.inr (List.map Prod.fst ([(nidl, some (eF (bs.take 2000) 0))] : List (Nat × Option (List AV)))) ++ [.inl d]) md'] (kk : RW Tryz.prog N all Q md' rest ⟨(d, .optr nidl 0) :: tsl, fS hsl [(nidl, some (eF (bs.take 2000) 0))], nidl + 1, z0⟩) : RW Tryz.prog N all Q md (⟨some d, .call ⟨.value (.func 79), #[x0], tys⟩, ty, pos, af, none⟩ :: rest) ⟨tsl, hsl, nidl, z0⟩ := by
 refine bP [] 1 [(nidl, some (eF (bs.take 2000) 0))] hmc (avs := [sl cU bs]) ?_ rfl ?_ rfl ?_ (by simpa using hM) ?_ ?_ ?_ hN (md' := md') (hmd := hmd) kk
 ·show evL (lk tsl) [x0] = _
  simp only [evL, ha0]
 ·exact trivial
 ·(repeat' (exact RnL.purI inferInstance))
 ·(repeat' (exact RnV.optr rfl))
 ·simp [cZ]
 ·(repeat' (first|exact trivial|(refine And.intro ⟨0, _, rfl, rfl, ?_⟩ ?_)|exact RnL.purI inferInstance))
theorem AK (bs : List UInt8) (hb : bs.length ≤ 1048576) : MC Tryz.prog 79 [sl cU bs] [] 0 (fun _ : Unit => True) (fun _ => .optr 0 0) (fun _ => [(0, some (eF (bs.take 2000) 0))]) := EZ bs hb
end Go.Proofs.YtckihjkcgfphmaaGreat
