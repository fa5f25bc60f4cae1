/-
 A part of the proofs over this program: rules and contracts of its functions (the rules).
-/
import Derived.Test.YtjcpngimjdckmaaGreatQ4A03
set_option linter.unusedVariables false
set_option linter.unusedSimpArgs false
namespace Go.AL
open Go.RowKit
set_option linter.unusedVariables false
set_option linter.unusedSimpArgs false
section
variable {P : Program} {N : Nat} {Q : Exit → AS → Prop} {all : Array Oper} {rest : List Oper} {ts : List (Nat × AV)} {hs : List (Nat × Option (List AV))} {n : Nat} {z0 : Lo} {md : Md}
variable {d : Nat} {ty : TypeId} {pos : String} {af : Array Edge}
def v9 : AV → Option (FuncId × List AV × List AV)
 | .clos (.func k) f c => some (k, f, c)
 | .v (.func (.func k) ⟨[]⟩ ⟨[]⟩) => some (k, [], [])
 | _ => none
theorem BU {w : World} {bad : Nat → Prop} {ι : Pl} {av : AV} {y : Value} {k : FuncId} {f c : List AV} (h : v9 av = some (k, f, c)) (hy : Rd w bad ι av y) :
  ∃ lf lc : List Value, y = .func (.func k) lf.toArray lc.toArray ∧ RdV w bad ι f lf ∧ RdV w bad ι c lc := by
 unfold v9 at h
 split at h
 ·cases h; simpa only [Rd] using hy
 ·cases h; simp only [Rd] at hy; exact ⟨[], [], hy, by simp [RdV], by simp [RdV]⟩
 ·cases h
theorem mZ {w : World} {bad : Nat → Prop} {ι : Pl} : ∀ {a b : List AV} {la lb : List Value}, RdV w bad ι a la → RdV w bad ι b lb → RdV w bad ι (a ++ b) (la ++ lb)
 | [], b, la, lb, h1, h2 => by simp only [RdV] at h1; subst h1; exact h2
 | x :: a, b, la, lb, h1, h2 => by
  simp only [RdV] at h1
  obtain ⟨y, l', rfl, h3, h4⟩ := h1
  simp only [List.cons_append, RdV]
  exact ⟨y, _, rfl, h3, mZ h4 h2⟩
theorem zI {k : FuncId} {t : Nat} {args : Array Operand} {tys : Array TypeId} (hc : fI P k = true) (dst : Option Tmp) (a : Act) (w : World) {lf lc : List Value} (hy : a.eval (.tmp t) = .func (.func k) lf.toArray lc.toArray) :
  (execOp a.eval ⟨dst, .call ⟨.value (.tmp t), args, tys⟩, ty, pos, af, none⟩).run P w = .ok (.enter k (lf ++ args.toList.map a.eval ++ lc).toArray) w := by
 simp only [execOp, Sem.run_bind, resolve, hy, Deferred.ofValue, Sem.run_pure, Result.andThen_ok, invoke, x6 hc]
 congr 2
 apply Array.ext'
 simp
theorem D5 {k : FuncId} {t : Nat} {args : Array Operand} {tys : Array TypeId} {avs f c : List AV} {fv : AV} {r : AV} (hc : fI P k = true) (hx : lk ts t = some fv) (hcl : v9 fv = some (k, f, c)) (ha : evL (lk ts) args.toList = some avs)
  (h : PC P k (f ++ avs ++ c) (fun x => x = r)) (hp : cO (f ++ avs ++ c) = true) (hN : d < N)
  (kk : RW P N all Q (md.add (rO (.tmp t) ++ jH args.toList) [.inl d]) rest ⟨(d, r) :: ts, hs, n, z0⟩) : RW P N all Q md (⟨some d, .call ⟨.value (.tmp t), args, tys⟩, ty, pos, af, none⟩ :: rest) ⟨ts, hs, n, z0⟩ := by
 refine jZ (rs := rO (.tmp t) ++ jH args.toList) (ws := []) (n' := n) (out := r) rfl (Nat.le_refl _) (.inl rfl) (fun C ι F T H a w K Q' hCN ag hF g gh hK => ?_) (fun x hx => by cases hx; exact hN) kk
 obtain ⟨lf, lc, hy, h1, h2⟩ := BU hcl (cX g (x := .tmp t) (ag.l.ev.trans hx))
 simp only [Oper.wp, zI hc _ a w hy, Oper.upon]
 refine (oW h hp gh (mZ (mZ h1 (iF g (ag.r.evL.trans ha))) h2)).mono ?_
 rintro e w' ⟨v, r', rfl, h2, h3, h4, h5, h6⟩
 subst h2
 exact hK ι w' v (g.carry h5) (h4.less (fun _ _ h => h) (fun j hj => hj.1)).1 h6
theorem lL {k : FuncId} {t : Nat} {args : Array Operand} {tys : Array TypeId} {avs f c : List AV} {fv : AV} {r : AV} (hx : lk ts t = some fv) (hcl : v9 fv = some (k, f, c)) (hc : CaT P k) (ha : evL (lk ts) args.toList = some avs)
  (h : PC P k (f ++ avs ++ c) (fun x => x = r)) (hp : cO (f ++ avs ++ c) = true) (hN : Nat.blt d N = true) {md' : Md} [hmd : MdA md (rO (.tmp t) ++ jH args.toList) [.inl d] md']
  (kk : RW P N all Q md' rest ⟨(d, r) :: ts, hs, n, z0⟩) : RW P N all Q md (⟨some d, .call ⟨.value (.tmp t), args, tys⟩, ty, pos, af, none⟩ :: rest) ⟨ts, hs, n, z0⟩ :=
 D5 hc.pf hx hcl ha h hp (dX hN) (by rw [hmd.pf]; exact kk)
theorem l3 {fn : Go.Fn} {fs cs : Array Operand} {f c : List AV} (hf : evL (lk ts) fs.toList = some f) (hc : evL (lk ts) cs.toList = some c) (hN : Nat.blt d N = true) {md' : Md} [hmd : MdA md (jH fs.toList ++ jH cs.toList) [.inl d] md']
  (kk : RW P N all Q md' rest ⟨(d, .clos fn f c) :: ts, hs, n, z0⟩) : RW P N all Q md (⟨some d, .makeFunc fn fs cs, ty, pos, af, none⟩ :: rest) ⟨ts, hs, n, z0⟩ := by
 refine dW (out := .clos fn f c) (rs := jH fs.toList ++ jH cs.toList) rfl rfl (dX hN) (fun C ι F T H a w ag g gh => ?_) (by rw [hmd.pf]; exact kk)
 refine ⟨.func fn (fs.map a.eval) (cs.map a.eval), by simp [execOp, Instr.makeFunc], ?_⟩
 simp only [Rd]
 exact ⟨fs.toList.map a.eval, cs.toList.map a.eval, by rw [← Array.toList_map, ← Array.toList_map, Array.toArray_toList, Array.toArray_toList], iF g (ag.l.evL.trans hf), iF g (ag.r.evL.trans hc)⟩
end
class Sm (n : Nat) : Prop where pf : n < 2 ^ 62
def mP (a b : Nat) : Nat := a ^^^ (a &&& b)
theorem dC (a b i : Nat) : (mP a b).testBit i = (a.testBit i && !b.testBit i) := by
 simp only [mP, Nat.testBit_xor, Nat.testBit_and]; cases a.testBit i <;> cases b.testBit i <;> rfl
instance (a b : Nat) [h : Sm a] [h2 : Sm b] : Sm (a ||| b) := ⟨Nat.or_lt_two_pow h.pf h2.pf⟩
instance (a b : Nat) [h : Sm a] : Sm (a &&& b) := ⟨Nat.lt_of_le_of_lt Nat.and_le_left h.pf⟩
instance (a b : Nat) [h : Sm a] : Sm (mP a b) := ⟨Nat.xor_lt_two_pow h.pf (Nat.lt_of_le_of_lt Nat.and_le_left h.pf)⟩
instance (a b : Nat) [h : Sm a] : Sm (a >>> b) := ⟨Nat.lt_of_le_of_lt (by rw [Nat.shiftRight_eq_div_pow]; exact Nat.div_le_self _ _) h.pf⟩
instance : Sm 0 := ⟨by decide⟩
instance : Sm 1 := ⟨by decide⟩
theorem Sm.pow {k : Nat} (h : k < 62) : Sm (2 ^ k) := ⟨Nat.pow_lt_pow_right (by decide) h⟩
class K6 (k : IntKind) : Prop where pf : k = .i64 ∨ k = .u64
instance : K6 .i64 := ⟨.inl rfl⟩
instance : K6 .u64 := ⟨.inr rfl⟩
theorem p7 {k : IntKind} [hk : K6 k] {a : Nat} (h : a < 2 ^ 62) : k.wrap (a : Int) = (a : Int) := by
 rcases hk.pf with rfl | rfl
 ·exact xQ (by omega)
 ·simp only [IntKind.wrap]
  first
  | (simp [IntKind.bits, IntKind.signed]; omega)
  | omega
theorem xP {k : IntKind} [hk : K6 k] : k.bits = 64 := by rcases hk.pf with rfl | rfl <;> rfl
theorem kH (a : Nat) (h : a < 2 ^ 62) : BitVec.ofInt 64 (a : Int) = BitVec.ofNat 64 a := oG (a : Int) ⟨by omega, by omega⟩
theorem lG (a : Nat) (h : a < 2 ^ 62) : (BitVec.ofNat 64 a).toNat = a := by rw [BitVec.toNat_ofNat, Nat.mod_eq_of_lt (by omega)]
theorem G3 {k : IntKind} [hk : K6 k] (a b : Nat) [ha : Sm a] [hb : Sm b] : gQ .or k a b = some (.int k ((a ||| b : Nat) : Int)) := by
 simp only [gQ]; rw [xP, kH a ha.pf, kH b hb.pf, BitVec.toNat_or, lG a ha.pf, lG b hb.pf, p7 (Nat.or_lt_two_pow ha.pf hb.pf)]
theorem xJ {k : IntKind} [hk : K6 k] (a b : Nat) [ha : Sm a] [hb : Sm b] : gQ .and k a b = some (.int k ((a &&& b : Nat) : Int)) := by
 simp only [gQ]; rw [xP, kH a ha.pf, kH b hb.pf, BitVec.toNat_and, lG a ha.pf, lG b hb.pf, p7 (Nat.and_lt_two_pow _ hb.pf)]
theorem Fc {k : IntKind} [hk : K6 k] (a b : Nat) [ha : Sm a] [hb : Sm b] : gQ .andNot k a b = some (.int k ((mP a b : Nat) : Int)) := by
 simp only [gQ]
 have e : (BitVec.ofInt 64 (a : Int) &&& ~~~ BitVec.ofInt 64 (b : Int)).toNat = mP a b := by
  rw [kH a ha.pf, kH b hb.pf]
  apply Nat.eq_of_testBit_eq
  intro i
  rw [BitVec.toNat_and, Nat.testBit_and, dC, lG a ha.pf]
  cases h : a.testBit i with
  | false => simp
  | true =>
   have hi : i < 64 := by
    rcases Nat.lt_or_ge i 62 with h1 | h1
    ·omega
    ·have := Nat.testBit_lt_two_pow (Nat.lt_of_lt_of_le ha.pf (Nat.pow_le_pow_right (by decide) h1)); rw [h] at this; cases this
   rw [← BitVec.getLsbD, BitVec.getLsbD_not, BitVec.getLsbD_ofNat]
   simp [hi]
 rw [xP, e, p7 (inferInstance : Sm (mP a b)).pf]
theorem CO {k : IntKind} [hk : K6 k] (m : Int) (h : 0 ≤ m ∧ m < 62) : gQ .shl k 1 m = some (.int k ((2 ^ m.toNat : Nat) : Int)) := by
 obtain ⟨j, rfl⟩ := Int.eq_ofNat_of_zero_le h.1
 simp only [gQ]
 rw [if_neg (by omega), xP, Int.toNat_natCast, Nat.min_eq_left (by omega), Int.one_mul]
 rw [show ((2 : Int) ^ j) = ((2 ^ j : Nat) : Int) by simp, p7 (Sm.pow (by omega)).pf]
theorem DQ {k : IntKind} [hk : K6 k] (a : Nat) [ha : Sm a] (m : Int) (h : 0 ≤ m ∧ m < 64) : gQ .shr k a m = some (.int k ((a >>> m.toNat : Nat) : Int)) := by
 obtain ⟨j, rfl⟩ := Int.eq_ofNat_of_zero_le h.1
 simp only [gQ]
 rw [if_neg (by omega), xP, Int.toNat_natCast, Nat.min_eq_left (by omega)]
 congr 2
 rw [Nat.shiftRight_eq_div_pow, Int.fdiv_eq_ediv_of_nonneg _ (by exact Int.le_of_lt (Int.pow_pos (by decide)))]
 simp
section
variable {P : Program} {N : Nat} {Q : Exit → AS → Prop} {all : Array Oper} {rest : List Oper} {ts : List (Nat × AV)} {hs : List (Nat × Option (List AV))} {n : Nat} {z0 : Lo} {md : Md}
variable {d : Nat} {ty : TypeId} {pos : String} {af : Array Edge}
theorem fU {k : IntKind} {t t' : TypeId} {x y : Operand} {a b : Nat} (hx : ev (lk ts) x = some (.v (.int k (a : Int)))) (hy : ev (lk ts) y = some (.v (.int k (b : Int)))) (hk : K6 k) (ha : Sm a) (hb : Sm b)
  (hN : Nat.blt d N = true) {md' : Md} [hmd : MdA md (rO x ++ rO y) [.inl d] md'] (kk : RW P N all Q md' rest ⟨(d, .v (.int k ((a ||| b : Nat) : Int))) :: ts, hs, n, z0⟩) : RW P N all Q md (⟨some d, .binOp .or t x y t', ty, pos, af, none⟩ :: rest) ⟨ts, hs, n, z0⟩ :=
 eZ hx hy (.inl rfl) (G3 a b) (dX hN) (by rw [hmd.pf]; exact kk)
theorem u6 {k : IntKind} {t t' : TypeId} {x y : Operand} {a b : Nat} (hx : ev (lk ts) x = some (.v (.int k (a : Int)))) (hy : ev (lk ts) y = some (.v (.int k (b : Int)))) (hk : K6 k) (ha : Sm a) (hb : Sm b)
  (hN : Nat.blt d N = true) {md' : Md} [hmd : MdA md (rO x ++ rO y) [.inl d] md'] (kk : RW P N all Q md' rest ⟨(d, .v (.int k ((a &&& b : Nat) : Int))) :: ts, hs, n, z0⟩) : RW P N all Q md (⟨some d, .binOp .and t x y t', ty, pos, af, none⟩ :: rest) ⟨ts, hs, n, z0⟩ :=
 eZ hx hy (.inl rfl) (xJ a b) (dX hN) (by rw [hmd.pf]; exact kk)
theorem nX {k : IntKind} {t t' : TypeId} {x y : Operand} {a b : Nat} (hx : ev (lk ts) x = some (.v (.int k (a : Int)))) (hy : ev (lk ts) y = some (.v (.int k (b : Int)))) (hk : K6 k) (ha : Sm a) (hb : Sm b)
  (hN : Nat.blt d N = true) {md' : Md} [hmd : MdA md (rO x ++ rO y) [.inl d] md'] (kk : RW P N all Q md' rest ⟨(d, .v (.int k ((mP a b : Nat) : Int))) :: ts, hs, n, z0⟩) : RW P N all Q md (⟨some d, .binOp .andNot t x y t', ty, pos, af, none⟩ :: rest) ⟨ts, hs, n, z0⟩ :=
 eZ hx hy (.inl rfl) (Fc a b) (dX hN) (by rw [hmd.pf]; exact kk)
theorem jR {k k' : IntKind} {t t' : TypeId} {x y : Operand} {m : Int} (hx : ev (lk ts) x = some (.v (.int k 1))) (hy : ev (lk ts) y = some (.v (.int k' m))) (hk : K6 k) (h : 0 ≤ m ∧ m < 62)
  (hN : Nat.blt d N = true) {md' : Md} [hmd : MdA md (rO x ++ rO y) [.inl d] md'] (kk : Sm (2 ^ m.toNat) → RW P N all Q md' rest ⟨(d, .v (.int k ((2 ^ m.toNat : Nat) : Int))) :: ts, hs, n, z0⟩) : RW P N all Q md (⟨some d, .binOp .shl t x y t', ty, pos, af, none⟩ :: rest) ⟨ts, hs, n, z0⟩ :=
 eZ hx hy (.inr (.inl rfl)) (CO m h) (dX hN) (by rw [hmd.pf]; exact kk (Sm.pow (by omega)))
theorem pR {k k' : IntKind} {t t' : TypeId} {x y : Operand} {a : Nat} {m : Int} (hx : ev (lk ts) x = some (.v (.int k (a : Int)))) (hy : ev (lk ts) y = some (.v (.int k' m))) (hk : K6 k) (ha : Sm a) (h : 0 ≤ m ∧ m < 64)
  (hN : Nat.blt d N = true) {md' : Md} [hmd : MdA md (rO x ++ rO y) [.inl d] md'] (kk : RW P N all Q md' rest ⟨(d, .v (.int k ((a >>> m.toNat : Nat) : Int))) :: ts, hs, n, z0⟩) : RW P N all Q md (⟨some d, .binOp .shr t x y t', ty, pos, af, none⟩ :: rest) ⟨ts, hs, n, z0⟩ :=
 eZ hx hy (.inr (.inr rfl)) (DQ a m h) (dX hN) (by rw [hmd.pf]; exact kk)
end
end Go.AL
namespace Go.AL
mutual
def nD : Stmt → Nat
 | .mk op _ _ _ th el => if op = 9 then 2 + dL th + dL el else if op = 10 then 2 + dL th else 1
def dL : List Stmt → Nat
 | [] => 0
 | s :: l => nD s + dL l
end
mutual
def zD (b : Nat) : Stmt → List Pnt
 | .mk op x y n th el =>
  if op = 9 then [⟨9, 0, 0, 0, [(b : Int) + 1, (b : Int) + 1 + dL th + 1]⟩] ++ gF (b + 1) th ++ [⟨10, 0, 0, 1, [(b : Int) + 2 + dL th + dL el]⟩] ++ gF (b + 2 + dL th) el
  else if op = 10 then [⟨10, 0, 0, 0, [(b : Int) + 1, (b : Int) + 2 + dL th]⟩] ++ gF (b + 1) th ++ [⟨10, 0, 0, 1, [(b : Int)]⟩]
  else [⟨op, x, y, n, [(b : Int) + 1]⟩]
def gF (b : Nat) : List Stmt → List Pnt
 | [] => []
 | s :: l => zD b s ++ gF (b + nD s) l
end
mutual
theorem BB : ∀ (s : Stmt) (b : Nat), (zD b s).length = nD s
 | .mk op x y n th el, b => by
  have h1 := cS th (b + 1)
  have h2 := cS el (b + 2 + dL th)
  simp only [zD, nD]
  split
  ·simp [h1, h2]; omega
  ·split
   ·simp [h1]; omega
   ·simp
theorem cS : ∀ (l : List Stmt) (b : Nat), (gF b l).length = dL l
 | [], b => by simp [gF, dL]
 | s :: l, b => by simp only [gF, dL, List.length_append, BB s b, cS l (b + nD s)]
end
mutual
theorem HX : ∀ (s : Stmt), nD s ≤ 2 * dH s
 | .mk op x y n th el => by
  have h1 := jG th
  have h2 := jG el
  simp only [nD, dH]; split
  ·omega
  ·split <;> omega
theorem jG : ∀ (l : List Stmt), dL l ≤ 2 * bJ l
 | [] => by simp [dL, bJ]
 | s :: l => by have h1 := HX s; have h2 := jG l; simp only [dL, bJ]; omega
end
theorem m6 : ∀ a b, dL (a ++ b) = dL a + dL b
 | [], b => by simp [dL]
 | s :: a, b => by simp only [List.cons_append, dL, m6 a b]; omega
theorem m8 : ∀ (a b : List Stmt) (k : Nat), gF k (a ++ b) = gF k a ++ gF (k + dL a) b
 | [], b, k => by simp [gF, dL]
 | s :: a, b, k => by simp only [List.cons_append, gF, dL, m8 a b, List.append_assoc, Nat.add_assoc]
theorem gG (l : List Stmt) (b k : Nat) (hk : k < l.length) : gF b (l.take (k + 1)) = gF b (l.take k) ++ zD (b + dL (l.take k)) l[k]! := by
 rw [c7 _ _ hk, m8]; simp [gF]
theorem fP (l : List Stmt) (k : Nat) (hk : k < l.length) : dL (l.take (k + 1)) = dL (l.take k) + nD l[k]! := by
 rw [c7 _ _ hk, m6]; simp [dL]
theorem lX (l : List Stmt) (k : Nat) : dL (l.take k) ≤ dL l := by
 conv => rhs; rw [← List.take_append_drop k l]
 rw [m6]; omega
theorem vX (s : Stmt) : nD s = if s.op = 9 then 2 + dL s.th + dL s.el else if s.op = 10 then 2 + dL s.th else 1 := by
 cases s; simp only [nD, Stmt.op, Stmt.th, Stmt.el]; rfl
theorem iL (b : Nat) (s : Stmt) : zD b s = if s.op = 9 then [⟨9, 0, 0, 0, [(b : Int) + 1, (b : Int) + 1 + dL s.th + 1]⟩] ++ gF (b + 1) s.th ++ [⟨10, 0, 0, 1, [(b : Int) + 2 + dL s.th + dL s.el]⟩] ++ gF (b + 2 + dL s.th) s.el
  else if s.op = 10 then [⟨10, 0, 0, 0, [(b : Int) + 1, (b : Int) + 2 + dL s.th]⟩] ++ gF (b + 1) s.th ++ [⟨10, 0, 0, 1, [(b : Int)]⟩]
  else [⟨s.op, s.x, s.y, s.n, [(b : Int) + 1]⟩] := by
 cases s; simp only [zD, Stmt.op, Stmt.th, Stmt.el, Stmt.x, Stmt.y, Stmt.n]; rfl
def aR (p : Prg) : List Pnt := gF 0 p.body ++ [⟨11, 0, 0, 0, []⟩]
theorem iW (p : Prg) : (aR p).length = dL p.body + 1 := by simp [aR, cS]
theorem j9 {α : Type} {f : α → List AV} {e : Nat} [h : FlT f e] {xs : List α} {m : Nat} {new : List AV} {y : α} (hm : m = xs.length) (hn : new = f y) : ((flat f xs).drop 0).take (m * e) ++ new = flat f (xs ++ [y]) := by
 subst hm hn
 rw [List.drop_zero, List.take_of_length_le (by rw [aK f (e := e)]; exact Nat.le_refl _), ← cT, lP]
theorem lH {xs : List Pnt} {m : Nat} {a b c d : Int} (hm : m = xs.length) : ((flat dF xs).drop 0).take (m * 5) ++ [iv a, iv b, iv c, iv d, .imm 0 []] = flat dF (xs ++ [⟨a, b, c, d, []⟩]) := j9 hm rfl
theorem qK {xs : List Pnt} {m : Nat} {a b c d e : Int} (hm : m = xs.length) : ((flat dF xs).drop 0).take (m * 5) ++ [iv a, iv b, iv c, iv d, .imm 1 [iv e]] = flat dF (xs ++ [⟨a, b, c, d, [e]⟩]) := j9 hm rfl
theorem mF {xs : List Int} {m : Nat} {a : Int} (hm : m = xs.length) : ((flat cI xs).drop 0).take (m * 1) ++ [iv a] = flat cI (xs ++ [a]) := j9 hm rfl
theorem Gi (A B C new : List AV) (j : Nat) (hj : j + new.length ≤ B.length) : g8 (A ++ (B ++ C)) (A.length + j) new = A ++ (g8 B j new ++ C) := by
 unfold g8
 rw [List.take_length_add_append, Nat.add_assoc, List.drop_length_add_append, List.take_append_of_le_length (by omega), List.drop_append_of_le_length hj]
 simp only [List.append_assoc]
theorem AN {α : Type} [Inhabited α] {f : α → List AV} {e : Nat} [h : FlT f e] {xs : List α} {k : Nat} (hk : k < xs.length) : flat f xs = flat f (xs.take k) ++ (f xs[k]! ++ flat f (xs.drop (k + 1))) := by
 rw [← gA f (e := e) xs k hk, ← fA f (e := e), List.take_append_drop]
theorem mC {α : Type} [Inhabited α] {f : α → List AV} {e : Nat} [h : FlT f e] {xs : List α} {k j : Nat} {new : List AV} {y : α} (hk : k < xs.length) (hj : j + new.length ≤ e) (hy : g8 (f xs[k]!) j new = f y) : g8 (flat f xs) (0 + k * e + j) new = flat f (xs.set k y) := by
 have h3 : (flat f (xs.take k)).length = k * e := by rw [aK f (e := e), List.length_take]; congr 1; omega
 rw [AN (e := e) hk, Nat.zero_add, ← h3, Gi _ _ _ _ _ (by rw [h.pf]; exact hj), hy, List.set_eq_take_append_cons_drop, if_pos hk, ← cT]
 simp only [flat, List.flatMap_cons]
theorem l5 {α : Type} [Inhabited α] {f : α → List AV} {e : Nat} [h : FlT f e] {xs : List α} {k : Nat} {new : List AV} {y : α} (hk : k < xs.length) (hy : new = f y) : g8 (flat f xs) (0 + k * e) new = flat f (xs.set k y) := by
 subst hy
 rw [Nat.zero_add]; exact Fi f xs k y hk
theorem sO {xs : List Pnt} {k : Nat} {a : Int} (hk : k < xs.length) : g8 (flat dF xs) (0 + k * 5 + 4) [.imm 1 [iv a]] = flat dF (xs.set k { xs[k]! with next := [a] }) := mC hk (by simp) rfl
theorem qJ {xs : List Pnt} {k : Nat} {a b : Int} (hk : k < xs.length) : g8 (flat dF xs) (0 + k * 5 + 4) [.imm 2 [iv a, iv b]] = flat dF (xs.set k { xs[k]! with next := [a, b] }) := mC hk (by simp) rfl
theorem fT {xs : List Bool} {k : Nat} {a : Bool} (hk : k < xs.length) : g8 (flat cB xs) (0 + k * 1) [bv a] = flat cB (xs.set k a) := l5 hk rfl
end Go.AL
namespace Go.AL
theorem Eg (s : Stmt) : s.op = 9 → nD s = 2 + dL s.th + dL s.el := by intro h; rw [vX, if_pos h]
theorem AK (s : Stmt) : s.op = 10 → nD s = 2 + dL s.th := by intro h; rw [vX, if_neg (by omega), if_pos h]
theorem E3 (s : Stmt) : ¬ s.op = 9 → ¬ s.op = 10 → nD s = 1 := by intro h h2; rw [vX, if_neg h, if_neg h2]
theorem Ax (l : List Stmt) (k : Nat) : k < l.length → dL (l.take k) + nD l[k]! ≤ dL l := by
 intro h; have := lX l (k + 1); rw [fP l k h] at this; exact this
end Go.AL
namespace Go.AL
theorem pX {α : Type} (A : List α) (x y : α) (B : List α) : (A ++ x :: B).set A.length y = A ++ y :: B := by
 rw [List.set_append_right _ _ (Nat.le_refl _), Nat.sub_self, List.set_cons_zero]
theorem u7 {α : Type} [Inhabited α] (A : List α) (x : α) (B : List α) : (A ++ x :: B)[A.length]! = x := by
 rw [dG _ _ (by simp), List.getElem_append_right (Nat.le_refl _)]; simp
theorem vM {xs T E : List Pnt} {p q : Pnt} {m : Nat} (hm : m = xs.length) : (xs ++ [p] ++ T ++ [q] ++ E)[m]! = p := by
 subst hm; simp only [List.append_assoc, List.singleton_append, List.cons_append, List.nil_append]; exact u7 _ _ _
theorem vO {xs T E : List Pnt} {p q p' : Pnt} {m : Nat} (hm : m = xs.length) : (xs ++ [p] ++ T ++ [q] ++ E).set m p' = xs ++ [p'] ++ T ++ [q] ++ E := by
 subst hm; simp only [List.append_assoc, List.singleton_append, List.cons_append, List.nil_append]; exact pX _ _ _ _
theorem vI {xs T E : List Pnt} {p q : Pnt} {j : Nat} (hj : j = xs.length + 1 + T.length) : (xs ++ [p] ++ T ++ [q] ++ E)[j]! = q := by
 have h : j = (xs ++ [p] ++ T).length := by simp [hj]; omega
 subst h
 rw [show xs ++ [p] ++ T ++ [q] ++ E = (xs ++ [p] ++ T) ++ q :: E by simp]; exact u7 _ _ _
theorem uU {xs T E : List Pnt} {p q q' : Pnt} {j : Nat} (hj : j = xs.length + 1 + T.length) : (xs ++ [p] ++ T ++ [q] ++ E).set j q' = xs ++ [p] ++ T ++ [q'] ++ E := by
 have h : j = (xs ++ [p] ++ T).length := by simp [hj]; omega
 subst h
 rw [show xs ++ [p] ++ T ++ [q] ++ E = (xs ++ [p] ++ T) ++ q :: E by simp, pX]; simp
theorem Ai {xs T : List Pnt} {p q : Pnt} {m : Nat} (hm : m = xs.length) : (xs ++ [p] ++ T ++ [q])[m]! = p := by
 subst hm; simp only [List.append_assoc, List.singleton_append, List.cons_append, List.nil_append]; exact u7 _ _ _
theorem zM {xs T : List Pnt} {p q p' : Pnt} {m : Nat} (hm : m = xs.length) : (xs ++ [p] ++ T ++ [q]).set m p' = xs ++ [p'] ++ T ++ [q] := by
 subst hm; simp only [List.append_assoc, List.singleton_append, List.cons_append, List.nil_append]; exact pX _ _ _ _
end Go.AL
namespace Go.AL
structure WG (ts : List Int) (pts : List Pnt) : Prop where
 tl : ts.length ≤ 6
 ty : ∀ v, v < ts.length → 1 ≤ ts[v]! ∧ ts[v]! ≤ 4
 pl : pts.length ≤ 61
 p0 : 0 < pts.length
 nx : ∀ i, i < pts.length → ∀ k ∈ pts[i]!.next, 0 ≤ k ∧ k < pts.length
 nl : ∀ i, i < pts.length → pts[i]!.next.length ≤ 2
 op : ∀ i, i < pts.length → 1 ≤ pts[i]!.op ∧ pts[i]!.op ≤ 11
 x : ∀ i, i < pts.length → 0 ≤ pts[i]!.x ∧ (pts[i]!.op ≤ 8 → pts[i]!.x < ts.length)
 y : ∀ i, i < pts.length → 0 ≤ pts[i]!.y ∧ (3 ≤ pts[i]!.op → pts[i]!.op ≤ 7 → pts[i]!.y < ts.length)
def H8 (nv b e : Nat) (x : Pnt) : Prop := (∀ k ∈ x.next, 0 ≤ k ∧ k < (e : Int)) ∧ x.next.length ≤ 2 ∧ 1 ≤ x.op ∧ x.op ≤ 11 ∧ 0 ≤ x.x ∧ (x.op ≤ 8 → x.x < (nv : Int)) ∧ 0 ≤ x.y ∧ (3 ≤ x.op → x.op ≤ 7 → x.y < (nv : Int))
theorem AF {ts : List Int} (ht : cP ts = true) {s : Stmt} (h : fK ts s = true) : 1 ≤ s.op ∧ s.op ≤ 8 ∧ 0 ≤ s.x ∧ s.x < ts.length ∧ 0 ≤ s.y ∧ (3 ≤ s.op → s.op ≤ 7 → s.y < ts.length) := by
 have hx := fV ht s.x
 have hy := fV ht s.y
 have bx := iQ ht s.x
 have by' := iQ ht s.y
 unfold fK at h
 dsimp only at h
 repeat' split at h
 all_goals first
  | (simp only [decide_eq_true_eq] at h; omega)
  | (cases h; done)
mutual
theorem Ib {ts : List Int} (ht : cP ts = true) : ∀ (s : Stmt) (d b e : Nat), tL ts d s = true → b + nD s < e → ∀ x ∈ zD b s, H8 ts.length b e x
 | .mk op x y n th el, d, b, e, h, hb => by
  simp only [tL] at h
  split at h
  ·rename_i hop
   simp only [Bool.and_eq_true] at h
   have hs := AF ht h.2
   simp only [Stmt.op, Stmt.x, Stmt.y] at hs
   simp only [nD, hop.1, hop.2, if_false] at hb
   simp only [zD, hop.1, hop.2, if_false, List.mem_singleton]
   rintro z rfl
   refine ⟨?_, by simp, hs.1, by show op ≤ 11; omega, hs.2.2.1, fun _ => hs.2.2.2.1, hs.2.2.2.2.1, hs.2.2.2.2.2⟩
   simp only [List.mem_singleton]; rintro k rfl; omega
  ·rename_i hop
   cases d with
   | zero => cases h
   | succ d =>
    simp only [Bool.and_eq_true, decide_eq_true_eq] at h
    obtain ⟨⟨⟨_, _⟩, h1⟩, h2⟩ := h
    by_cases h9 : op = 9
    ·subst h9
     simp only [nD, if_true] at hb
     simp only [zD, if_true, List.mem_append, List.mem_singleton]
     rintro z (((rfl | hz) | rfl) | hz)
     ·refine ⟨?_, by simp, by simp, by simp, by simp, by simp, by simp, by simp⟩
      simp only [List.mem_cons, List.not_mem_nil, or_false]; rintro k (rfl | rfl) <;> omega
     ·exact sD ht th d (b + 1) e h1 (by omega) z hz
     ·refine ⟨?_, by simp, by simp, by simp, by simp, by simp, by simp, by simp⟩
      simp only [List.mem_singleton]; rintro k rfl; omega
     ·exact sD ht el d (b + 2 + dL th) e h2 (by omega) z hz
    ·have h10 : op = 10 := by omega
     subst h10
     simp only [nD, if_true, show ((10 : Int) = 9) = False by simp, if_false] at hb
     simp only [zD, if_true, show ((10 : Int) = 9) = False by simp, if_false, List.mem_append, List.mem_singleton]
     rintro z ((rfl | hz) | rfl)
     ·refine ⟨?_, by simp, by simp, by simp, by simp, by simp, by simp, by simp⟩
      simp only [List.mem_cons, List.not_mem_nil, or_false]; rintro k (rfl | rfl) <;> omega
     ·exact sD ht th d (b + 1) e h1 (by omega) z hz
     ·refine ⟨?_, by simp, by simp, by simp, by simp, by simp, by simp, by simp⟩
      simp only [List.mem_singleton]; rintro k rfl; omega
theorem sD {ts : List Int} (ht : cP ts = true) : ∀ (l : List Stmt) (d b e : Nat), okL ts d l = true → b + dL l < e → ∀ x ∈ gF b l, H8 ts.length b e x
 | [], d, b, e, h, hb => by simp [gF]
 | s :: l, d, b, e, h, hb => by
  simp only [okL, Bool.and_eq_true] at h
  simp only [dL] at hb
  simp only [gF, List.mem_append]
  rintro x (hx | hx)
  ·exact Ib ht s d b e h.1 (by omega) x hx
  ·exact sD ht l d (b + nD s) e h.2 (by omega) x hx
end
theorem WG.of_valid {p : Prg} (h : cM p = true) : WG p.types (aR p) := by
 unfold cM at h
 simp only [Bool.and_eq_true, decide_eq_true_eq] at h
 obtain ⟨⟨ht, hl⟩, hc⟩ := h
 have hn := jG p.body
 have hlen := iW p
 have key : ∀ i, i < (aR p).length → H8 p.types.length 0 (aR p).length (aR p)[i]! := by
  intro i hi
  have hm := dD _ i hi
  unfold aR at hm
  rw [List.mem_append, List.mem_singleton] at hm
  rcases hm with hm | hm
  ·exact sD ht p.body 4 0 _ hl (by omega) _ hm
  ·unfold aR; rw [hm]; exact ⟨by simp, by simp, by simp, by simp, by simp, by simp, by simp, by simp⟩
 exact ⟨eJ ht, kS ht, by omega, by omega, fun i hi => (key i hi).1, fun i hi => (key i hi).2.1, fun i hi => ⟨(key i hi).2.2.1, (key i hi).2.2.2.1⟩,
  fun i hi => ⟨(key i hi).2.2.2.2.1, (key i hi).2.2.2.2.2.1⟩, fun i hi => ⟨(key i hi).2.2.2.2.2.2.1, (key i hi).2.2.2.2.2.2.2⟩⟩
inductive Clo {α : Type} (S : α → Prop) (R : α → α → Prop) : α → Prop
 | base {a : α} (h : S a) : Clo S R a
 | step {a b : α} (h : Clo S R a) (r : R a b) : Clo S R b
theorem Clo.sub {α : Type} {S : α → Prop} {R : α → α → Prop} {T : α → Prop} (h1 : ∀ a, S a → T a) (h2 : ∀ a b, T a → R a b → T b) : ∀ a, Clo S R a → T a := by
 intro a h
 induction h with
 | base h => exact h1 _ h
 | step _ r ih => exact h2 _ _ ih r
def eM (pts : List Pnt) (i k : Nat) : Prop := i < pts.length ∧ (k : Int) ∈ pts[i]!.next
def Mb (ts : List Int) (pts : List Pnt) (a : Nat × Nat) : Prop := Clo (fun a => ∃ i, eM pts i a.1 ∧ bR pts[i]! = a.2) (fun a b => b.2 = a.2 ∧ eM pts a.1 b.1 ∧ cE ts pts[a.1]! a.2 ≠ 2) a
def Na (ts : List Int) (pts : List Pnt) (a : Nat × Nat) : Prop := Clo (fun a => a.2 < ts.length ∧ (a.1 = 0 ∨ ∃ i, eM pts i a.1 ∧ cE ts pts[i]! a.2 = 2 ∧ bR pts[i]! ≠ a.2)) (fun a b => b.2 = a.2 ∧ eM pts a.1 b.1 ∧ bR pts[a.1]! ≠ a.2) a
def Nd (ts : List Int) (pts : List Pnt) (a : Nat × Nat) : Prop := Clo (fun a => a.1 < pts.length ∧ a.2 < ts.length ∧ cE ts pts[a.1]! a.2 ≠ 0) (fun a b => b.2 = a.2 ∧ eM pts b.1 a.1 ∧ bR pts[b.1]! ≠ a.2) a
def Lv (ts : List Int) (pts : List Pnt) (i v : Nat) : Prop := ∃ k, eM pts i k ∧ Nd ts pts (k, v)
def c9 (x : Pnt) : Bool := decide (x.op = 4) || decide (x.op = 5)
def Dm (ts : List Int) (pts : List Pnt) (a : Nat × Nat × Nat) : Prop := Clo (fun a => eM pts a.2.2 a.1 ∧ c9 pts[a.2.2]! = true ∧ bR pts[a.2.2]! = a.2.1)
 (fun a b => b.2.2 = a.2.2 ∧ eM pts a.1 b.1 ∧ ((bR pts[a.1]! ≠ b.2.1 ∧ b.2.1 = a.2.1 ∧ cE ts pts[a.1]! a.2.1 ≠ 2) ∨
  (bR pts[a.1]! = b.2.1 ∧ (a.2.1 : Int) = pts[a.1]!.y ∧ ((c9 pts[a.1]! = true ∧ jW ts[a.2.1]! = true) ∨ pts[a.1]!.op = 3)))) a
def FW (ts : List Int) (pts : List Pnt) (a : Nat × Nat) : Prop := Clo (fun a => eM pts a.2 a.1 ∧ c9 pts[a.2]! = true)
 (fun a b => b.2 = a.2 ∧ eM pts a.1 b.1 ∧ cE ts pts[a.1]! pts[a.2]!.y ≠ 2 ∧ bR pts[a.1]! ≠ pts[a.2]!.y) a
def fF (f : Nat → Bool) : Nat → Nat
 | 0 => 0
 | n + 1 => fF f n ||| (if f n then 2 ^ n else 0)
theorem fG (f : Nat → Bool) : ∀ (n i : Nat), (fF f n).testBit i = (decide (i < n) && f i)
 | 0, i => by simp [fF]
 | n + 1, i => by
  rw [fF, Nat.testBit_or, fG f n i]
  by_cases h : i = n
  ·subst h; cases hf : f i <;> simp [Nat.testBit_two_pow_self]
  ·have : ((if f n = true then 2 ^ n else 0).testBit i) = false := by
    split
    ·exact Nat.testBit_two_pow_of_ne (fun e => h e.symm)
    ·simp
   rw [this, Bool.or_false]
   congr 1
   simp only [decide_eq_decide]; omega
theorem tP (f : Nat → Bool) (n : Nat) : fF f n < 2 ^ n := by
 apply Nat.lt_pow_two_of_testBit
 intro i hi
 rw [fG]; simp; omega
theorem fB {f : Nat → Bool} {n : Nat} (h : n ≤ 62) : Sm (fF f n) := ⟨Nat.lt_of_lt_of_le (tP f n) (Nat.pow_le_pow_right (by decide) h)⟩
theorem jD {σ ι : Type} (stp : σ × Bool → ι → σ × Bool) (C : ι → σ → Prop) (μ : σ → Nat) (S : σ → Prop) :
  ∀ (L : List ι), (∀ s b i, i ∈ L → S s → S (stp (s, b) i).1 ∧ ((stp (s, b) i = (s, b) ∧ C i s) ∨ ((stp (s, b) i).2 = true ∧ μ (stp (s, b) i).1 < μ s))) →
  ∀ s b, S s → S (L.foldl stp (s, b)).1 ∧ ((L.foldl stp (s, b) = (s, b) ∧ ∀ i ∈ L, C i s) ∨ ((L.foldl stp (s, b)).2 = true ∧ μ (L.foldl stp (s, b)).1 < μ s))
 | [], _, s, b, hs => ⟨hs, .inl ⟨rfl, by simp⟩⟩
 | i :: L, h, s, b, hs => by
  have h1 := h s b i (List.mem_cons_self) hs
  simp only [List.foldl_cons]
  generalize stp (s, b) i = r at h1
  obtain ⟨s', b'⟩ := r
  have h2 := jD stp C μ S L (fun s b j hj => h s b j (List.mem_cons_of_mem _ hj)) s' b' h1.1
  refine ⟨h2.1, ?_⟩
  rcases h1.2 with ⟨e1, c1⟩ | ⟨e1, c1⟩
  ·cases e1
   rcases h2.2 with ⟨e2, c2⟩ | ⟨e2, c2⟩
   ·exact .inl ⟨e2, fun j hj => by rcases List.mem_cons.1 hj with rfl | hj; exact c1; exact c2 j hj⟩
   ·exact .inr ⟨e2, c2⟩
  ·rcases h2.2 with ⟨e2, c2⟩ | ⟨e2, c2⟩
   ·rw [e2]; exact .inr ⟨e1, c1⟩
   ·exact .inr ⟨e2, by dsimp only at c1; omega⟩
theorem eV {σ ι : Type} [Inhabited ι] (f : σ → ι → σ) (L : List ι) (s : σ) (k : Nat) (h : k < L.length) : (L.take (k + 1)).foldl f s = f ((L.take k).foldl f s) L[k]! := by
 rw [c7 _ _ h, List.foldl_append]; rfl
def fM (l : List Nat) : Nat := l.foldr (· + ·) 0
theorem nT (g : Nat → Nat) : ∀ (l : List Nat) (k : Nat) (x : Nat), k < l.length → fM ((l.set k x).map g) + g l[k]! = fM (l.map g) + g x
 | a :: l, 0, x, _ => by simp [fM]; omega
 | a :: l, k + 1, x, h => by
  have := nT g l k x (by simpa using h)
  have e : (a :: l)[k + 1]! = l[k]! := by rw [dG _ _ h, dG _ _ (by simpa using h)]; rfl
  rw [e]
  simp only [List.set_cons_succ, List.map_cons, fM, List.foldr_cons] at this ⊢
  omega
end Go.AL
namespace Go.AL
abbrev aG (ts : List Int) (bd : List Stmt) (pts : List Pnt) : AV := .iptr [sl cI ts, sl aN bd, sl dF pts]
def Hf (t : Int) : Bool := decide (t = 2) || decide (t = 4)
def wS (ts : List Int) (x : Pnt) (us : List Int) : Nat := fF (fun v => decide (cE ts x v ∈ us)) ts.length
def hO (x : Pnt) : Nat := if 0 ≤ bR x then 2 ^ (bR x).toNat else 0
def iA (ts : List Int) (x : Pnt) (A : Nat) : Nat := mP A (wS ts x [2]) ||| hO x
theorem pM {x : Pnt} (h : bR x < 62) : Sm (hO x) := by
 unfold hO; split
 ·exact Sm.pow (by omega)
 ·infer_instance
theorem qM (ts : List Int) (x : Pnt) (v : Int) : 0 ≤ cE ts x v ∧ cE ts x v ≤ 3 := by
 unfold cE; grind
theorem WG.set {ts : List Int} {pts : List Pnt} (h : WG ts pts) (i : Nat) (hi : i < pts.length) : bR pts[i]! < ts.length ∧ (0 ≤ bR pts[i]! ∨ bR pts[i]! = -1) := by
 have := h.x i hi
 have := h.tl
 unfold bR; split <;> omega
end Go.AL
namespace Go.AL
theorem o3 (f : Nat → Bool) (k : Nat) (h : f k = true) : fF f k ||| 2 ^ k = fF f (k + 1) := by rw [fF, if_pos h]
theorem lT (f : Nat → Bool) (k : Nat) (h : f k = false) : fF f k = fF f (k + 1) := by rw [fF, if_neg (by simp [h]), Nat.or_zero]
end Go.AL
namespace Go.AL
open Go.RowKit
set_option linter.unusedVariables false
set_option linter.unusedSimpArgs false
theorem kM {i : Nat} {hs : List (Nat × Option (List AV))} {id : Nat} {cs : List AV} (h : bU ((i, none) :: hs) id = some cs) : bU hs id = some cs ∧ id ≠ i := by
 rw [dN] at h
 split at h
 ·cases h
 ·rename_i e; exact ⟨h, e⟩
theorem Le.frzD {ts : List (Nat × AV)} {hs : List (Nat × Option (List AV))} {n : Nat} {z0 : Lo} {d i m e : Nat} {cs : List AV} (hd : lk ts d = some (.own i 0 m e)) (hi : bU hs i = some cs) :
  Le ⟨ts, hs, n, z0⟩ ⟨(d, .imm m cs) :: ts, (i, none) :: hs, n, z0⟩ := by
 rintro C a w ⟨h0, ι, g, gh⟩
 obtain ⟨gh', car⟩ := gh.less (F' := Fn n z0) (H' := bU ((i, none) :: hs)) (fun id c h => (kM h).1) (fun _ h => h)
 refine ⟨h0, ι, ⟨g.df, g.sz, fun t av ht => ?_⟩, gh'⟩
 rw [show lk (⟨(d, .imm m cs) :: ts, (i, none) :: hs, n, z0⟩ : AS).ts t = lk ((d, .imm m cs) :: ts) t from rfl, kG] at ht
 split at ht
 ·rename_i et
  subst et
  cases ht
  obtain ⟨y, hy, hr⟩ := g.tm t _ hd
  refine ⟨y, hy, ?_⟩
  simp only [Rd] at hr ⊢
  rcases hr with ⟨_, h2, a', h3⟩ | ⟨b, β, c, h1, h2, h3, h4⟩
  ·subst h2; exact ⟨a', 0, h3, .inl rfl⟩
  ·refine ⟨_, c, h2, ?_⟩
   rcases Nat.eq_zero_or_pos m with h5 | h5
   ·exact .inl h5
   ·refine .inr ⟨b, β + 0, h3, rfl, ?_⟩
    rcases gh.obj i cs hi with ⟨q1, q2⟩ | ⟨b', β', arr, e', q1, q2, q3, q4, q5, q6⟩
    ·rw [h1] at q1; cases q1
    ·rw [h1] at q1; cases q1
     refine .inr ⟨?_, RdC.carryB car _ _ _ (fun o x hx => hx) q4⟩
     rintro (h | ⟨id', cs', β', r1, r2⟩)
     ·exact q5 h
     ·exact (kM r1).2 (gh.sep _ _ _ _ _ _ _ (kM r1).1 hi r2 h1)
 ·obtain ⟨y, hy, hr⟩ := g.tm t av ht
  exact ⟨y, hy, Rd.carry car _ _ hr⟩
theorem Le.frzP {ts : List (Nat × AV)} {hs : List (Nat × Option (List AV))} {n : Nat} {z0 : Lo} {d i : Nat} {cs : List AV} (hd : lk ts d = some (.optr i 0)) (hi : bU hs i = some cs) :
  Le ⟨ts, hs, n, z0⟩ ⟨(d, .iptr cs) :: ts, (i, none) :: hs, n, z0⟩ := by
 rintro C a w ⟨h0, ι, g, gh⟩
 obtain ⟨gh', car⟩ := gh.less (F' := Fn n z0) (H' := bU ((i, none) :: hs)) (fun id c h => (kM h).1) (fun _ h => h)
 refine ⟨h0, ι, ⟨g.df, g.sz, fun t av ht => ?_⟩, gh'⟩
 rw [show lk (⟨(d, .iptr cs) :: ts, (i, none) :: hs, n, z0⟩ : AS).ts t = lk ((d, .iptr cs) :: ts) t from rfl, kG] at ht
 split at ht
 ·rename_i et
  subst et
  cases ht
  obtain ⟨y, hy, hr⟩ := g.tm t _ hd
  refine ⟨y, hy, ?_⟩
  simp only [Rd] at hr ⊢
  obtain ⟨b, β, h1, h2⟩ := hr
  refine ⟨b, β + 0, h2, ?_⟩
  rcases gh.obj i cs hi with ⟨q1, q2⟩ | ⟨b', β', arr, e', q1, q2, q3, q4, q5, q6⟩
  ·rw [h1] at q1; cases q1
  ·rw [h1] at q1; cases q1
   refine .inr ⟨?_, RdC.carryB car _ _ _ (fun o x hx => hx) q4⟩
   rintro (h | ⟨id', cs', β', r1, r2⟩)
   ·exact q5 h
   ·exact (kM r1).2 (gh.sep _ _ _ _ _ _ _ (kM r1).1 hi r2 h1)
 ·obtain ⟨y, hy, hr⟩ := g.tm t av ht
  exact ⟨y, hy, Rd.carry car _ _ hr⟩
theorem Le.nilOwn {ts : List (Nat × AV)} {hs : List (Nat × Option (List AV))} {n : Nat} {z0 : Lo} {d : Nat} (e : Nat) (hd : lk ts d = some (.v (.slice none 0 0))) (hn : n < bZ) :
  Le ⟨ts, hs, n, z0⟩ ⟨(d, .own n 0 0 e) :: ts, (n, some []) :: hs, n + 1, z0⟩ := by
 rintro C a w ⟨h0, ι, g, gh⟩
 have hf : ι n = none := gh.fresh n ⟨Nat.le_refl _, .inl hn⟩
 let ι' : Pl := eO ι n (some none)
 have hne : ∀ id p, ι id = some p → ι' id = some p := by
  intro id p h
  have : id ≠ n := by rintro rfl; rw [hf] at h; cases h
  simp only [ι', cH _ _ this, h]
 have hback : ∀ id b β, ι' id = some (some (b, β)) → id ≠ n ∧ ι id = some (some (b, β)) := by
  intro id b β h
  by_cases q : id = n
  ·subst q; simp only [ι', upd_same] at h; cases h
  ·simp only [ι', cH _ _ q] at h; exact ⟨q, h⟩
 have hH : ∀ id cs, id ≠ n → bU ((n, some []) :: hs) id = some cs → bU hs id = some cs := by
  intro id cs q h; rw [dN, if_neg q] at h; exact h
 have car : Carry w (aY C.X ι (bU hs)) ι w (aY C.X ι' (bU ((n, some []) :: hs))) ι' := by
  refine ⟨fun b o x h1 h2 => ⟨?_, h2⟩, hne, fun _ => Nat.le_refl _⟩
  rintro (h | ⟨id, cs, β, q1, q2⟩)
  ·exact h1 (.inl h)
  ·obtain ⟨r1, r2⟩ := hback _ _ _ q2
   exact h1 (.inr ⟨id, cs, β, hH _ _ r1 q1, r2⟩)
 refine ⟨h0, ι', ⟨g.df, g.sz, fun t av ht => ?_⟩, ⟨fun id cs h => ?_, fun id id' cs cs' b β β' q1 q2 q3 q4 => ?_, gh.fr, fun id p h => hne _ _ (gh.ex _ _ h), fun id h => ?_⟩⟩
 ·rw [show lk (⟨(d, .own n 0 0 e) :: ts, (n, some []) :: hs, n + 1, z0⟩ : AS).ts t = lk ((d, .own n 0 0 e) :: ts) t from rfl, kG] at ht
  split at ht
  ·rename_i et
   subst et
   cases ht
   obtain ⟨y, hy, hr⟩ := g.tm t _ hd
   refine ⟨y, hy, ?_⟩
   simp only [Rd] at hr ⊢
   exact .inl ⟨⟨none, by simp only [ι', upd_same]⟩, trivial, none, hr⟩
  ·obtain ⟨y, hy, hr⟩ := g.tm t av ht
   exact ⟨y, hy, Rd.carry car _ _ hr⟩
 ·by_cases q : id = n
  ·subst q
   simp only [dN, if_true, Option.some.injEq] at h
   exact .inl ⟨by simp only [ι', upd_same], h.symm⟩
  ·rcases gh.obj id cs (hH _ _ q h) with ⟨r1, r2⟩ | ⟨b, β, arr, e', r1, r2, r3, r4, r5, r6⟩
   ·exact .inl ⟨hne _ _ r1, r2⟩
   ·exact .inr ⟨b, β, arr, e', hne _ _ r1, r2, r3, RdC.carryB car _ _ _ (fun o x hx => hx) r4, r5, r6⟩
 ·obtain ⟨r1, r2⟩ := hback _ _ _ q3
  obtain ⟨r3, r4⟩ := hback _ _ _ q4
  exact gh.sep _ _ _ _ _ _ _ (hH _ _ r1 q1) (hH _ _ r3 q2) r2 r4
 ·have h1 : n + 1 ≤ id := h.1
  have h2 : id < bZ ∨ z0.fb ≤ id := h.2
  have q : id ≠ n := by omega
  simp only [ι', cH _ _ q]
  exact gh.fresh id ⟨by show n ≤ id; omega, h2⟩
section
variable {P : Program} {N : Nat} {Q : Exit → AS → Prop} {all : Array Oper} {rest : List Oper} {ts : List (Nat × AV)} {hs : List (Nat × Option (List AV))} {n : Nat} {z0 : Lo} {md : Md}
variable {d : Nat} {ty : TypeId} {pos : String} {af : Array Edge}
theorem fN {l : List Oper} {s s' : AS} (h : RW P N all Q .txt l s') (k : Le s s') : RW P N all Q .txt l s := fun C a w hN g => h C a w hN (k C a w g)
theorem Le.trans {s s' s'' : AS} (h : Le s s') (k : Le s' s'') : Le s s'' := fun C a w g => k C a w (h C a w g)
theorem Le.frzTop {ts : List (Nat × AV)} {hs : List (Nat × Option (List AV))} {n : Nat} {z0 : Lo} {d i m e : Nat} {cs : List AV} :
  Le ⟨(d, .own i 0 m e) :: ts, (i, some cs) :: hs, n, z0⟩ ⟨(d, .imm m cs) :: ts, (i, none) :: hs, n, z0⟩ := by
 refine (Le.frzD (d := d) (i := i) (m := m) (e := e) (cs := cs) (by simp [kG]) (by simp [dN])).trans ?_
 refine Le.of (fun t av h => ?_) (fun j c h => ?_) (Nat.le_refl _) rfl
 ·show lk ((d, .imm m cs) :: (d, .own i 0 m e) :: ts) t = _
  have h' : lk ((d, .imm m cs) :: ts) t = some av := h
  simp only [kG] at h' ⊢
  split
  ·rename_i q; rw [if_pos q] at h'; exact h'
  ·rename_i q; rw [if_neg q] at h'; exact h'
 ·show bU ((i, none) :: (i, some cs) :: hs) j = _
  have h' : bU ((i, none) :: hs) j = some c := h
  simp only [dN] at h' ⊢
  split
  ·rename_i q; rw [if_pos q] at h'; exact h'
  ·rename_i q; rw [if_neg q] at h'; exact h'
theorem bS {t el len e : Nat} {parts : Array (Nat × Operand)} {zs : List Value} {l : List (Nat × AV)} {cs : List AV} [ht : SlT P t el] [he : SzT P el e] [hz : ZrT P el zs] (hze : zs.length = e) (hsm : Nat.ble (len * e) 16777216 = true)
  (hl : evs (lk ts) parts.toList = some l) (hfl : iX (fun i => some (i * e, e)) ((List.replicate len (zs.map .v)).flatten) l = some cs) (hM : Nat.blt n bZ = true) (hN : Nat.blt d N = true) (kk : RW P N all Q .txt rest ⟨(d, .imm len cs) :: ts, (n, none) :: hs, n + 1, z0⟩) :
  RW P N all Q .txt (⟨some d, .buildSlice t len parts, ty, pos, af, none⟩ :: rest) ⟨ts, hs, n, z0⟩ :=
 bK hze hsm hl hfl hM hN (md' := .txt) (fN kk Le.frzTop)
end
end Go.AL
namespace Go.AL
open Go.RowKit
set_option linter.unusedVariables false
set_option linter.unusedSimpArgs false
theorem Le.mv {ts : List (Nat × AV)} {hs : List (Nat × Option (List AV))} {n : Nat} {z0 : Lo} {d i o m e : Nat} {cs : List AV} (hd : lk ts d = some (.own i o m e)) (hi : bU hs i = some cs) (hn : n < bZ) :
  Le ⟨ts, hs, n, z0⟩ ⟨(d, .own n o m e) :: ts, (n, some cs) :: (i, none) :: hs, n + 1, z0⟩ := by
 rintro C a w ⟨h0, ι, g, gh⟩
 have hf : ι n = none := gh.fresh n ⟨Nat.le_refl _, .inl hn⟩
 have hin : ∃ p, ι i = some p := by
  rcases gh.obj i cs hi with ⟨r1, _⟩ | ⟨b, β, _, _, r1, _⟩
  ·exact ⟨_, r1⟩
  ·exact ⟨_, r1⟩
 obtain ⟨pi, hpi⟩ := hin
 have hni : n ≠ i := by rintro rfl; rw [hf] at hpi; cases hpi
 let ι' : Pl := eO ι n (ι i)
 have hnn : ι' n = ι i := by simp only [ι', upd_same]
 have hne' : ∀ id, id ≠ n → ι' id = ι id := fun id h => by simp only [ι', cH _ _ h]
 have hne : ∀ id p, ι id = some p → ι' id = some p := by
  intro id p h
  have : id ≠ n := by rintro rfl; rw [hf] at h; cases h
  rw [hne' _ this, h]
 -- the objects of the new state, under their old ids
 let σ : Nat → Nat := fun id => if id = n then i else id
 have hσ : ∀ id c, bU ((n, some cs) :: (i, none) :: hs) id = some c → bU hs (σ id) = some c ∧ ι' id = ι (σ id) ∧ (id = n ∨ id ≠ i) := by
  intro id c h
  simp only [dN] at h
  by_cases q : id = n
  ·subst q
   rw [if_pos rfl] at h; cases h
   exact ⟨by simp only [σ, if_true]; exact hi, by simp only [σ, if_true]; exact hnn, .inl rfl⟩
  ·rw [if_neg q] at h
   by_cases q2 : id = i
   ·rw [if_pos q2] at h; cases h
   ·rw [if_neg q2] at h
    exact ⟨by simp only [σ, if_neg q]; exact h, by simp only [σ, if_neg q]; exact hne' _ q, .inr q2⟩
 have car : Carry w (aY C.X ι (bU hs)) ι w (aY C.X ι' (bU ((n, some cs) :: (i, none) :: hs))) ι' := by
  refine ⟨fun b o x h1 h2 => ⟨?_, h2⟩, hne, fun _ => Nat.le_refl _⟩
  rintro (h | ⟨id, c, β, q1, q2⟩)
  ·exact h1 (.inl h)
  ·obtain ⟨r1, r2, _⟩ := hσ id c q1
   exact h1 (.inr ⟨σ id, c, β, r1, by rw [← r2]; exact q2⟩)
 refine ⟨h0, ι', ⟨g.df, g.sz, fun t av ht => ?_⟩, ⟨fun id c h => ?_, fun id id' c c' b β β' q1 q2 q3 q4 => ?_, gh.fr, fun id p h => hne _ _ (gh.ex _ _ h), fun id h => ?_⟩⟩
 ·have ht' : lk ((d, .own n o m e) :: ts) t = some av := ht
  rw [kG] at ht'
  split at ht'
  ·rename_i et
   subst et
   cases ht'
   obtain ⟨y, hy, hr⟩ := g.tm t _ hd
   refine ⟨y, hy, ?_⟩
   have hr' := Rd.carry car _ _ hr
   simp only [Rd, hnn] at hr' ⊢
   rw [hne' i (fun h => hni h.symm)] at hr'
   exact hr'
  ·obtain ⟨y, hy, hr⟩ := g.tm t av ht'
   exact ⟨y, hy, Rd.carry car _ _ hr⟩
 ·obtain ⟨r1, r2, _⟩ := hσ id c h
  rcases gh.obj _ c r1 with ⟨s1, s2⟩ | ⟨b, β, arr, e', s1, s2, s3, s4, s5, s6⟩
  ·exact .inl ⟨by rw [r2]; exact s1, s2⟩
  ·exact .inr ⟨b, β, arr, e', by rw [r2]; exact s1, s2, s3, RdC.carryB car _ _ _ (fun o x hx => hx) s4, s5, s6⟩
 ·obtain ⟨r1, r2, r3⟩ := hσ id c q1
  obtain ⟨t1, t2, t3⟩ := hσ id' c' q2
  have := gh.sep _ _ _ _ _ _ _ r1 t1 (by rw [← r2]; exact q3) (by rw [← t2]; exact q4)
  simp only [σ] at this
  split at this <;> split at this
  ·omega
  ·rename_i u1 u2; rcases t3 with t3 | t3
   ·exact absurd t3 u2
   ·exact absurd this.symm t3
  ·rename_i u1 u2; rcases r3 with r3 | r3
   ·exact absurd r3 u1
   ·exact absurd this r3
  ·exact this
 ·have h1 : n + 1 ≤ id := h.1
  have h2 : id < bZ ∨ z0.fb ≤ id := h.2
  rw [hne' id (by omega)]
  exact gh.fresh id ⟨by show n ≤ id; omega, h2⟩
end Go.AL
namespace Go.AL
open Go.RowKit
set_option linter.unusedVariables false
theorem Le.slot {ts : List (Nat × AV)} {hs : List (Nat × Option (List AV))} {n : Nat} {z0 : Lo} {d : Nat} {v v' : AV} (hd : lk ts d = some v) (h : ∀ (w : World) (bad : Nat → Prop) (ι : Pl) (y : Value), Rd w bad ι v y → Rd w bad ι v' y) :
  Le ⟨ts, hs, n, z0⟩ ⟨(d, v') :: ts, hs, n, z0⟩ := by
 rintro C a w ⟨h0, ι, g, gh⟩
 refine ⟨h0, ι, ⟨g.df, g.sz, fun t av ht => ?_⟩, gh⟩
 have ht' : lk ((d, v') :: ts) t = some av := ht
 rw [kG] at ht'
 split at ht'
 ·rename_i et
  subst et
  cases ht'
  obtain ⟨y, hy, hr⟩ := g.tm t _ hd
  exact ⟨y, hy, h _ _ _ _ hr⟩
 ·exact g.tm t av ht'
theorem Le.nilImm {ts : List (Nat × AV)} {hs : List (Nat × Option (List AV))} {n : Nat} {z0 : Lo} {d : Nat} (hd : lk ts d = some (.v (.slice none 0 0))) : Le ⟨ts, hs, n, z0⟩ ⟨(d, .imm 0 []) :: ts, hs, n, z0⟩ :=
 Le.slot hd fun w bad ι y h => lZ (av := .v (.slice none 0 0)) h
theorem tY {α : Type} {f : α → List AV} {hs : List (Nat × Option (List AV))} {i : Nat} (h : bU hs i = some []) : bU hs i = some (flat f []) := h
end Go.AL
namespace Go.AL
abbrev mR (a s : Nat) : Nat := a ||| s
abbrev HH (a s : Nat) : Nat := a &&& s
def kQ (op : Nat → Nat → Nat) (s0 : Nat) (s : List Nat × Bool) (k : Nat) : List Nat × Bool :=
 if op s.1[k]! s0 ≠ s.1[k]! then (s.1.set k (op s.1[k]! s0), true) else s
def s9 (pts : List Pnt) (i : Nat) : List Nat := pts[i]!.next.map (·.toNat)
def v8 (op : Nat → Nat → Nat) (F : Nat → Nat → Nat) (pts : List Pnt) (s : List Nat × Bool) (i : Nat) : List Nat × Bool := (s9 pts i).foldl (kQ op (F i s.1[i]!)) s
def u9 (op : Nat → Nat → Nat) (F : Nat → Nat → Nat) (pts : List Pnt) (s : List Nat × Bool) : List Nat × Bool := (List.range pts.length).foldl (v8 op F pts) s
theorem dY {α : Type} [Inhabited α] (l : List α) (k i : Nat) (x : α) (h : k < l.length) : (l.set k x)[i]! = if i = k then x else l[i]! := by
 by_cases e : i = k
 ·subst e; rw [if_pos rfl, dG _ _ (by simpa using h), List.getElem_set_self]
 ·rw [if_neg e]
  simp only [List.getElem!_eq_getElem?_getD, List.getElem?_set_ne (Ne.symm e)]
theorem nJ {ts : List Int} {pts : List Pnt} (w : WG ts pts) {i k : Nat} (hi : i < pts.length) : k ∈ s9 pts i ↔ eM pts i k := by
 unfold s9 eM
 rw [List.mem_map]
 constructor
 ·rintro ⟨z, hz, rfl⟩
  have := w.nx i hi z hz
  exact ⟨hi, by rw [Int.toNat_of_nonneg this.1]; exact hz⟩
 ·rintro ⟨_, h⟩; exact ⟨_, h, rfl⟩
theorem dZ {ts : List Int} {pts : List Pnt} (w : WG ts pts) {i k : Nat} (h : eM pts i k) : k < pts.length := by
 have := w.nx i h.1 _ h.2; omega
structure Flow (op : Nat → Nat → Nat) (F : Nat → Nat → Nat) (pts : List Pnt) (g : Nat → Nat) (Pp : Nat → Nat → Prop) : Prop where
 snd : ∀ i k A B, eM pts i k → Pp i A → Pp k B → Pp k (op B (F i A))
 dec : ∀ i k A B, eM pts i k → Pp i A → Pp k B → op B (F i A) ≠ B → g (op B (F i A)) < g B
def SG (pts : List Pnt) (Pp : Nat → Nat → Prop) (l : List Nat) : Prop := l.length = pts.length ∧ ∀ i, i < pts.length → Pp i l[i]!
theorem E1 {op : Nat → Nat → Nat} {F : Nat → Nat → Nat} {pts : List Pnt} {g : Nat → Nat} {Pp : Nat → Nat → Prop} (f : Flow op F pts g Pp) {i k A : Nat} (hA : Pp i A) (e : eM pts i k) (hk : k < pts.length) (s : List Nat) (b : Bool) (h : SG pts Pp s) :
  SG pts Pp (kQ op (F i A) (s, b) k).1 ∧ ((kQ op (F i A) (s, b) k = (s, b) ∧ op s[k]! (F i A) = s[k]!) ∨ ((kQ op (F i A) (s, b) k).2 = true ∧ fM ((kQ op (F i A) (s, b) k).1.map g) < fM (s.map g))) := by
 unfold kQ
 dsimp only
 have hks : k < s.length := by rw [h.1]; exact hk
 by_cases hc : op s[k]! (F i A) ≠ s[k]!
 ·rw [if_pos hc]
  refine ⟨⟨by simp [h.1], fun j hj => ?_⟩, .inr ⟨rfl, ?_⟩⟩
  ·dsimp only
   rw [dY _ _ _ _ hks]
   split
   ·rename_i q; subst q; exact f.snd _ _ _ _ e hA (h.2 j hj)
   ·exact h.2 j hj
  ·have := nT g s k (op s[k]! (F i A)) hks
   have h2 := f.dec i k A s[k]! e hA (h.2 k hk) hc
   dsimp only; omega
 ·rw [if_neg hc]
  exact ⟨h, .inl ⟨rfl, by simpa using hc⟩⟩
theorem Fh {ts : List Int} {op : Nat → Nat → Nat} {F : Nat → Nat → Nat} {pts : List Pnt} {g : Nat → Nat} {Pp : Nat → Nat → Prop} (w : WG ts pts) (f : Flow op F pts g Pp) (s : List Nat) (b : Bool) (i : Nat) (hi : i < pts.length) (h : SG pts Pp s) :
  SG pts Pp (v8 op F pts (s, b) i).1 ∧ ((v8 op F pts (s, b) i = (s, b) ∧ ∀ k, eM pts i k → op s[k]! (F i s[i]!) = s[k]!) ∨ ((v8 op F pts (s, b) i).2 = true ∧ fM ((v8 op F pts (s, b) i).1.map g) < fM (s.map g))) := by
 have hA := h.2 i hi
 have := jD (kQ op (F i s[i]!)) (fun k l => op l[k]! (F i s[i]!) = l[k]!) (fun l => fM (l.map g)) (SG pts Pp) (s9 pts i)
  (fun s' b' k hk hs => by
   have e := (nJ w hi).1 hk
   exact E1 f hA e (dZ w e) s' b' hs) s b h
 refine ⟨this.1, ?_⟩
 rcases this.2 with ⟨e1, e2⟩ | h2
 ·exact .inl ⟨e1, fun k e => e2 k ((nJ w hi).2 e)⟩
 ·exact .inr h2
def kV (op : Nat → Nat → Nat) (F : Nat → Nat → Nat) (pts : List Pnt) (s : List Nat) : Prop := ∀ i k, eM pts i k → op s[k]! (F i s[i]!) = s[k]!
theorem qW {ts : List Int} {op : Nat → Nat → Nat} {F : Nat → Nat → Nat} {pts : List Pnt} {g : Nat → Nat} {Pp : Nat → Nat → Prop} (w : WG ts pts) (f : Flow op F pts g Pp) (s : List Nat) (b : Bool) (h : SG pts Pp s) :
  SG pts Pp (u9 op F pts (s, b)).1 ∧ ((u9 op F pts (s, b) = (s, b) ∧ kV op F pts s) ∨ ((u9 op F pts (s, b)).2 = true ∧ fM ((u9 op F pts (s, b)).1.map g) < fM (s.map g))) := by
 have := jD (v8 op F pts) (fun i l => ∀ k, eM pts i k → op l[k]! (F i l[i]!) = l[k]!) (fun l => fM (l.map g)) (SG pts Pp) (List.range pts.length)
  (fun s' b' i hi hs => Fh w f s' b' i (List.mem_range.1 hi) hs) s b h
 refine ⟨this.1, ?_⟩
 rcases this.2 with ⟨e1, e2⟩ | h2
 ·exact .inl ⟨e1, fun i k e => e2 i (List.mem_range.2 e.1) k e⟩
 ·exact .inr h2
theorem lI {a b : Nat} (h : a ||| b ≠ a) : a < a ||| b := by
 have := @Nat.left_le_or a b; omega
theorem v5 {a b : Nat} (h : a &&& b ≠ a) : a &&& b < a := by
 have := @Nat.and_le_left a b; omega
theorem fY {a b : Nat} : a ||| b = a ↔ ∀ v, b.testBit v = true → a.testBit v = true := by
 constructor
 ·intro h v hv; rw [← h, Nat.testBit_or, hv]; simp
 ·intro h
  apply Nat.eq_of_testBit_eq; intro v
  rw [Nat.testBit_or]
  cases hb : b.testBit v with
  | false => simp
  | true => rw [h v hb]; rfl
theorem sJ {a b : Nat} : a &&& b = a ↔ ∀ v, a.testBit v = true → b.testBit v = true := by
 constructor
 ·intro h v hv; rw [← h, Nat.testBit_and, Bool.and_eq_true] at hv; exact hv.2
 ·intro h
  apply Nat.eq_of_testBit_eq; intro v
  rw [Nat.testBit_and]
  cases ha : a.testBit v with
  | false => simp
  | true => rw [h v ha]; rfl
theorem dQ {a n : Nat} (h : a < 2 ^ n) {v : Nat} (hv : a.testBit v = true) : v < n := by
 rcases Nat.lt_or_ge v n with h1 | h1
 ·exact h1
 ·rw [Nat.testBit_lt_two_pow (Nat.lt_of_lt_of_le h (Nat.pow_le_pow_right (by decide) h1))] at hv; cases hv
theorem yV {ts : List Int} {pts : List Pnt} (w : WG ts pts) {i : Nat} (hi : i < pts.length) {v : Nat} (h : cE ts pts[i]! v ≠ 0) : v < ts.length := by
 have h1 := w.x i hi
 have h2 := w.y i hi
 unfold cE at h
 grind
theorem dM {ts : List Int} {x : Pnt} {us : List Int} {v : Nat} : (wS ts x us).testBit v = (decide (v < ts.length) && decide (cE ts x v ∈ us)) := fG _ _ _
theorem gI {x : Pnt} {v : Nat} (h : bR x < 62) : (hO x).testBit v = decide (bR x = (v : Int)) := by
 unfold hO
 split
 ·rename_i h0
  by_cases e : v = (bR x).toNat
  ·subst e; rw [Nat.testBit_two_pow_self]; simp; omega
  ·rw [Nat.testBit_two_pow_of_ne (fun h => e h.symm)]; simp; omega
 ·simp; omega
theorem eW {ts : List Int} {x : Pnt} {A v : Nat} (h : bR x < 62) : (iA ts x A).testBit v = ((A.testBit v && !(decide (v < ts.length) && decide (cE ts x v = 2))) || decide (bR x = (v : Int))) := by
 unfold iA
 rw [Nat.testBit_or, dC, dM, gI h]
 simp
def pF (ts : List Int) (pts : List Pnt) (A : List Nat) : Prop := A.length = pts.length ∧ ∀ i, i < pts.length → ∀ v, A[i]!.testBit v = true ↔ Mb ts pts (i, v)
def o6 (ts : List Int) (pts : List Pnt) (A : List Nat) : Prop := A.length = pts.length ∧ ∀ i, i < pts.length → ∀ v, A[i]!.testBit v = true ↔ v < ts.length ∧ ¬ Na ts pts (i, v)
theorem kJ {n : Nat} {A B : List Nat} (h1 : A.length = n) (h2 : B.length = n) (h : ∀ i, i < n → ∀ v, A[i]!.testBit v = true ↔ B[i]!.testBit v = true) : A = B := by
 apply List.ext_getElem (by omega)
 intro i g1 g2
 have := h i (by omega)
 rw [dG _ _ g1, dG _ _ g2] at this
 apply Nat.eq_of_testBit_eq
 intro v
 rw [Bool.eq_iff_iff]; exact this v
def Iy (ts : List Int) (pts : List Pnt) (i A : Nat) : Prop := A < 2 ^ ts.length ∧ ∀ v, A.testBit v = true → Mb ts pts (i, v)
def Ix (ts : List Int) (pts : List Pnt) (i A : Nat) : Prop := A < 2 ^ ts.length ∧ ∀ v, v < ts.length → A.testBit v = false → Na ts pts (i, v)
theorem pU {ts : List Int} {pts : List Pnt} (w : WG ts pts) {i : Nat} (hi : i < pts.length) {A : Nat} (hA : A < 2 ^ ts.length) : iA ts pts[i]! A < 2 ^ ts.length := by
 apply Nat.lt_pow_two_of_testBit
 intro v hv
 have hs := (w.set i hi).1
 have htl := w.tl
 rw [eW (by omega)]
 have : A.testBit v = false := by
  cases h : A.testBit v with
  | false => rfl
  | true => have := dQ hA h; omega
 rw [this, Bool.false_and, Bool.false_or, decide_eq_false_iff_not]; omega
theorem IV {ts : List Int} {pts : List Pnt} (w : WG ts pts) : Flow (fun a s => a ||| s) (fun i A => iA ts pts[i]! A) pts (fun a => 2 ^ ts.length - a) (Iy ts pts) := by
 refine ⟨fun i k A B e hA hB => ⟨Nat.or_lt_two_pow hB.1 (pU w e.1 hA.1), fun v hv => ?_⟩, fun i k A B e hA hB hne => ?_⟩
 ·have hs := (w.set i e.1).1
  have htl := w.tl
  rw [Nat.testBit_or, Bool.or_eq_true] at hv
  rcases hv with hv | hv
  ·exact hB.2 v hv
  ·rw [eW (by omega)] at hv
   simp only [Bool.or_eq_true, Bool.and_eq_true, Bool.not_eq_true', Bool.and_eq_false_iff, decide_eq_true_eq, decide_eq_false_iff_not] at hv
   rcases hv with ⟨h1, h2⟩ | h1
   ·refine .step (hA.2 v h1) ⟨rfl, e, ?_⟩
    have := dQ hA.1 h1
    rcases h2 with h2 | h2
    ·omega
    ·exact h2
   ·exact .base ⟨i, e, h1⟩
 ·have h1 := lI hne
  have h2 := Nat.or_lt_two_pow hB.1 (pU w e.1 hA.1)
  omega
theorem IQ {ts : List Int} {pts : List Pnt} (w : WG ts pts) : Flow (fun a s => a &&& s) (fun i A => iA ts pts[i]! A) pts (fun a => a) (Ix ts pts) := by
 refine ⟨fun i k A B e hA hB => ⟨Nat.lt_of_le_of_lt Nat.and_le_left hB.1, fun v hv hf => ?_⟩, fun i k A B e hA hB hne => v5 hne⟩
 have hs := (w.set i e.1).1
 have htl := w.tl
 rw [Nat.testBit_and, Bool.and_eq_false_iff] at hf
 rcases hf with hf | hf
 ·exact hB.2 v hv hf
 ·rw [eW (by omega)] at hf
  simp only [Bool.or_eq_false_iff, Bool.and_eq_false_iff, Bool.not_eq_false', Bool.and_eq_true, decide_eq_true_eq, decide_eq_false_iff_not] at hf
  obtain ⟨h1 | h1, h2⟩ := hf
  ·exact .step (hA.2 v hv h1) ⟨rfl, e, h2⟩
  ·exact .base ⟨hv, .inr ⟨i, e, h1.2, h2⟩⟩
theorem Eu {ts : List Int} {pts : List Pnt} (w : WG ts pts) {A : List Nat} (h : SG pts (Iy ts pts) A) (hc : kV (fun a s => a ||| s) (fun i A => iA ts pts[i]! A) pts A) : pF ts pts A := by
 refine ⟨h.1, fun i hi v => ⟨fun hv => (h.2 i hi).2 v hv, fun hm => ?_⟩⟩
 have htl := w.tl
 have key : ∀ a : Nat × Nat, Mb ts pts a → A[a.1]!.testBit a.2 = true := by
  refine Clo.sub (T := fun a : Nat × Nat => A[a.1]!.testBit a.2 = true) ?_ ?_
  ·rintro ⟨k, v⟩ ⟨i, e, hs⟩
   have h1 := (w.set i e.1).1
   refine fY.1 (hc i k e) v ?_
   rw [eW (by omega)]; simp only [Bool.or_eq_true, decide_eq_true_eq]; exact .inr hs
  ·rintro ⟨i, v⟩ ⟨k, v'⟩ ht ⟨rfl, e, hu⟩
   have h1 := (w.set i e.1).1
   refine fY.1 (hc i k e) v' ?_
   dsimp only at ht hu
   rw [eW (by omega), ht]; grind
 exact key (i, v) hm
theorem EX {ts : List Int} {pts : List Pnt} (w : WG ts pts) {A : List Nat} (h : SG pts (Ix ts pts) A) (h0 : A[0]! = 0) (hc : kV (fun a s => a &&& s) (fun i A => iA ts pts[i]! A) pts A) : o6 ts pts A := by
 refine ⟨h.1, fun i hi v => ?_⟩
 have htl := w.tl
 have key : ∀ a : Nat × Nat, Na ts pts a → A[a.1]!.testBit a.2 = false := by
  refine Clo.sub (T := fun a : Nat × Nat => A[a.1]!.testBit a.2 = false) ?_ ?_
  ·rintro ⟨k, v⟩ ⟨hv, h1 | ⟨i, e, hu, hs⟩⟩
   ·dsimp only at h1 ⊢; rw [h1, h0]; simp
   ·have h1 := (w.set i e.1).1
    dsimp only at hu hs hv ⊢
    cases hq : A[k]!.testBit v with
    | false => rfl
    | true =>
     have := sJ.1 (hc i k e) v hq
     rw [eW (by omega)] at this
     grind
  ·rintro ⟨i, v⟩ ⟨k, v'⟩ ht ⟨rfl, e, hs⟩
   have h1 := (w.set i e.1).1
   dsimp only at ht hs ⊢
   cases hq : A[k]!.testBit v' with
   | false => rfl
   | true =>
    have := sJ.1 (hc i k e) v' hq
    rw [eW (by omega), ht] at this
    grind
 constructor
 ·intro hv
  refine ⟨dQ (h.2 i hi).1 hv, fun hn => ?_⟩
  have := key (i, v) hn
  dsimp only at this; rw [hv] at this; cases this
 ·rintro ⟨hv, hn⟩
  cases hq : A[i]!.testBit v with
  | true => rfl
  | false => exact absurd ((h.2 i hi).2 v hv hq) hn
end Go.AL
namespace Go.AL
theorem sI {ts : List Int} {pts : List Pnt} {Pp : Nat → Nat → Prop} {l : List Nat} (h : SG pts Pp l) (hp : ∀ i A, Pp i A → A < 2 ^ ts.length) (htl : ts.length ≤ 6) (z : Nat) : Sm l[z]! := by
 by_cases hz : z < pts.length
 ·exact ⟨Nat.lt_of_lt_of_le (hp _ _ (h.2 z hz)) (Nat.pow_le_pow_right (by decide) (by omega))⟩
 ·rw [getElem!_neg _ _ (by rw [h.1]; exact hz)]; exact ⟨by decide⟩
theorem wE {pts : List Pnt} {i j : Nat} (h : j < pts[i]!.next.length) : (s9 pts i)[j]! = (pts[i]!.next[j]!).toNat := by
 unfold s9
 rw [dG _ _ (by simpa using h), dG _ _ h, List.getElem_map]
theorem eS {σ : Type} (f : σ → Nat → σ) (s : σ) (k : Nat) : (List.range (k + 1)).foldl f s = f ((List.range k).foldl f s) k := by
 rw [List.range_succ, List.foldl_append]; rfl
theorem iT {op : Nat → Nat → Nat} {s0 : Nat} {pts : List Pnt} {i j : Nat} (h : j < pts[i]!.next.length) (s : List Nat × Bool) :
  ((s9 pts i).take (j + 1)).foldl (kQ op s0) s = kQ op s0 (((s9 pts i).take j).foldl (kQ op s0) s) (pts[i]!.next[j]!).toNat := by
 have hl : j < (s9 pts i).length := by unfold s9; simpa using h
 rw [eV _ _ _ _ hl, wE h]
theorem k5 (pts : List Pnt) (i : Nat) : (s9 pts i).length = pts[i]!.next.length := by unfold s9; simp
theorem v7 {op : Nat → Nat → Nat} {s0 : Nat} {s : List Nat} {b : Bool} {k : Nat} (h : op s[k]! s0 ≠ s[k]!) : kQ op s0 (s, b) k = (s.set k (op s[k]! s0), true) := by unfold kQ; rw [if_pos h]
theorem vJ {op : Nat → Nat → Nat} {s0 : Nat} {s : List Nat} {b : Bool} {k : Nat} (h : op s[k]! s0 = s[k]!) : kQ op s0 (s, b) k = (s, b) := by unfold kQ; rw [if_neg (fun hc => hc h)]
theorem vU {op : Nat → Nat → Nat} {F : Nat → Nat → Nat} {pts : List Pnt} {g : Nat → Nat} {Pp : Nat → Nat → Prop} (f : Flow op F pts g Pp) {ts : List Int} (w : WG ts pts) {i k A : Nat} (hA : Pp i A) (e : eM pts i k) {s : List Nat} (h : SG pts Pp s) : SG pts Pp (s.set k (op s[k]! (F i A))) := by
 refine ⟨by simp [h.1], fun j hj => ?_⟩
 rw [dY _ _ _ _ (by rw [h.1]; exact dZ w e)]
 split
 ·rename_i q; subst q; exact f.snd _ _ _ _ e hA (h.2 j hj)
 ·exact h.2 j hj
theorem zQ {pts : List Pnt} {Pp : Nat → Nat → Prop} (h : ∀ i, i < pts.length → Pp i 0) : SG pts Pp (List.replicate pts.length 0) := by
 refine ⟨by simp, fun i hi => ?_⟩
 rw [dG _ _ (by simpa using hi), List.getElem_replicate]; exact h i hi
theorem Ca {ts : List Int} {pts : List Pnt} {A B : List Nat} (h1 : pF ts pts A) (h2 : pF ts pts B) : A = B := kJ h1.1 h2.1 fun i hi v => (h1.2 i hi v).trans (h2.2 i hi v).symm
theorem Co {ts : List Int} {pts : List Pnt} {A B : List Nat} (h1 : o6 ts pts A) (h2 : o6 ts pts B) : A = B := kJ h1.1 h2.1 fun i hi v => (h1.2 i hi v).trans (h2.2 i hi v).symm
theorem w6 {l : List Nat} {k x : Nat} (h : l[k]! = x) (hk : k < l.length) : l.set k x = l := by
 subst h; rw [dG _ _ hk]; exact List.set_getElem_self hk
end Go.AL
namespace Go.AL
theorem FT {n k a : Nat} (h : k < n) : (List.replicate k a ++ List.replicate (n - k) 0).set k a = List.replicate (k + 1) a ++ List.replicate (n - (k + 1)) 0 := by
 rw [show n - k = (n - (k + 1)) + 1 by omega, List.replicate_succ]
 have := pX (List.replicate k a) 0 a (List.replicate (n - (k + 1)) 0)
 rw [List.length_replicate] at this
 rw [this, List.replicate_succ']; simp
theorem DB {ts : List Int} {pts : List Pnt} (w : WG ts pts) {u : List Nat} (hu : u = List.replicate pts.length (2 ^ ts.length - 1)) : SG pts (Ix ts pts) (u.set 0 0) ∧ (u.set 0 0)[0]! = 0 := by
 have hp0 := w.p0
 have h0 : 0 < u.length := by rw [hu]; simpa using hp0
 have hp : 0 < 2 ^ ts.length := Nat.pow_pos (by decide)
 refine ⟨⟨by simp [hu], fun i hi => ?_⟩, by rw [dY _ _ _ _ h0, if_pos rfl]⟩
 rw [dY _ _ _ _ h0]
 split
 ·rename_i e; subst e; exact ⟨hp, fun v hv _ => .base ⟨hv, .inl rfl⟩⟩
 ·rw [hu, dG _ _ (by simpa using hi), List.getElem_replicate]
  exact ⟨by omega, fun v hv hf => by rw [Nat.testBit_two_pow_sub_one] at hf; simp at hf; omega⟩
end Go.AL
namespace Go.AL
def GC (pts : List Pnt) (B : List Nat) (i : Nat) : Nat := (s9 pts i).foldl (fun a k => a ||| B[k]!) 0
def oD (ts : List Int) (pts : List Pnt) (B : List Nat) (i : Nat) : Nat := wS ts pts[i]! [1, 2, 3] ||| mP (GC pts B i) (hO pts[i]!)
theorem lS (B : List Nat) (v : Nat) : ∀ (L : List Nat) (a : Nat), (L.foldl (fun a k => a ||| B[k]!) a).testBit v = true ↔ a.testBit v = true ∨ ∃ k ∈ L, B[k]!.testBit v = true
 | [], a => by simp
 | k :: L, a => by
  rw [List.foldl_cons, lS B v L, Nat.testBit_or, Bool.or_eq_true]
  simp only [List.mem_cons, exists_eq_or_imp]
  grind
theorem pB {ts : List Int} {pts : List Pnt} (w : WG ts pts) {B : List Nat} {i v : Nat} (hi : i < pts.length) : (GC pts B i).testBit v = true ↔ ∃ k, eM pts i k ∧ B[k]!.testBit v = true := by
 unfold GC
 rw [lS]
 simp only [Nat.zero_testBit, Bool.false_eq_true, false_or, nJ w hi]
theorem jX {ts : List Int} {pts : List Pnt} (w : WG ts pts) {B : List Nat} {i v : Nat} (hi : i < pts.length) : (oD ts pts B i).testBit v = true ↔ (v < ts.length ∧ cE ts pts[i]! v ≠ 0) ∨ (bR pts[i]! ≠ v ∧ ∃ k, eM pts i k ∧ B[k]!.testBit v = true) := by
 have hs := (w.set i hi).1
 have htl := w.tl
 have hb := qM ts pts[i]! v
 unfold oD
 rw [Nat.testBit_or, dC, dM, gI (by omega)]
 simp only [Bool.or_eq_true, Bool.and_eq_true, decide_eq_true_eq, Bool.not_eq_true', decide_eq_false_iff_not, pB w hi, List.mem_cons, List.not_mem_nil, or_false]
 have : (cE ts pts[i]! (v : Int) = 1 ∨ cE ts pts[i]! (v : Int) = 2 ∨ cE ts pts[i]! (v : Int) = 3) ↔ cE ts pts[i]! (v : Int) ≠ 0 := by omega
 rw [this]
 constructor
 ·rintro (h | ⟨h1, h2⟩)
  ·exact .inl h
  ·exact .inr ⟨h2, h1⟩
 ·rintro (h | ⟨h1, h2⟩)
  ·exact .inl h
  ·exact .inr ⟨h2, h1⟩
def Je (ts : List Int) (pts : List Pnt) (i A : Nat) : Prop := A < 2 ^ ts.length ∧ ∀ v, A.testBit v = true → Nd ts pts (i, v)
def sS (ts : List Int) (pts : List Pnt) (A : List Nat) : Prop := A.length = pts.length ∧ ∀ i, i < pts.length → ∀ v, A[i]!.testBit v = true ↔ Nd ts pts (i, v)
theorem CM {ts : List Int} {pts : List Pnt} {A B : List Nat} (h1 : sS ts pts A) (h2 : sS ts pts B) : A = B := kJ h1.1 h2.1 fun i hi v => (h1.2 i hi v).trans (h2.2 i hi v).symm
def k9 (ts : List Int) (pts : List Pnt) (s : List Nat × Bool) (i : Nat) : List Nat × Bool := if oD ts pts s.1 i ≠ s.1[i]! then (s.1.set i (oD ts pts s.1 i), true) else s
def SN (ts : List Int) (pts : List Pnt) (l : List Nat) : Prop := SG pts (Je ts pts) l ∧ ∀ i, i < pts.length → ∀ v, l[i]!.testBit v = true → (oD ts pts l i).testBit v = true
theorem wW {ts : List Int} {pts : List Pnt} (w : WG ts pts) {l l' : List Nat} {i : Nat} (hi : i < pts.length) (h : ∀ k, k < pts.length → ∀ v, l[k]!.testBit v = true → l'[k]!.testBit v = true) {v : Nat} (hv : (oD ts pts l i).testBit v = true) : (oD ts pts l' i).testBit v = true := by
 rw [jX w hi] at hv ⊢
 rcases hv with hv | ⟨h1, k, e, h2⟩
 ·exact .inl hv
 ·exact .inr ⟨h1, k, e, h k (dZ w e) v h2⟩
theorem GU {ts : List Int} {pts : List Pnt} (w : WG ts pts) {l : List Nat} {i : Nat} (hi : i < pts.length) (h : SG pts (Je ts pts) l) : Je ts pts i (oD ts pts l i) := by
 have key : ∀ v, (oD ts pts l i).testBit v = true → v < ts.length ∧ Nd ts pts (i, v) := by
  intro v hv
  rw [jX w hi] at hv
  rcases hv with ⟨h1, h2⟩ | ⟨h1, k, e, h2⟩
  ·exact ⟨h1, .base ⟨hi, h1, h2⟩⟩
  ·have hk := h.2 k (dZ w e)
   exact ⟨dQ hk.1 h2, .step (hk.2 v h2) ⟨rfl, e, h1⟩⟩
 refine ⟨?_, fun v hv => (key v hv).2⟩
 apply Nat.lt_pow_two_of_testBit
 intro v hv
 cases hq : (oD ts pts l i).testBit v with
 | false => rfl
 | true => have := (key v hq).1; omega
theorem tZ {ts : List Int} {pts : List Pnt} (w : WG ts pts) (s : List Nat) (b : Bool) (i : Nat) (hi : i < pts.length) (h : SN ts pts s) :
  SN ts pts (k9 ts pts (s, b) i).1 ∧ ((k9 ts pts (s, b) i = (s, b) ∧ oD ts pts s i = s[i]!) ∨ ((k9 ts pts (s, b) i).2 = true ∧ fM ((k9 ts pts (s, b) i).1.map (fun a => 2 ^ ts.length - a)) < fM (s.map (fun a => 2 ^ ts.length - a)))) := by
 unfold k9
 dsimp only
 have his : i < s.length := by rw [h.1.1]; exact hi
 by_cases hc : oD ts pts s i ≠ s[i]!
 ·rw [if_pos hc]
  have hp := GU w hi h.1
  have hge : ∀ k, k < pts.length → ∀ v, s[k]!.testBit v = true → ((s.set i (oD ts pts s i))[k]!).testBit v = true := by
   intro k hk v hv
   rw [dY _ _ _ _ his]
   split
   ·rename_i q; subst q; exact h.2 _ hk v hv
   ·exact hv
  refine ⟨⟨⟨by simp [h.1.1], fun j hj => ?_⟩, fun j hj v hv => ?_⟩, .inr ⟨rfl, ?_⟩⟩
  ·rw [dY _ _ _ _ his]
   split
   ·rename_i q; subst q; exact hp
   ·exact h.1.2 j hj
  ·rw [dY _ _ _ _ his] at hv
   split at hv
   ·rename_i q; subst q; exact wW w hj hge hv
   ·exact wW w hj hge (h.2 j hj v hv)
  ·have h1 := nT (fun a => 2 ^ ts.length - a) s i (oD ts pts s i) his
   have h2 : s[i]! ||| oD ts pts s i = oD ts pts s i := by rw [Nat.or_comm]; exact fY.2 (h.2 i hi)
   have h3 : s[i]! < oD ts pts s i := by
    have : s[i]! ≤ oD ts pts s i := by rw [← h2]; exact Nat.left_le_or
    omega
   have h4 := hp.1
   dsimp only at h1 ⊢; omega
 ·rw [if_neg hc]
  exact ⟨h, .inl ⟨rfl, by simpa using hc⟩⟩
def wU (ts : List Int) (pts : List Pnt) (s : List Nat × Bool) : List Nat × Bool := (List.range pts.length).reverse.foldl (k9 ts pts) s
theorem CK {ts : List Int} {pts : List Pnt} (w : WG ts pts) (s : List Nat) (b : Bool) (h : SN ts pts s) :
  SN ts pts (wU ts pts (s, b)).1 ∧ ((wU ts pts (s, b) = (s, b) ∧ ∀ i, i < pts.length → oD ts pts s i = s[i]!) ∨ ((wU ts pts (s, b)).2 = true ∧ fM ((wU ts pts (s, b)).1.map (fun a => 2 ^ ts.length - a)) < fM (s.map (fun a => 2 ^ ts.length - a)))) := by
 have := jD (k9 ts pts) (fun i l => oD ts pts l i = l[i]!) (fun l => fM (l.map (fun a => 2 ^ ts.length - a))) (SN ts pts) (List.range pts.length).reverse
  (fun s' b' i hi hs => tZ w s' b' i (List.mem_range.1 (List.mem_reverse.1 hi)) hs) s b h
 refine ⟨this.1, ?_⟩
 rcases this.2 with ⟨e1, e2⟩ | h2
 ·exact .inl ⟨e1, fun i hi => e2 i (List.mem_reverse.2 (List.mem_range.2 hi))⟩
 ·exact .inr h2
theorem EK {ts : List Int} {pts : List Pnt} (w : WG ts pts) {A : List Nat} (h : SN ts pts A) (hc : ∀ i, i < pts.length → oD ts pts A i = A[i]!) : sS ts pts A := by
 refine ⟨h.1.1, fun i hi v => ⟨fun hv => (h.1.2 i hi).2 v hv, fun hm => ?_⟩⟩
 have key : ∀ a : Nat × Nat, Nd ts pts a → A[a.1]!.testBit a.2 = true := by
  refine Clo.sub (T := fun a : Nat × Nat => A[a.1]!.testBit a.2 = true) ?_ ?_
  ·rintro ⟨i, v⟩ ⟨h1, h2, h3⟩
   dsimp only at h1 h2 h3 ⊢
   rw [← hc i h1, jX w h1]; exact .inl ⟨h2, h3⟩
  ·rintro ⟨n, v⟩ ⟨i, v'⟩ ht ⟨rfl, e, hs⟩
   dsimp only at ht hs e ⊢
   rw [← hc i e.1, jX w e.1]; exact .inr ⟨hs, n, e, ht⟩
 exact key (i, v) hm
def o8 (ts : List Int) (pts : List Pnt) (A : List Nat) : Prop := A.length = pts.length ∧ ∀ i, i < pts.length → ∀ v, A[i]!.testBit v = true ↔ Lv ts pts i v
theorem uL {ts : List Int} {pts : List Pnt} {A B : List Nat} (h1 : o8 ts pts A) (h2 : o8 ts pts B) : A = B := kJ h1.1 h2.1 fun i hi v => (h1.2 i hi v).trans (h2.2 i hi v).symm
theorem xM {ts : List Int} {pts : List Pnt} (w : WG ts pts) {A : List Nat} (h : sS ts pts A) : o8 ts pts ((List.range pts.length).map (GC pts A)) := by
 refine ⟨by simp, fun i hi v => ?_⟩
 rw [dG _ _ (by simpa using hi), List.getElem_map, List.getElem_range, pB w hi]
 constructor
 ·rintro ⟨k, e, hk⟩; exact ⟨k, e, (h.2 k (dZ w e) v).1 hk⟩
 ·rintro ⟨k, e, hk⟩; exact ⟨k, e, (h.2 k (dZ w e) v).2 hk⟩
end Go.AL
namespace Go.AL
theorem xT {n k : Nat} (h : k < n) : (List.range n).reverse[k]! = n - 1 - k := by
 rw [dG _ _ (by simpa using h), List.getElem_reverse]; simp
theorem Bw {ts : List Int} {pts : List Pnt} {s : List Nat} {b : Bool} {i : Nat} (h : oD ts pts s i ≠ s[i]!) : k9 ts pts (s, b) i = (s.set i (oD ts pts s i), true) := by unfold k9; rw [if_pos h]
theorem FM {ts : List Int} {pts : List Pnt} {s : List Nat} {b : Bool} {i : Nat} (h : oD ts pts s i = s[i]!) : k9 ts pts (s, b) i = (s, b) := by unfold k9; rw [if_neg (fun hc => hc h)]
theorem Hs {ts : List Int} {pts : List Pnt} : SN ts pts (List.replicate pts.length 0) := by
 refine ⟨zQ fun i hi => ⟨Nat.pow_pos (by decide), fun v h => by simp at h⟩, fun i hi v h => ?_⟩
 rw [dG _ _ (by simpa using hi), List.getElem_replicate] at h; simp at h
end Go.AL
namespace Go.AL
theorem pG {ts : List Int} {pts : List Pnt} (w : WG ts pts) {a : Nat × Nat} (h : Nd ts pts a) : a.2 < ts.length := by
 induction h with
 | base h => exact h.2.1
 | step _ r ih => rw [r.1]; exact ih
end Go.AL
namespace Go.AL
open Go.RowKit
set_option linter.unusedVariables false
instance (a b : List AV) [h : Pur a] [h2 : Pur b] : Pur (a ++ b) := ⟨by rw [iM, h.pf, h2.pf]; rfl⟩
instance (fn : Go.Fn) (f c : List AV) [h : Pur f] [h2 : Pur c] : PurV (.clos fn f c) := ⟨by simp only [AV.pur, h.pf, h2.pf, Bool.and_self]⟩
def cN (n : Nat) : List AV := [.v (.int .i64 (n : Int))]
def cW (n : Nat) : List AV := [.v (.int .u64 (n : Int))]
instance : FlT cN 1 := ⟨fun _ => rfl⟩
instance : FlT cW 1 := ⟨fun _ => rfl⟩
instance : FE cN (fun n => [.v (.int .i64 (n : Int))]) := ⟨fun _ => rfl⟩
instance : FE cW (fun n => [.v (.int .u64 (n : Int))]) := ⟨fun _ => rfl⟩
instance (n : Nat) : Pur (cN n) := ⟨rfl⟩
instance (n : Nat) : Pur (cW n) := ⟨rfl⟩
theorem rJ {xs : List Nat} {k : Nat} {a : Nat} (hk : k < xs.length) : g8 (flat cN xs) (0 + k * 1) [.v (.int .i64 (a : Int))] = flat cN (xs.set k a) := l5 hk rfl
theorem n6 {xs : List Nat} {k : Nat} {a : Nat} (hk : k < xs.length) : g8 (flat cW xs) (0 + k * 1) [.v (.int .u64 (a : Int))] = flat cW (xs.set k a) := l5 hk rfl
theorem FA {xs : List Nat} {m : Nat} {a : Nat} (hm : m = xs.length) : ((flat cN xs).drop 0).take (m * 1) ++ [.v (.int .i64 (a : Int))] = flat cN (xs ++ [a]) := j9 hm rfl
theorem AA {α : Type} {f : α → List AV} {x : α} {l : List AV} {m : Nat} (h : l = f x) : (List.replicate m l).flatten = flat f (List.replicate m x) := by
 subst h; simp [flat, List.flatMap_def]
theorem AB {m : Nat} : (List.replicate m ([Value.int .i64 0].map AV.v)).flatten = flat cN (List.replicate m 0) := AA rfl
theorem GB {m : Nat} : (List.replicate m ([Value.int .u64 0].map AV.v)).flatten = flat cW (List.replicate m 0) := AA rfl
theorem iP {m : Nat} : (List.replicate m ([Value.bool false].map AV.v)).flatten = flat cB (List.replicate m false) := AA rfl
section
variable {P : Program} {N : Nat} {Q : Exit → AS → Prop} {all : Array Oper} {rest : List Oper} {ts : List (Nat × AV)} {hs : List (Nat × Option (List AV))} {n : Nat} {z0 : Lo} {md : Md}
variable {d : Nat} {ty : TypeId} {pos : String} {af : Array Edge}
theorem cR {t el e by' m : Nat} {x y : Operand} {zs : List Value} {cs : List AV} {k k' : IntKind} [ht : SlT P t el] [he : SzT P el e] [hb : ByT P el by'] [hz : ZrT P el zs]
  (hx : ev (lk ts) x = some (.v (.int k (m : Int)))) (hy : ev (lk ts) y = some (.v (.int k' (m : Int)))) (hze : zs.length = e) (hsm : by' * m ≤ 281474976710656) (hmx : m ≤ 9223372036854775807)
  (hcs : (List.replicate m (zs.map .v)).flatten = cs) (hM : Nat.blt n bZ = true) (hN : Nat.blt d N = true) {md' : Md} [hmd : MdA md (rO x ++ rO y) [.inr n, .inl d] md'] (kk : RW P N all Q md' rest ⟨(d, .own n 0 m e) :: ts, (n, some cs) :: hs, n + 1, z0⟩) :
  RW P N all Q md (⟨some d, .makeSlice t x y, ty, pos, af, none⟩ :: rest) ⟨ts, hs, n, z0⟩ := by
 subst hcs
 exact wA hx hy hze hsm hmx hM hN (md' := md') (hmd := hmd) kk
end
end Go.AL
namespace Go.AL
open Go.RowKit
theorem C7 {H : Nat → Option (List AV)} : jS H [] = some [] := rfl
theorem AJ {H : Nat → Option (List AV)} {c x : AV} {cs l : List AV} (h1 : jC H c = some x) (h2 : jS H cs = some l) : jS H (c :: cs) = some (x :: l) := by
 simp only [jS, h1, h2]
theorem Cg {H : Nat → Option (List AV)} {i m e : Nat} {cs : List AV} (h : H i = some cs) (hp : Pur cs) : jC H (.own i 0 m e) = some (.imm m cs) := by
 simp only [jC, h, Option.bind_some, hp.pf, if_true, List.drop_zero]
theorem FP {H : Nat → Option (List AV)} {x : Value} : jC H (.v x) = some (.v x) := rfl
theorem zZ {H : Nat → Option (List AV)} {cs : List AV} (hp : Pur cs) : jC H (.iptr cs) = some (.iptr cs) := by simp only [jC, hp.pf, if_true]
section
variable {P : Program} {N : Nat} {Q : Exit → AS → Prop} {all : Array Oper} {rest : List Oper} {ts : List (Nat × AV)} {hs : List (Nat × Option (List AV))} {n : Nat} {z0 : Lo} {md : Md}
variable {d : Nat} {ty : TypeId} {pos : String} {af : Array Edge}
theorem E4 {k : FuncId} {args : Array Operand} {tys : Array TypeId} {avs avs2 : List AV} {r : AV} {md' : Md} [hc : CaT P k] (ha : evL (lk ts) args.toList = some avs) (hl : jS (bU hs) avs = some avs2) (h : PC P k avs2 (fun x => x = r)) (hfr : r.free = true) (hN : Nat.blt d N = true)
  (hmd : MdA md (jH args.toList ++ rL avs) [.inl d] md') (kk : RW P N all Q md' rest ⟨(d, r) :: ts, hs, n, z0⟩) : RW P N all Q md (⟨some d, .call ⟨.value (.func k), args, tys⟩, ty, pos, af, none⟩ :: rest) ⟨ts, hs, n, z0⟩ := by
 exact FR ha hl h hfr hN (hmd := hmd) kk
end
theorem CQ {k : IntKind} [hk : K6 k] (a : Nat) [ha : Sm a] : gQ .and k a 1 = some (.int k ((a &&& 1 : Nat) : Int)) := xJ a 1
section
variable {P : Program} {N : Nat} {Q : Exit → AS → Prop} {all : Array Oper} {rest : List Oper} {ts : List (Nat × AV)} {hs : List (Nat × Option (List AV))} {n : Nat} {z0 : Lo} {md : Md}
variable {d : Nat} {ty : TypeId} {pos : String} {af : Array Edge}
theorem pO {k : IntKind} {t t' : TypeId} {x y : Operand} {a : Nat} (hx : ev (lk ts) x = some (.v (.int k (a : Int)))) (hy : ev (lk ts) y = some (.v (.int k 1))) (hk : K6 k) (ha : Sm a)
  (hN : Nat.blt d N = true) {md' : Md} [hmd : MdA md (rO x ++ rO y) [.inl d] md'] (kk : RW P N all Q md' rest ⟨(d, .v (.int k ((a &&& 1 : Nat) : Int))) :: ts, hs, n, z0⟩) : RW P N all Q md (⟨some d, .binOp .and t x y t', ty, pos, af, none⟩ :: rest) ⟨ts, hs, n, z0⟩ :=
 eZ hx hy (.inl rfl) (CQ a) (dX hN) (by rw [hmd.pf]; exact kk)
end
theorem l4 (A v : Nat) : ((A >>> v &&& 1 : Nat) : Int) = 1 ↔ A.testBit v = true := by
 rw [Nat.testBit, Nat.and_comm]
 have : 1 &&& (A >>> v) = (A >>> v) % 2 := by rw [Nat.and_comm, Nat.and_one_is_mod]
 rw [this]
 have := Nat.mod_two_eq_zero_or_one (A >>> v)
 simp only [bne_iff_ne, ne_eq]
 omega
def cJ (A : Nat) : List Int := ((List.range 62).filter (A.testBit ·)).map (fun v : Nat => (v : Int))
theorem oV {A k : Nat} (h : ∀ v, k ≤ v → A.testBit v = false) (hk : k ≤ 64) (hA : Sm A) : cJ A = ((List.range k).filter (A.testBit ·)).map (fun v : Nat => (v : Int)) := by
 unfold cJ
 congr 1
 have e : ∀ (a b : Nat), (∀ v, a ≤ v → v < a + b → A.testBit v = false) → (List.range (a + b)).filter (A.testBit ·) = (List.range a).filter (A.testBit ·) := by
  intro a b hb
  rw [List.range_add, List.filter_append]
  have : List.filter (A.testBit ·) (List.map (fun x => a + x) (List.range b)) = [] := by
   rw [List.filter_eq_nil_iff]
   intro x hx
   rw [List.mem_map] at hx
   obtain ⟨y, hy, rfl⟩ := hx
   rw [List.mem_range] at hy
   rw [hb _ (by omega) (by omega)]; simp
  rw [this, List.append_nil]
 rcases Nat.le_total k 62 with h1 | h1
 ·have := e k (62 - k) (fun v h2 _ => h v h2)
  rwa [show k + (62 - k) = 62 by omega] at this
 ·have := e 62 (k - 62) (fun v h2 _ => Nat.testBit_lt_two_pow (Nat.lt_of_lt_of_le hA.pf (Nat.pow_le_pow_right (by decide) h2)))
  rw [show 62 + (k - 62) = k by omega] at this
  exact this.symm
theorem iU (p : Nat → Bool) (k : Nat) : (List.range (k + 1)).filter p = (List.range k).filter p ++ (if p k = true then [k] else []) := by
 rw [List.range_succ, List.filter_append]
 congr 1
 by_cases h : p k = true <;> simp [h]
theorem dK {A : Nat} {z : Int} : z ∈ cJ A ↔ ∃ v : Nat, v < 62 ∧ A.testBit v = true ∧ z = v := by
 unfold cJ
 simp only [List.mem_map, List.mem_filter, List.mem_range]
 constructor
 ·rintro ⟨v, ⟨h1, h2⟩, rfl⟩; exact ⟨v, h1, h2, rfl⟩
 ·rintro ⟨v, h1, h2, rfl⟩; exact ⟨v, ⟨h1, h2⟩, rfl⟩
end Go.AL
namespace Go.AL
theorem Bd {A k : Nat} (hA : Sm A) (h : 0 < ((A >>> k : Nat) : Int)) : k < 62 := by
 rcases Nat.lt_or_ge k 62 with h1 | h1
 ·exact h1
 ·have : A >>> k = 0 := by rw [Nat.shiftRight_eq_div_pow]; exact Nat.div_eq_of_lt (Nat.lt_of_lt_of_le hA.pf (Nat.pow_le_pow_right (by decide) h1))
  rw [this] at h; simp at h
theorem E8 {A k : Nat} (h : ((A >>> k : Nat) : Int) ≤ 0) (v : Nat) (hv : k ≤ v) : A.testBit v = false := by
 have h0 : A >>> k = 0 := Nat.le_zero.1 (Int.ofNat_le.1 h)
 have : A.testBit v = (A >>> k).testBit (v - k) := by rw [Nat.testBit_shiftRight]; congr 1; omega
 rw [this, h0]; simp
theorem tT {A k : Nat} {u : List Int} (h : ((A >>> k &&& 1 : Nat) : Int) = 1) (hu : u = ((List.range k).filter (A.testBit ·)).map (fun v : Nat => (v : Int))) : u ++ [(k : Int)] = ((List.range (k + 1)).filter (A.testBit ·)).map (fun v : Nat => (v : Int)) := by
 rw [iU, if_pos ((l4 A k).1 h), List.map_append, hu]; rfl
theorem uG {A k : Nat} {u : List Int} (h : ¬ ((A >>> k &&& 1 : Nat) : Int) = 1) (hu : u = ((List.range k).filter (A.testBit ·)).map (fun v : Nat => (v : Int))) : u = ((List.range (k + 1)).filter (A.testBit ·)).map (fun v : Nat => (v : Int)) := by
 rw [iU, if_neg (fun q => h ((l4 A k).2 q)), List.append_nil, hu]
def pK (pts : List Pnt) (V : Nat) : Nat := fF (fun l => c9 pts[l]! && V.testBit (pts[l]!.y.toNat)) pts.length
theorem EB {ts : List Int} {pts : List Pnt} (w : WG ts pts) (V : Nat) : Sm (pK pts V) := fB (by have := w.pl; omega)
theorem iB {pts : List Pnt} {V l : Nat} : (pK pts V).testBit l = (decide (l < pts.length) && (c9 pts[l]! && V.testBit (pts[l]!.y.toNat))) := fG _ _ _
def HV (pts : List Pnt) (i : Nat) : Nat := if c9 pts[i]! = true then 2 ^ i else 0
def vL (ts : List Int) (pts : List Pnt) (i A : Nat) : Nat := mP A (pK pts (wS ts pts[i]! [2] ||| hO pts[i]!)) ||| HV pts i
theorem m7 {ts : List Int} {pts : List Pnt} (w : WG ts pts) {l : Nat} (hl : l < pts.length) (h : c9 pts[l]! = true) : 0 ≤ pts[l]!.y ∧ pts[l]!.y < ts.length ∧ pts[l]!.y.toNat < ts.length ∧ ((pts[l]!.y.toNat : Nat) : Int) = pts[l]!.y := by
 have := w.y l hl
 unfold c9 at h
 simp only [Bool.or_eq_true, decide_eq_true_eq] at h
 omega
theorem testBit_lnB {pts : List Pnt} {i l : Nat} : (HV pts i).testBit l = (c9 pts[i]! && decide (l = i)) := by
 unfold HV
 split
 ·rename_i h
  by_cases e : l = i
  ·subst e; rw [Nat.testBit_two_pow_self, h]; simp
  ·rw [Nat.testBit_two_pow_of_ne (fun q => e q.symm), h]; simp [e]
 ·rename_i h; rw [Bool.not_eq_true] at h; rw [h]; simp
theorem lN {ts : List Int} {pts : List Pnt} (w : WG ts pts) {i A l : Nat} (hi : i < pts.length) (hl : l < pts.length) (hln : c9 pts[l]! = true) : (vL ts pts i A).testBit l = true ↔ (A.testBit l = true ∧ cE ts pts[i]! pts[l]!.y ≠ 2 ∧ bR pts[i]! ≠ pts[l]!.y) ∨ (c9 pts[i]! = true ∧ l = i) := by
 have hy := m7 w hl hln
 have hs := (w.set i hi).1
 have htl := w.tl
 unfold vL
 rw [Nat.testBit_or, dC, iB, testBit_lnB, Nat.testBit_or, dM, gI (by omega), hy.2.2.2, hln]
 simp only [Bool.or_eq_true, Bool.and_eq_true, Bool.not_eq_true', Bool.and_eq_false_iff, Bool.or_eq_false_iff, decide_eq_true_eq, decide_eq_false_iff_not, List.mem_cons, List.not_mem_nil, or_false, Bool.true_eq_false, false_or]
 have := hy.2.2.1
 grind
theorem z3 {ts : List Int} {pts : List Pnt} (w : WG ts pts) {i A : Nat} (hi : i < pts.length) (hA : A < 2 ^ pts.length) : vL ts pts i A < 2 ^ pts.length := by
 unfold vL
 refine Nat.or_lt_two_pow (Nat.xor_lt_two_pow hA (Nat.lt_of_le_of_lt Nat.and_le_left hA)) ?_
 unfold HV; split
 ·exact Nat.pow_lt_pow_right (by decide) hi
 ·exact Nat.pow_pos (by decide)
def IJ (ts : List Int) (pts : List Pnt) (i A : Nat) : Prop := A < 2 ^ pts.length ∧ ∀ l, A.testBit l = true → FW ts pts (i, l)
def pC (ts : List Int) (pts : List Pnt) (A : List Nat) : Prop := A.length = pts.length ∧ ∀ i, i < pts.length → ∀ l, A[i]!.testBit l = true ↔ FW ts pts (i, l)
theorem B6 {ts : List Int} {pts : List Pnt} {A B : List Nat} (h1 : pC ts pts A) (h2 : pC ts pts B) : A = B := kJ h1.1 h2.1 fun i hi v => (h1.2 i hi v).trans (h2.2 i hi v).symm
theorem nM {ts : List Int} {pts : List Pnt} {a : Nat × Nat} (h : FW ts pts a) : a.2 < pts.length ∧ c9 pts[a.2]! = true := by
 induction h with
 | base h => exact ⟨h.1.1, h.2⟩
 | step _ r ih => rw [r.1]; exact ih
theorem IU {ts : List Int} {pts : List Pnt} (w : WG ts pts) : Flow mR (vL ts pts) pts (fun a => 2 ^ pts.length - a) (IJ ts pts) := by
 refine ⟨fun i k A B e hA hB => ⟨Nat.or_lt_two_pow hB.1 (z3 w e.1 hA.1), fun l hl => ?_⟩, fun i k A B e hA hB hne => ?_⟩
 ·rw [Nat.testBit_or, Bool.or_eq_true] at hl
  rcases hl with hl | hl
  ·exact hB.2 l hl
  ·have hln : l < pts.length ∧ c9 pts[l]! = true := by
    have h0 := hl
    unfold vL at h0
    rw [Nat.testBit_or, dC, Bool.or_eq_true, Bool.and_eq_true] at h0
    rcases h0 with h0 | h0
    ·exact nM (hA.2 l h0.1)
    ·rw [testBit_lnB, Bool.and_eq_true, decide_eq_true_eq] at h0
     rw [h0.2]; exact ⟨e.1, h0.1⟩
   rw [lN w e.1 hln.1 hln.2] at hl
   rcases hl with ⟨h1, h2, h3⟩ | ⟨h1, rfl⟩
   ·exact .step (hA.2 l h1) ⟨rfl, e, h2, h3⟩
   ·exact .base ⟨e, h1⟩
 ·have h1 := lI hne
  have h2 := Nat.or_lt_two_pow hB.1 (z3 w e.1 hA.1)
  show 2 ^ pts.length - (B ||| vL ts pts i A) < 2 ^ pts.length - B
  omega
theorem Es {ts : List Int} {pts : List Pnt} (w : WG ts pts) {A : List Nat} (h : SG pts (IJ ts pts) A) (hc : kV mR (vL ts pts) pts A) : pC ts pts A := by
 refine ⟨h.1, fun i hi l => ⟨fun hl => (h.2 i hi).2 l hl, fun hm => ?_⟩⟩
 have key : ∀ a : Nat × Nat, FW ts pts a → (A[a.1]!.testBit a.2 = true ∧ a.2 < pts.length ∧ c9 pts[a.2]! = true) := by
  refine Clo.sub (T := fun a : Nat × Nat => A[a.1]!.testBit a.2 = true ∧ a.2 < pts.length ∧ c9 pts[a.2]! = true) ?_ ?_
  ·rintro ⟨k, l⟩ ⟨e, hl⟩
   dsimp only at e hl ⊢
   refine ⟨fY.1 (hc l k e) l ?_, e.1, hl⟩
   rw [lN w e.1 e.1 hl]; exact .inr ⟨hl, rfl⟩
  ·rintro ⟨i, l⟩ ⟨k, l'⟩ ⟨ht, hl1, hl2⟩ ⟨rfl, e, hu, hs⟩
   dsimp only at ht hl1 hl2 e hu hs ⊢
   refine ⟨fY.1 (hc i k e) l' ?_, hl1, hl2⟩
   rw [lN w e.1 hl1 hl2]; exact .inl ⟨ht, hu, hs⟩
 exact (key (i, l) hm).1
end Go.AL
namespace Go.AL
open Go.RowKit
set_option linter.unusedVariables false
theorem fJ (xs : List Nat) : (flat cW xs).length = xs.length := by rw [aK cW (e := 1)]; omega
theorem yE {xs : List Nat} {q : Nat} (h : q < xs.length) : (flat cW xs).drop q = .v (.int .u64 ((xs[q]! : Nat) : Int)) :: flat cW (xs.drop (q + 1)) := by
 have := gA cW (e := 1) xs q h
 rw [Nat.mul_one] at this; rw [this]; rfl
section
variable {P : Program} {N : Nat} {Q : Exit → AS → Prop} {all : Array Oper} {rest : List Oper} {ts : List (Nat × AV)} {hs : List (Nat × Option (List AV))} {n : Nat} {z0 : Lo} {md : Md}
variable {d : Nat} {ty : TypeId} {pos : String} {af : Array Edge}
theorem Ad {t el z : Nat} {x i : Operand} {xs : List Nat} {k : IntKind} {m : Int} [ht : ArT P t z el] [he : SzT P el 1] [ha : AgT P el false] (hx : ev (lk ts) x = some (.agg (flat cW xs)))
  (hi : ev (lk ts) i = some (.v (.int k m))) (hl : xs.length = z) (hm : 0 ≤ m ∧ m < z) (hN : Nat.blt d N = true) {md' : Md} [hmd : MdA md (rO x ++ rO i) [.inl d] md'] (kk : RW P N all Q md' rest ⟨(d, .v (.int .u64 ((xs[m.toNat]! : Nat) : Int))) :: ts, hs, n, z0⟩) :
  RW P N all Q md (⟨some d, .index t x i, ty, pos, af, none⟩ :: rest) ⟨ts, hs, n, z0⟩ := by
 refine BT (c := .v (.int .u64 ((xs[m.toNat]! : Nat) : Int))) hx hi ht.pf he.pf ha.pf hm ?_ (dX hN) (by rw [hmd.pf]; exact kk)
 have hlt : m.toNat < xs.length := by omega
 have := congrArg List.head? (yE hlt)
 rw [List.head?_drop] at this
 rw [Nat.mul_one]; exact this
theorem jU {id z : Nat} {t : TypeId} {x : Operand} {xs : List Nat} [ha : AgT P t true] [hz : SzT P t z] (hx : ev (lk ts) x = some (.optr id 0)) (hH : bU hs id = some (flat cW xs)) (hl : xs.length = z) (h0 : Nat.blt 0 z = true)
  (hN : Nat.blt d N = true) {md' : Md} [hmd : MdA md (rO x ++ rA (.optr id 0)) [.inl d] md'] (kk : RW P N all Q md' rest ⟨(d, .agg (flat cW xs)) :: ts, hs, n, z0⟩) : RW P N all Q md (⟨some d, .load t x, ty, pos, af, none⟩ :: rest) ⟨ts, hs, n, z0⟩ :=
 lY (cs := flat cW xs) hx ha.pf hz.pf (by simp only [deref, hH, Option.map_some, List.drop_zero]) (List.take_of_length_le (by rw [fJ, hl]; exact Nat.le_refl _)) (by rw [fJ, hl]) (by have := dX h0; omega) (dX hN) (by rw [hmd.pf]; exact kk)
theorem w8 {id z k : Nat} {t : TypeId} {x : Operand} {xs : List Nat} [ha : AgT P t true] [hz : SzT P t z] (hx : ev (lk ts) x = some (.optr id (0 + k * z))) (hH : bU hs id = some (flat cW xs)) (hl : k * z + z ≤ xs.length) (h0 : Nat.blt 0 z = true)
  (hN : Nat.blt d N = true) {md' : Md} [hmd : MdA md (rO x ++ rA (.optr id (0 + k * z))) [.inl d] md'] (kk : RW P N all Q md' rest ⟨(d, .agg (flat cW ((xs.drop (k * z)).take z))) :: ts, hs, n, z0⟩) : RW P N all Q md (⟨some d, .load t x, ty, pos, af, none⟩ :: rest) ⟨ts, hs, n, z0⟩ := by
 have e1 : (flat cW xs).drop (0 + k * z) = flat cW (xs.drop (k * z)) := by
  have := gU cW (e := 1) xs (k * z); rw [Nat.mul_one] at this; rw [Nat.zero_add, this]
 have e2 : (flat cW (xs.drop (k * z))).take z = flat cW ((xs.drop (k * z)).take z) := by
  have := fA cW (e := 1) (xs.drop (k * z)) z; rw [Nat.mul_one] at this; exact this
 exact lY (cs := flat cW (xs.drop (k * z))) hx ha.pf hz.pf (by simp only [deref, hH, Option.map_some]; rw [e1]) e2 (by rw [fJ, List.length_take, List.length_drop]; omega) (by have := dX h0; omega) (dX hN) (by rw [hmd.pf]; exact kk)
theorem oF {id o q : Nat} {t : TypeId} {x : Operand} {xs : List Nat} [ha : AgT P t false] (hx : ev (lk ts) x = some (.optr id o)) (hH : bU hs id = some (flat cW xs)) (ho : o = q) (hq : q < xs.length)
  (hN : Nat.blt d N = true) {md' : Md} [hmd : MdA md (rO x ++ rA (.optr id o)) [.inl d] md'] (kk : RW P N all Q md' rest ⟨(d, .v (.int .u64 ((xs[q]! : Nat) : Int))) :: ts, hs, n, z0⟩) : RW P N all Q md (⟨some d, .load t x, ty, pos, af, none⟩ :: rest) ⟨ts, hs, n, z0⟩ := by
 subst ho
 exact nH hx ha.pf (by simp only [deref, hH, Option.map_some]; rw [yE hq]) rfl (dX hN) (by rw [hmd.pf]; exact kk)
theorem g6 {id z : Nat} {t : TypeId} {x y : Operand} {xs : List Nat} {cs : List AV} [hz : SzT P t z] (hx : ev (lk ts) x = some (.optr id 0)) (hy : ev (lk ts) y = some (.agg (flat cW xs))) (hH : bU hs id = some cs) (hl : xs.length = z) (hc : cs.length = z)
  {md' : Md} [hmd : MdA md (rO x ++ (rO y ++ [.inr id])) [.inr id] md'] (kk : RW P N all Q md' rest ⟨ts, (id, some (flat cW xs)) :: hs, n, z0⟩) : RW P N all Q md (⟨none, .store t x y, ty, pos, af, none⟩ :: rest) ⟨ts, hs, n, z0⟩ :=
 yT (cs' := flat cW xs) hx hy hz.pf rfl (by rw [fJ, hl]) hH (by rw [fJ]; omega) (by
  unfold g8
  rw [List.take_zero, List.nil_append, Nat.zero_add, fJ, hl, List.drop_of_length_le (by omega), List.append_nil]) (by rw [hmd.pf]; exact kk)
theorem Jb {a b : Nat} : 0 + a * 6 + b * 1 = a * 6 + b := by omega
theorem IE {a : Nat} : 0 + a * 1 = a := by omega
theorem D2 {xs : List Nat} {k v a : Nat} (hk : k * 6 + v < xs.length) : g8 (flat cW xs) (0 + k * 6 + v * 1) [.v (.int .u64 (a : Int))] = flat cW (xs.set (k * 6 + v) a) := by
 rw [show 0 + k * 6 + v * 1 = 0 + (k * 6 + v) * 1 by omega]; exact n6 hk
theorem m9 {T : Nat → Option AV} {H : Nat → Option (List AV)} {a t id z : Nat} {xs : List Nat} [ha : AgT P t true] [hz : SzT P t z] (h1 : T a = some (.optr id 0)) (h2 : H id = some (flat cW xs)) (hl : xs.length = z) (h0 : 0 < z) :
  qO P T H [.cell a t] = some [.agg (flat cW xs)] := by
 have e : (flat cW xs).take z = flat cW xs := List.take_of_length_le (by rw [fJ, hl]; exact Nat.le_refl _)
 simp only [qO, Gb, h1, deref, h2, Option.map_some, List.drop_zero, ha.pf, hz.pf, e, fJ, hl]
 rw [if_pos ⟨trivial, by omega⟩]
end
theorem DY {m : Nat} : (List.replicate m ([Value.int .u64 0, Value.int .u64 0, Value.int .u64 0, Value.int .u64 0, Value.int .u64 0, Value.int .u64 0].map AV.v)).flatten = flat cW (List.replicate (m * 6) 0) := by
 induction m with
 | zero => rfl
 | succ m ih =>
  rw [List.replicate_succ, List.flatten_cons, ih, Nat.succ_mul, Nat.add_comm, ← List.replicate_append_replicate, ← cT]
  rfl
end Go.AL
namespace Go.AL
def mV (L : List Int) (f : List Nat) : List Nat := L.foldl (fun f v => f.set v.toNat 0) f
def wO (ts : List Int) (pts : List Pnt) (i : Nat) (f : List Nat) : List Nat :=
 let x := pts[i]!
 let u := mV (cJ (wS ts x [2])) f
 if bR x < 0 then u else
  let v := (bR x).toNat
  let u2 := if c9 x = true then (u.set v 0).set v (2 ^ i) else u.set v 0
  if (c9 x = true ∧ jW ts[x.y.toNat]! = true) ∨ x.op = 3 then u2.set v (u2[v]! ||| f[x.y.toNat]!) else u2
theorem nP : ∀ (L : List Int) (f : List Nat), (mV L f).length = f.length
 | [], f => rfl
 | v :: L, f => by show (mV L (f.set v.toNat 0)).length = _; rw [nP L]; simp
theorem uS : ∀ (L : List Int) (f : List Nat) (q : Nat), (mV L f)[q]! = if ∃ v ∈ L, v.toNat = q then 0 else f[q]!
 | [], f, q => by simp [mV]
 | v :: L, f, q => by
  show (mV L (f.set v.toNat 0))[q]! = _
  rw [uS L]
  by_cases h : ∃ v ∈ L, v.toNat = q
  ·rw [if_pos h, if_pos (by obtain ⟨z, h1, h2⟩ := h; exact ⟨z, List.mem_cons_of_mem _ h1, h2⟩)]
  ·rw [if_neg h]
   by_cases hv : v.toNat = q
   ·rw [if_pos ⟨v, List.mem_cons_self, hv⟩]
    subst hv
    by_cases hq : v.toNat < f.length
    ·rw [dY _ _ _ _ hq, if_pos rfl]
    ·rw [getElem!_neg (f.set v.toNat 0) v.toNat (by simpa using hq)]; rfl
   ·rw [if_neg (by rintro ⟨z, hz, e⟩; rcases List.mem_cons.1 hz with rfl | hz; exact hv e; exact h ⟨z, hz, e⟩)]
    simp only [List.getElem!_eq_getElem?_getD, List.getElem?_set_ne hv]
theorem GK (ts : List Int) (pts : List Pnt) (i : Nat) (f : List Nat) : (wO ts pts i f).length = f.length := by
 unfold wO
 dsimp only
 split
 ·exact nP _ _
 ·split <;> split <;> simp [nP]
theorem Ht {L : List Int} {f : List Nat} (h : ∀ z : Nat, Sm f[z]!) (z : Nat) : Sm (mV L f)[z]! := by
 rw [uS]; split
 ·infer_instance
 ·exact h z
theorem At {f : List Nat} {k a : Nat} (h : ∀ z : Nat, Sm f[z]!) (ha : Sm a) (z : Nat) : Sm (f.set k a)[z]! := by
 by_cases hk : k < f.length
 ·rw [dY _ _ _ _ hk]; split
  ·exact ha
  ·exact h z
 ·rw [List.set_eq_of_length_le (by omega)]; exact h z
end Go.AL
namespace Go.AL
theorem nL {x : Pnt} (h : c9 x = true) : x.op = 4 ∨ x.op = 5 := by simpa [c9] using h
theorem BY {L : List Int} {f : List Nat} {k : Nat} (h : k < L.length) : mV (L.take (k + 1)) f = (mV (L.take k) f).set (L[k]!).toNat 0 := by
 unfold mV; rw [eV _ _ _ _ h]
theorem lQ {A n : Nat} (h : A < 2 ^ n) {k : Nat} (hk : k < (cJ A).length) : 0 ≤ (cJ A)[k]! ∧ (cJ A)[k]! < n := by
 obtain ⟨v, h1, h2, h3⟩ := dK.1 (dD _ _ hk)
 have := dQ h h2
 omega
end Go.AL
namespace Go.AL
theorem kF (A : Nat) : (cJ A).length ≤ 62 := by
 unfold cJ; rw [List.length_map]; exact Nat.le_trans (List.length_filter_le _ _) (by simp)
end Go.AL
namespace Go.AL
def e5 (A : List Nat) (i : Nat) : List Nat := (A.drop (i * 6)).take 6
theorem fQ {A : List Nat} {i v n : Nat} (hA : A.length = n * 6) (hi : i < n) (hv : v < 6) : (e5 A i)[v]! = A[i * 6 + v]! := by
 have h2 : i * 6 + v < A.length := by omega
 rw [dG _ _ h2, dG _ _ (by unfold e5; simp; omega)]
 unfold e5; simp
theorem gH {A : List Nat} {i n : Nat} (hA : A.length = n * 6) (hi : i < n) : (e5 A i).length = 6 := by unfold e5; simp; omega
theorem jM {ts : List Int} {pts : List Pnt} (w : WG ts pts) {i v l : Nat} {f : List Nat} (hi : i < pts.length) (hv : v < 6) (hf : f.length = 6) :
  (wO ts pts i f)[v]!.testBit l = true ↔ (bR pts[i]! ≠ v ∧ cE ts pts[i]! v ≠ 2 ∧ f[v]!.testBit l = true) ∨
   (bR pts[i]! = v ∧ ((c9 pts[i]! = true ∧ l = i) ∨ (((c9 pts[i]! = true ∧ jW ts[pts[i]!.y.toNat]! = true) ∨ pts[i]!.op = 3) ∧ f[pts[i]!.y.toNat]!.testBit l = true))) := by
 have hst := w.set i hi
 have htl := w.tl
 have hclr : ∀ q : Nat, (mV (cJ (wS ts pts[i]! [2])) f)[q]! = if cE ts pts[i]! q = 2 then 0 else f[q]! := by
  intro q
  rw [uS]
  have : (∃ z ∈ cJ (wS ts pts[i]! [2]), z.toNat = q) ↔ cE ts pts[i]! q = 2 := by
   constructor
   ·rintro ⟨z, hz, rfl⟩
    obtain ⟨q, h1, h2, rfl⟩ := dK.1 hz
    rw [dM] at h2
    simpa using (by simpa using h2 : q < ts.length ∧ cE ts pts[i]! (q : Int) = 2).2
   ·intro h
    have := yV w hi (v := q) (by omega)
    exact ⟨(q : Int), dK.2 ⟨q, by omega, by rw [dM, Bool.and_eq_true, decide_eq_true_eq, decide_eq_true_eq]; exact ⟨this, by simp only [List.mem_singleton]; exact h⟩, rfl⟩, rfl⟩
  by_cases h : cE ts pts[i]! q = 2
  ·rw [if_pos (this.2 h), if_pos h]
  ·rw [if_neg (fun q => h (this.1 q)), if_neg h]
 have hul : (mV (cJ (wS ts pts[i]! [2])) f).length = 6 := by rw [nP, hf]
 unfold wO
 dsimp only
 generalize mV (cJ (wS ts pts[i]! [2])) f = u at hclr hul
 by_cases hneg : bR pts[i]! < 0
 ·rw [if_pos hneg, hclr]
  by_cases h2 : cE ts pts[i]! v = 2
  ·rw [if_pos h2, Nat.zero_testBit]
   constructor
   ·intro h; cases h
   ·rintro (h | h)
    ·exact absurd h2 h.2.1
    ·omega
  ·rw [if_neg h2]
   constructor
   ·intro h; exact .inl ⟨by omega, h2, h⟩
   ·rintro (h | h)
    ·exact h.2.2
    ·omega
 ·rw [if_neg hneg]
  have hsv : (bR pts[i]!).toNat < 6 := by omega
  have heq : ∀ q : Nat, q = (bR pts[i]!).toNat ↔ bR pts[i]! = q := by intro q; omega
  -- the slot before the last step
  have hu2 : ∀ q : Nat, (if c9 pts[i]! = true then (u.set (bR pts[i]!).toNat 0).set (bR pts[i]!).toNat (2 ^ i) else u.set (bR pts[i]!).toNat 0)[q]! = if q = (bR pts[i]!).toNat then (if c9 pts[i]! = true then 2 ^ i else 0) else u[q]! := by
   intro q
   by_cases hl : c9 pts[i]! = true
   ·rw [if_pos hl, if_pos hl, dY _ _ _ _ (by rw [List.length_set]; omega), dY _ _ _ _ (by omega)]
    split <;> rfl
   ·rw [if_neg hl, if_neg hl, dY _ _ _ _ (by omega)]
  have hu2l : (if c9 pts[i]! = true then (u.set (bR pts[i]!).toNat 0).set (bR pts[i]!).toNat (2 ^ i) else u.set (bR pts[i]!).toNat 0).length = 6 := by split <;> simp [hul]
  generalize (if c9 pts[i]! = true then (u.set (bR pts[i]!).toNat 0).set (bR pts[i]!).toNat (2 ^ i) else u.set (bR pts[i]!).toNat 0) = u2 at hu2 hu2l
  have hln : ∀ l : Nat, (if c9 pts[i]! = true then 2 ^ i else 0).testBit l = true ↔ c9 pts[i]! = true ∧ l = i := by
   intro l
   have := @testBit_lnB pts i l
   unfold HV at this
   rw [this]; simp
  by_cases hc : (c9 pts[i]! = true ∧ jW ts[pts[i]!.y.toNat]! = true) ∨ pts[i]!.op = 3
  ·rw [if_pos hc, dY _ _ _ _ (by omega)]
   by_cases hv2 : v = (bR pts[i]!).toNat
   ·have hs := (heq v).1 hv2
    rw [if_pos hv2, ← hv2, hu2, if_pos hv2, Nat.testBit_or, Bool.or_eq_true, hln]
    constructor
    ·rintro (h | h)
     ·exact .inr ⟨hs, .inl h⟩
     ·exact .inr ⟨hs, .inr ⟨hc, h⟩⟩
    ·rintro (h | ⟨_, h | h⟩)
     ·exact absurd hs h.1
     ·exact .inl h
     ·exact .inr h.2
   ·have hs : bR pts[i]! ≠ v := fun h => hv2 ((heq v).2 h)
    rw [if_neg hv2, hu2, if_neg hv2, hclr]
    by_cases h2 : cE ts pts[i]! v = 2
    ·rw [if_pos h2, Nat.zero_testBit]
     constructor
     ·intro h; cases h
     ·rintro (h | h)
      ·exact absurd h2 h.2.1
      ·exact absurd h.1 hs
    ·rw [if_neg h2]
     constructor
     ·intro h; exact .inl ⟨hs, h2, h⟩
     ·rintro (h | h)
      ·exact h.2.2
      ·exact absurd h.1 hs
  ·rw [if_neg hc, hu2]
   by_cases hv2 : v = (bR pts[i]!).toNat
   ·have hs := (heq v).1 hv2
    rw [if_pos hv2, hln]
    constructor
    ·intro h; exact .inr ⟨hs, .inl h⟩
    ·rintro (h | ⟨_, h | h⟩)
     ·exact absurd hs h.1
     ·exact h
     ·exact absurd h.1 hc
   ·have hs : bR pts[i]! ≠ v := fun h => hv2 ((heq v).2 h)
    rw [if_neg hv2, hclr]
    by_cases h2 : cE ts pts[i]! v = 2
    ·rw [if_pos h2, Nat.zero_testBit]
     constructor
     ·intro h; cases h
     ·rintro (h | h)
      ·exact absurd h2 h.2.1
      ·exact absurd h.1 hs
    ·rw [if_neg h2]
     constructor
     ·intro h; exact .inl ⟨hs, h2, h⟩
     ·rintro (h | h)
      ·exact h.2.2
      ·exact absurd h.1 hs
end Go.AL
namespace Go.AL
def II (ts : List Int) (pts : List Pnt) (i v A : Nat) : Prop := A < 2 ^ pts.length ∧ ∀ l, A.testBit l = true → Dm ts pts (i, v, l)
def SF (ts : List Int) (pts : List Pnt) (s : List Nat) : Prop := s.length = pts.length * 6 ∧ ∀ i v, i < pts.length → v < 6 → II ts pts i v s[i * 6 + v]!
def pE (ts : List Int) (pts : List Pnt) (A : List Nat) : Prop := A.length = pts.length * 6 ∧ ∀ i v, i < pts.length → v < 6 → ∀ l, A[i * 6 + v]!.testBit l = true ↔ Dm ts pts (i, v, l)
theorem CF {ts : List Int} {pts : List Pnt} {A B : List Nat} (h1 : pE ts pts A) (h2 : pE ts pts B) : A = B := by
 refine kJ h1.1 h2.1 fun q hq v => ?_
 have e : q = q / 6 * 6 + q % 6 := by omega
 have h3 : q / 6 < pts.length := by omega
 have h4 : q % 6 < 6 := by omega
 have a := h1.2 (q / 6) (q % 6) h3 h4 v
 have b := h2.2 (q / 6) (q % 6) h3 h4 v
 rw [← e] at a b
 exact a.trans b.symm
def oU (a : List Nat) (k : Nat) (s : List Nat × Bool) (v : Nat) : List Nat × Bool := kQ mR a[v]! s (k * 6 + v)
def tE (a : List Nat) (s : List Nat × Bool) (k : Nat) : List Nat × Bool := (List.range 6).foldl (oU a k) s
def AH (ts : List Int) (pts : List Pnt) (s : List Nat × Bool) (i : Nat) : List Nat × Bool := (s9 pts i).foldl (tE (wO ts pts i (e5 s.1 i))) s
def Ds (ts : List Int) (pts : List Pnt) (s : List Nat × Bool) : List Nat × Bool := (List.range pts.length).foldl (AH ts pts) s
theorem DT {a b n : Nat} (h1 : a < 2 ^ n) (h2 : b < 2 ^ n) : a ||| b < 2 ^ n := Nat.or_lt_two_pow h1 h2
theorem Bh {ts : List Int} {pts : List Pnt} (w : WG ts pts) {s : List Nat} (h : SF ts pts s) {i k v : Nat} (e : eM pts i k) (hv : v < 6) : II ts pts k v (wO ts pts i (e5 s i))[v]! := by
 have hi := e.1
 have hrl := gH h.1 hi
 have htl := w.tl
 have key : ∀ l, (wO ts pts i (e5 s i))[v]!.testBit l = true → l < pts.length ∧ Dm ts pts (k, v, l) := by
  intro l hl
  rw [jM w hi hv hrl] at hl
  rcases hl with ⟨h1, h2, h3⟩ | ⟨h1, ⟨h2, rfl⟩ | ⟨h2, h3⟩⟩
  ·rw [fQ h.1 hi hv] at h3
   have hp := h.2 i v hi hv
   exact ⟨dQ hp.1 h3, .step (hp.2 l h3) ⟨rfl, e, .inl ⟨h1, rfl, h2⟩⟩⟩
  ·exact ⟨hi, .base ⟨e, h2, h1⟩⟩
  ·have hy : 0 ≤ pts[i]!.y ∧ pts[i]!.y < ts.length := by
    have := w.y i hi
    rcases h2 with ⟨h2, _⟩ | h2
    ·have := nL h2; omega
    ·omega
   have hy6 : pts[i]!.y.toNat < 6 := by omega
   rw [fQ h.1 hi hy6] at h3
   have hp := h.2 i _ hi hy6
   exact ⟨dQ hp.1 h3, .step (hp.2 l h3) ⟨rfl, e, .inr ⟨h1, by show ((pts[i]!.y.toNat : Nat) : Int) = pts[i]!.y; omega, h2⟩⟩⟩
 refine ⟨?_, fun l hl => (key l hl).2⟩
 apply Nat.lt_pow_two_of_testBit
 intro l hl
 cases hq : (wO ts pts i (e5 s i))[v]!.testBit l with
 | false => rfl
 | true => have := (key l hq).1; omega
theorem xX {ts : List Int} {pts : List Pnt} {a : List Nat} {k : Nat} (hk : k < pts.length) (ha : ∀ v, v < 6 → II ts pts k v a[v]!) (s : List Nat) (b : Bool) (v : Nat) (hv : v < 6) (h : SF ts pts s) :
  SF ts pts (oU a k (s, b) v).1 ∧ ((oU a k (s, b) v = (s, b) ∧ mR s[k * 6 + v]! a[v]! = s[k * 6 + v]!) ∨ ((oU a k (s, b) v).2 = true ∧ fM ((oU a k (s, b) v).1.map (fun x => 2 ^ pts.length - x)) < fM (s.map (fun x => 2 ^ pts.length - x)))) := by
 unfold oU kQ
 dsimp only
 have hq : k * 6 + v < s.length := by rw [h.1]; omega
 have hp := h.2 k v hk hv
 by_cases hc : mR s[k * 6 + v]! a[v]! ≠ s[k * 6 + v]!
 ·rw [if_pos hc]
  have hb := DT hp.1 (ha v hv).1
  refine ⟨⟨by simp [h.1], fun i u hi hu => ?_⟩, .inr ⟨rfl, ?_⟩⟩
  ·dsimp only
   rw [dY _ _ _ _ hq]
   split
   ·rename_i e
    obtain rfl : i = k := by omega
    obtain rfl : u = v := by omega
    refine ⟨hb, fun l hl => ?_⟩
    rw [Nat.testBit_or, Bool.or_eq_true] at hl
    rcases hl with hl | hl
    ·exact hp.2 l hl
    ·exact (ha _ hv).2 l hl
   ·exact h.2 i u hi hu
  ·have h1 := nT (fun x => 2 ^ pts.length - x) s (k * 6 + v) (mR s[k * 6 + v]! a[v]!) hq
   have h2 := lI hc
   dsimp only at h1 ⊢
   have h3 : mR s[k * 6 + v]! a[v]! < 2 ^ pts.length := hb
   have h4 : s[k * 6 + v]! < mR s[k * 6 + v]! a[v]! := h2
   omega
 ·rw [if_neg hc]
  exact ⟨h, .inl ⟨rfl, Classical.not_not.1 hc⟩⟩
theorem Ek {ts : List Int} {pts : List Pnt} {a : List Nat} {k : Nat} (hk : k < pts.length) (ha : ∀ v, v < 6 → II ts pts k v a[v]!) (s : List Nat) (b : Bool) (h : SF ts pts s) :
  SF ts pts (tE a (s, b) k).1 ∧ ((tE a (s, b) k = (s, b) ∧ ∀ v, v < 6 → mR s[k * 6 + v]! a[v]! = s[k * 6 + v]!) ∨ ((tE a (s, b) k).2 = true ∧ fM ((tE a (s, b) k).1.map (fun x => 2 ^ pts.length - x)) < fM (s.map (fun x => 2 ^ pts.length - x)))) := by
 have := jD (oU a k) (fun v s => mR s[k * 6 + v]! a[v]! = s[k * 6 + v]!) (fun s => fM (s.map (fun x => 2 ^ pts.length - x))) (SF ts pts) (List.range 6)
  (fun s' b' v hv hs => xX hk ha s' b' v (List.mem_range.1 hv) hs) s b h
 refine ⟨this.1, ?_⟩
 rcases this.2 with ⟨e1, e2⟩ | h2
 ·exact .inl ⟨e1, fun v hv => e2 v (List.mem_range.2 hv)⟩
 ·exact .inr h2
theorem Dn {ts : List Int} {pts : List Pnt} (w : WG ts pts) (s : List Nat) (b : Bool) (i : Nat) (hi : i < pts.length) (h : SF ts pts s) :
  SF ts pts (AH ts pts (s, b) i).1 ∧ ((AH ts pts (s, b) i = (s, b) ∧ ∀ k, eM pts i k → ∀ v, v < 6 → mR s[k * 6 + v]! (wO ts pts i (e5 s i))[v]! = s[k * 6 + v]!) ∨
   ((AH ts pts (s, b) i).2 = true ∧ fM ((AH ts pts (s, b) i).1.map (fun x => 2 ^ pts.length - x)) < fM (s.map (fun x => 2 ^ pts.length - x)))) := by
 have := jD (tE (wO ts pts i (e5 s i))) (fun k s' => ∀ v, v < 6 → mR s'[k * 6 + v]! (wO ts pts i (e5 s i))[v]! = s'[k * 6 + v]!) (fun s => fM (s.map (fun x => 2 ^ pts.length - x))) (SF ts pts) (s9 pts i)
  (fun s' b' k hk hs => by
   have e := (nJ w hi).1 hk
   exact Ek (dZ w e) (fun v hv => Bh w h e hv) s' b' hs) s b h
 refine ⟨this.1, ?_⟩
 rcases this.2 with ⟨e1, e2⟩ | h2
 ·exact .inl ⟨e1, fun k e => e2 k ((nJ w hi).2 e)⟩
 ·exact .inr h2
def vB (ts : List Int) (pts : List Pnt) (s : List Nat) : Prop := ∀ i k, eM pts i k → ∀ v, v < 6 → mR s[k * 6 + v]! (wO ts pts i (e5 s i))[v]! = s[k * 6 + v]!
theorem DM {ts : List Int} {pts : List Pnt} (w : WG ts pts) (s : List Nat) (b : Bool) (h : SF ts pts s) :
  SF ts pts (Ds ts pts (s, b)).1 ∧ ((Ds ts pts (s, b) = (s, b) ∧ vB ts pts s) ∨ ((Ds ts pts (s, b)).2 = true ∧ fM ((Ds ts pts (s, b)).1.map (fun x => 2 ^ pts.length - x)) < fM (s.map (fun x => 2 ^ pts.length - x)))) := by
 have := jD (AH ts pts) (fun i s => ∀ k, eM pts i k → ∀ v, v < 6 → mR s[k * 6 + v]! (wO ts pts i (e5 s i))[v]! = s[k * 6 + v]!) (fun s => fM (s.map (fun x => 2 ^ pts.length - x))) (SF ts pts) (List.range pts.length)
  (fun s' b' i hi hs => Dn w s' b' i (List.mem_range.1 hi) hs) s b h
 refine ⟨this.1, ?_⟩
 rcases this.2 with ⟨e1, e2⟩ | h2
 ·exact .inl ⟨e1, fun i k e => e2 i (List.mem_range.2 e.1) k e⟩
 ·exact .inr h2
theorem y5 {ts : List Int} {pts : List Pnt} (w : WG ts pts) {a : Nat × Nat × Nat} (h : Dm ts pts a) : a.1 < pts.length ∧ a.2.1 < ts.length ∧ a.2.2 < pts.length := by
 induction h with
 | @base a h =>
  have h1 := (w.set _ h.1.1).1
  have h2 := h.2.2
  exact ⟨dZ w h.1, by omega, h.1.1⟩
 | @step a b _ r ih =>
  refine ⟨dZ w r.2.1, ?_, by rw [r.1]; exact ih.2.2⟩
  rcases r.2.2 with ⟨_, h, _⟩ | ⟨h, _⟩
  ·rw [h]; exact ih.2.1
  ·have h1 := (w.set _ r.2.1.1).1
   omega
theorem DN {ts : List Int} {pts : List Pnt} (w : WG ts pts) {A : List Nat} (h : SF ts pts A) (hc : vB ts pts A) : pE ts pts A := by
 refine ⟨h.1, fun i v hi hv l => ⟨fun hl => (h.2 i v hi hv).2 l hl, fun hm => ?_⟩⟩
 have htl := w.tl
 have key : ∀ a : Nat × Nat × Nat, Dm ts pts a → A[a.1 * 6 + a.2.1]!.testBit a.2.2 = true ∧ a.2.1 < ts.length := by
  refine Clo.sub (T := fun a : Nat × Nat × Nat => A[a.1 * 6 + a.2.1]!.testBit a.2.2 = true ∧ a.2.1 < ts.length) ?_ ?_
  ·rintro ⟨k, v, l⟩ ⟨e, hl, hs⟩
   dsimp only at e hl hs ⊢
   have h1 := (w.set _ e.1).1
   have hv : v < 6 := by omega
   refine ⟨fY.1 (hc l k e v hv) l ?_, by omega⟩
   rw [jM w e.1 hv (gH h.1 e.1)]
   exact .inr ⟨hs, .inl ⟨hl, rfl⟩⟩
  ·rintro ⟨i, v, l⟩ ⟨k, v', l'⟩ ⟨ht, hv⟩ ⟨rfl, e, hd⟩
   dsimp only at ht hv e hd ⊢
   have h1 := (w.set _ e.1).1
   rcases hd with ⟨g1, rfl, g3⟩ | ⟨g1, g2, g3⟩
   ·refine ⟨fY.1 (hc i k e v' (by omega)) l' ?_, hv⟩
    rw [jM w e.1 (by omega) (gH h.1 e.1), fQ h.1 e.1 (by omega)]
    exact .inl ⟨g1, g3, ht⟩
   ·refine ⟨fY.1 (hc i k e v' (by omega)) l' ?_, by omega⟩
    rw [jM w e.1 (by omega) (gH h.1 e.1)]
    have : pts[i]!.y.toNat = v := by omega
    rw [this, fQ (v := v) h.1 e.1 (by omega)]
    exact .inr ⟨g1, .inr ⟨g3, ht⟩⟩
 exact (key (i, v, l) hm).1
theorem Hx {ts : List Int} {pts : List Pnt} : SF ts pts (List.replicate (pts.length * 6) 0) := by
 refine ⟨by simp, fun i v hi hv => ?_⟩
 rw [dG _ _ (by simp; omega), List.getElem_replicate]
 exact ⟨Nat.pow_pos (by decide), fun l h => by simp at h⟩
theorem Hg {ts : List Int} {pts : List Pnt} (w : WG ts pts) {s : List Nat} (h : SF ts pts s) (q : Nat) : Sm s[q]! := by
 have hpl := w.pl
 by_cases hq : q < s.length
 ·have e : q = q / 6 * 6 + q % 6 := by omega
  have := h.1
  have := (h.2 (q / 6) (q % 6) (by omega) (by omega)).1
  rw [← e] at this
  exact ⟨Nat.lt_of_lt_of_le this (Nat.pow_le_pow_right (by decide) (by omega))⟩
 ·rw [getElem!_neg s q hq]; exact ⟨by decide⟩
end Go.AL
namespace Go.AL
theorem tV (a : List Nat) (k v : Nat) (s : List Nat × Bool) : (List.range (v + 1)).foldl (oU a k) s = oU a k ((List.range v).foldl (oU a k) s) v := eS _ _ _
theorem BW {a : List Nat} {pts : List Pnt} {i j : Nat} (h : j < pts[i]!.next.length) (s : List Nat × Bool) :
  ((s9 pts i).take (j + 1)).foldl (tE a) s = tE a (((s9 pts i).take j).foldl (tE a) s) (pts[i]!.next[j]!).toNat := by
 rw [eV _ _ _ _ (by rw [k5]; exact h), wE h]
end Go.AL
namespace Go.AL
open Go.RowKit
set_option linter.unusedVariables false
section
variable {P : Program} {N : Nat} {Q : Exit → AS → Prop} {all : Array Oper} {rest : List Oper} {ts : List (Nat × AV)} {hs : List (Nat × Option (List AV))} {n : Nat} {z0 : Lo} {md : Md}
variable {d : Nat} {ty : TypeId} {pos : String} {af : Array Edge}
theorem iJ {e : Nat} (hM : Nat.blt n bZ = true) (hN : Nat.blt d N = true) (kk : RW P N all Q .txt rest ⟨(d, .own n 0 0 e) :: ts, (n, some []) :: hs, n + 1, z0⟩) :
  RW P N all Q .txt (⟨some d, .assign (.const (.slice none 0 0)), ty, pos, af, none⟩ :: rest) ⟨ts, hs, n, z0⟩ := by
 refine aC (av := .v (.slice none 0 0)) rfl hN (md' := .txt) (fN kk ((Le.nilOwn (d := d) e (by simp [kG]) (dX hM)).trans ?_))
 refine Le.of (fun t av h => ?_) (fun i c h => h) (Nat.le_refl _) rfl
 show lk ((d, .own n 0 0 e) :: (d, .v (.slice none 0 0)) :: ts) t = _
 have h' : lk ((d, .own n 0 0 e) :: ts) t = some av := h
 simp only [kG] at h' ⊢
 split
 ·rename_i q; rw [if_pos q] at h'; exact h'
 ·rename_i q; rw [if_neg q] at h'; exact h'
theorem z4 {xs : List Nat} {t el m : Nat} {x i : Operand} {kk0 : IntKind} {k : Int} [ht : SlT P t el] [he : SzT P el 6] (hx : ev (lk ts) x = some (.imm m (flat cW xs)))
  (hi : ev (lk ts) i = some (.v (.int kk0 k))) (hm : 0 ≤ k ∧ k < m) (hN : Nat.blt d N = true) {md' : Md} [hmd : MdA md (rO x ++ rO i) [.inl d] md'] (kk : RW P N all Q md' rest ⟨(d, .iptr (flat cW (xs.drop (k.toNat * 6)))) :: ts, hs, n, z0⟩) :
  RW P N all Q md (⟨some d, .indexAddr t x i, ty, pos, af, none⟩ :: rest) ⟨ts, hs, n, z0⟩ :=
 gE (out := .iptr (flat cW (xs.drop (k.toNat * 6)))) hx hi ht.pf he.pf (by
  simp only [xF]; rw [if_pos hm]
  have := gU cW (e := 1) xs (k.toNat * 6); rw [Nat.mul_one] at this; rw [this]) (dX hN) (by rw [hmd.pf]; exact kk)
theorem yM {z : Nat} {t : TypeId} {x : Operand} {xs : List Nat} [ha : AgT P t true] [hz : SzT P t z] (hx : ev (lk ts) x = some (.iptr (flat cW xs))) (hl : z ≤ xs.length) (h0 : Nat.blt 0 z = true)
  (hN : Nat.blt d N = true) {md' : Md} [hmd : MdA md (rO x ++ rA (.iptr (flat cW xs))) [.inl d] md'] (kk : RW P N all Q md' rest ⟨(d, .agg (flat cW (xs.take z))) :: ts, hs, n, z0⟩) : RW P N all Q md (⟨some d, .load t x, ty, pos, af, none⟩ :: rest) ⟨ts, hs, n, z0⟩ := by
 have e2 : (flat cW xs).take z = flat cW (xs.take z) := by have := fA cW (e := 1) xs z; rw [Nat.mul_one] at this; exact this
 exact lY (cs := flat cW xs) hx ha.pf hz.pf rfl e2 (by rw [fJ, List.length_take]; omega) (by have := dX h0; omega) (dX hN) (by rw [hmd.pf]; exact kk)
end
end Go.AL
