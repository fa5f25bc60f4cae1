/-
  A part of the proofs over this program: rules and contracts of its functions (the rules).
-/
import Derived.Test.YtlbbbmeadnelbaaGreatA03
set_option linter.unusedVariables false
set_option linter.unusedSimpArgs false
namespace Go.AL
open Go.RowKit
set_option linter.unusedVariables false
set_option linter.unusedSimpArgs false
section
variable {P : Program} {N : Nat} {Q : Exit → AS → Prop} {all : Array Oper} {rest : List Oper} {ts : List (Nat × AV)} {hs : List (Nat × Option (List AV))} {n : Nat} {z0 : Lo} {md : Md}
variable {d : Nat} {ty : TypeId} {pos : String} {af : Array Edge}

def closOf : AV → Option (FuncId × List AV × List AV)
  | .clos (.func k) f c => some (k, f, c)
  | .v (.func (.func k) ⟨[]⟩ ⟨[]⟩) => some (k, [], [])
  | _ => none
theorem closOf_ok {w : World} {bad : Nat → Prop} {ι : Pl} {av : AV} {y : Value} {k : FuncId} {f c : List AV} (h : closOf av = some (k, f, c)) (hy : Rd w bad ι av y) :
    ∃ lf lc : List Value, y = .func (.func k) lf.toArray lc.toArray ∧ RdV w bad ι f lf ∧ RdV w bad ι c lc := by
  unfold closOf at h
  split at h
  · cases h; simpa only [Rd] using hy
  · cases h; simp only [Rd] at hy; exact ⟨[], [], hy, by simp [RdV], by simp [RdV]⟩
  · cases h
theorem RdV_append {w : World} {bad : Nat → Prop} {ι : Pl} : ∀ {a b : List AV} {la lb : List Value}, RdV w bad ι a la → RdV w bad ι b lb → RdV w bad ι (a ++ b) (la ++ lb)
  | [], b, la, lb, h1, h2 => by simp only [RdV] at h1; subst h1; exact h2
  | x :: a, b, la, lb, h1, h2 => by
    simp only [RdV] at h1
    obtain ⟨y, l', rfl, h3, h4⟩ := h1
    simp only [List.cons_append, RdV]
    exact ⟨y, _, rfl, h3, RdV_append h4 h2⟩
theorem exec_callV {k : FuncId} {t : Nat} {args : Array Operand} {tys : Array TypeId} (hc : callable P k = true) (dst : Option Tmp) (a : Act) (w : World) {lf lc : List Value} (hy : a.eval (.tmp t) = .func (.func k) lf.toArray lc.toArray) :
    (execOp a.eval ⟨dst, .call ⟨.value (.tmp t), args, tys⟩, ty, pos, af, none⟩).run P w = .ok (.enter k (lf ++ args.toList.map a.eval ++ lc).toArray) w := by
  simp only [execOp, Sem.run_bind, resolve, hy, Deferred.ofValue, Sem.run_pure, Result.andThen_ok, invoke, run_call hc]
  congr 2
  apply Array.ext'
  simp
theorem rw_callC {k : FuncId} {t : Nat} {args : Array Operand} {tys : Array TypeId} {avs f c : List AV} {fv : AV} {r : AV} (hc : callable P k = true) (hx : lk ts t = some fv) (hcl : closOf fv = some (k, f, c)) (ha : evL (lk ts) args.toList = some avs)
    (h : PC P k (f ++ avs ++ c) (fun x => x = r)) (hp : pursB (f ++ avs ++ c) = true) (hN : d < N)
    (kk : RW P N all Q (md.add (rO (.tmp t) ++ rOs args.toList) [.inl d]) rest ⟨(d, r) :: ts, hs, n, z0⟩) : RW P N all Q md (⟨some d, .call ⟨.value (.tmp t), args, tys⟩, ty, pos, af, none⟩ :: rest) ⟨ts, hs, n, z0⟩ := by
  refine rw_step (rs := rO (.tmp t) ++ rOs args.toList) (ws := []) (n' := n) (out := r) rfl (Nat.le_refl _) (.inl rfl) (fun C ι F T H a w K Q' hCN ag hF g gh hK => ?_) (fun x hx => by cases hx; exact hN) kk
  obtain ⟨lf, lc, hy, h1, h2⟩ := closOf_ok hcl (ev_ok g (x := .tmp t) (ag.l.ev.trans hx))
  simp only [Oper.wp, exec_callV hc _ a w hy, Oper.upon]
  refine (call_pure h hp gh (RdV_append (RdV_append h1 (evL_ok g (ag.r.evL.trans ha))) h2)).mono ?_
  rintro e w' ⟨v, r', rfl, h2, h3, h4, h5, h6⟩
  subst h2
  exact hK ι w' v (g.carry h5) (h4.less (fun _ _ h => h) (fun j hj => hj.1)).1 h6
theorem rx_callC {k : FuncId} {t : Nat} {args : Array Operand} {tys : Array TypeId} {avs f c : List AV} {fv : AV} {r : AV} (hx : lk ts t = some fv) (hcl : closOf fv = some (k, f, c)) (hc : CaT P k) (ha : evL (lk ts) args.toList = some avs)
    (h : PC P k (f ++ avs ++ c) (fun x => x = r)) (hp : pursB (f ++ avs ++ c) = true) (hN : Nat.blt d N = true) {md' : Md} [hmd : MdA md (rO (.tmp t) ++ rOs args.toList) [.inl d] md']
    (kk : RW P N all Q md' rest ⟨(d, r) :: ts, hs, n, z0⟩) : RW P N all Q md (⟨some d, .call ⟨.value (.tmp t), args, tys⟩, ty, pos, af, none⟩ :: rest) ⟨ts, hs, n, z0⟩ :=
  rw_callC hc.pf hx hcl ha h hp (ltb hN) (by rw [hmd.pf]; exact kk)
theorem rx_makeFunc {fn : Go.Fn} {fs cs : Array Operand} {f c : List AV} (hf : evL (lk ts) fs.toList = some f) (hc : evL (lk ts) cs.toList = some c) (hN : Nat.blt d N = true) {md' : Md} [hmd : MdA md (rOs fs.toList ++ rOs cs.toList) [.inl d] md']
    (kk : RW P N all Q md' rest ⟨(d, .clos fn f c) :: ts, hs, n, z0⟩) : RW P N all Q md (⟨some d, .makeFunc fn fs cs, ty, pos, af, none⟩ :: rest) ⟨ts, hs, n, z0⟩ := by
  refine rw_pu (out := .clos fn f c) (rs := rOs fs.toList ++ rOs cs.toList) rfl rfl (ltb hN) (fun C ι F T H a w ag g gh => ?_) (by rw [hmd.pf]; exact kk)
  refine ⟨.func fn (fs.map a.eval) (cs.map a.eval), by simp [execOp, Instr.makeFunc], ?_⟩
  simp only [Rd]
  exact ⟨fs.toList.map a.eval, cs.toList.map a.eval, by rw [← Array.toList_map, ← Array.toList_map, Array.toArray_toList, Array.toArray_toList], evL_ok g (ag.l.evL.trans hf), evL_ok g (ag.r.evL.trans hc)⟩
end

class Sm (n : Nat) : Prop where pf : n < 2 ^ 62
def anl (a b : Nat) : Nat := a ^^^ (a &&& b)
theorem testBit_anl (a b i : Nat) : (anl a b).testBit i = (a.testBit i && !b.testBit i) := by
  simp only [anl, Nat.testBit_xor, Nat.testBit_and]; cases a.testBit i <;> cases b.testBit i <;> rfl
instance (a b : Nat) [h : Sm a] : Sm (anl a b) := ⟨Nat.xor_lt_two_pow h.pf (Nat.lt_of_le_of_lt Nat.and_le_left h.pf)⟩
instance (a b : Nat) [h : Sm a] : Sm (a >>> b) := ⟨Nat.lt_of_le_of_lt (by rw [Nat.shiftRight_eq_div_pow]; exact Nat.div_le_self _ _) h.pf⟩
instance : Sm 0 := ⟨by decide⟩
instance : Sm 1 := ⟨by decide⟩
theorem Sm.pow {k : Nat} (h : k < 62) : Sm (2 ^ k) := ⟨Nat.pow_lt_pow_right (by decide) h⟩
class K6 (k : IntKind) : Prop where pf : k = .i64 ∨ k = .u64
instance : K6 .i64 := ⟨.inl rfl⟩
theorem wrap_sm {k : IntKind} [hk : K6 k] {a : Nat} (h : a < 2 ^ 62) : k.wrap (a : Int) = (a : Int) := by
  rcases hk.pf with rfl | rfl
  · exact wrap_nat (by omega)
  · simp only [IntKind.wrap]
    first
    | (simp [IntKind.bits, IntKind.signed]; omega)
    | omega
theorem bits6 {k : IntKind} [hk : K6 k] : k.bits = 64 := by rcases hk.pf with rfl | rfl <;> rfl
theorem ofInt_sm (a : Nat) (h : a < 2 ^ 62) : BitVec.ofInt 64 (a : Int) = BitVec.ofNat 64 a := ofInt_nat (a : Int) ⟨by omega, by omega⟩
theorem bv_toNat (a : Nat) (h : a < 2 ^ 62) : (BitVec.ofNat 64 a).toNat = a := by rw [BitVec.toNat_ofNat, Nat.mod_eq_of_lt (by omega)]
theorem ibin_or {k : IntKind} [hk : K6 k] (a b : Nat) [ha : Sm a] [hb : Sm b] : ibin .or k a b = some (.int k ((a ||| b : Nat) : Int)) := by
  simp only [ibin]; rw [bits6, ofInt_sm a ha.pf, ofInt_sm b hb.pf, BitVec.toNat_or, bv_toNat a ha.pf, bv_toNat b hb.pf, wrap_sm (Nat.or_lt_two_pow ha.pf hb.pf)]
theorem ibin_and {k : IntKind} [hk : K6 k] (a b : Nat) [ha : Sm a] [hb : Sm b] : ibin .and k a b = some (.int k ((a &&& b : Nat) : Int)) := by
  simp only [ibin]; rw [bits6, ofInt_sm a ha.pf, ofInt_sm b hb.pf, BitVec.toNat_and, bv_toNat a ha.pf, bv_toNat b hb.pf, wrap_sm (Nat.and_lt_two_pow _ hb.pf)]
theorem ibin_anl {k : IntKind} [hk : K6 k] (a b : Nat) [ha : Sm a] [hb : Sm b] : ibin .andNot k a b = some (.int k ((anl a b : Nat) : Int)) := by
  simp only [ibin]
  have e : (BitVec.ofInt 64 (a : Int) &&& ~~~ BitVec.ofInt 64 (b : Int)).toNat = anl a b := by
    rw [ofInt_sm a ha.pf, ofInt_sm b hb.pf]
    apply Nat.eq_of_testBit_eq
    intro i
    rw [BitVec.toNat_and, Nat.testBit_and, testBit_anl, bv_toNat a ha.pf]
    cases h : a.testBit i with
    | false => simp
    | true =>
      have hi : i < 64 := by
        rcases Nat.lt_or_ge i 62 with h1 | h1
        · omega
        · have := Nat.testBit_lt_two_pow (Nat.lt_of_lt_of_le ha.pf (Nat.pow_le_pow_right (by decide) h1)); rw [h] at this; cases this
      rw [← BitVec.getLsbD, BitVec.getLsbD_not, BitVec.getLsbD_ofNat]
      simp [hi]
  rw [bits6, e, wrap_sm (inferInstance : Sm (anl a b)).pf]
theorem ibin_shl1 {k : IntKind} [hk : K6 k] (m : Int) (h : 0 ≤ m ∧ m < 62) : ibin .shl k 1 m = some (.int k ((2 ^ m.toNat : Nat) : Int)) := by
  obtain ⟨j, rfl⟩ := Int.eq_ofNat_of_zero_le h.1
  simp only [ibin]
  rw [if_neg (by omega), bits6, Int.toNat_natCast, Nat.min_eq_left (by omega), Int.one_mul]
  rw [show ((2 : Int) ^ j) = ((2 ^ j : Nat) : Int) by simp, wrap_sm (Sm.pow (by omega)).pf]
theorem ibin_shr {k : IntKind} [hk : K6 k] (a : Nat) [ha : Sm a] (m : Int) (h : 0 ≤ m ∧ m < 64) : ibin .shr k a m = some (.int k ((a >>> m.toNat : Nat) : Int)) := by
  obtain ⟨j, rfl⟩ := Int.eq_ofNat_of_zero_le h.1
  simp only [ibin]
  rw [if_neg (by omega), bits6, Int.toNat_natCast, Nat.min_eq_left (by omega)]
  congr 2
  rw [Nat.shiftRight_eq_div_pow, Int.fdiv_eq_ediv_of_nonneg _ (by exact Int.le_of_lt (Int.pow_pos (by decide)))]
  simp
section
variable {P : Program} {N : Nat} {Q : Exit → AS → Prop} {all : Array Oper} {rest : List Oper} {ts : List (Nat × AV)} {hs : List (Nat × Option (List AV))} {n : Nat} {z0 : Lo} {md : Md}
variable {d : Nat} {ty : TypeId} {pos : String} {af : Array Edge}
theorem rx_orN {k : IntKind} {t t' : TypeId} {x y : Operand} {a b : Nat} (hx : ev (lk ts) x = some (.v (.int k (a : Int)))) (hy : ev (lk ts) y = some (.v (.int k (b : Int)))) (hk : K6 k) (ha : Sm a) (hb : Sm b)
    (hN : Nat.blt d N = true) {md' : Md} [hmd : MdA md (rO x ++ rO y) [.inl d] md'] (kk : RW P N all Q md' rest ⟨(d, .v (.int k ((a ||| b : Nat) : Int))) :: ts, hs, n, z0⟩) : RW P N all Q md (⟨some d, .binOp .or t x y t', ty, pos, af, none⟩ :: rest) ⟨ts, hs, n, z0⟩ :=
  rw_ibin hx hy (.inl rfl) (ibin_or a b) (ltb hN) (by rw [hmd.pf]; exact kk)
theorem rx_andN {k : IntKind} {t t' : TypeId} {x y : Operand} {a b : Nat} (hx : ev (lk ts) x = some (.v (.int k (a : Int)))) (hy : ev (lk ts) y = some (.v (.int k (b : Int)))) (hk : K6 k) (ha : Sm a) (hb : Sm b)
    (hN : Nat.blt d N = true) {md' : Md} [hmd : MdA md (rO x ++ rO y) [.inl d] md'] (kk : RW P N all Q md' rest ⟨(d, .v (.int k ((a &&& b : Nat) : Int))) :: ts, hs, n, z0⟩) : RW P N all Q md (⟨some d, .binOp .and t x y t', ty, pos, af, none⟩ :: rest) ⟨ts, hs, n, z0⟩ :=
  rw_ibin hx hy (.inl rfl) (ibin_and a b) (ltb hN) (by rw [hmd.pf]; exact kk)
theorem rx_anlN {k : IntKind} {t t' : TypeId} {x y : Operand} {a b : Nat} (hx : ev (lk ts) x = some (.v (.int k (a : Int)))) (hy : ev (lk ts) y = some (.v (.int k (b : Int)))) (hk : K6 k) (ha : Sm a) (hb : Sm b)
    (hN : Nat.blt d N = true) {md' : Md} [hmd : MdA md (rO x ++ rO y) [.inl d] md'] (kk : RW P N all Q md' rest ⟨(d, .v (.int k ((anl a b : Nat) : Int))) :: ts, hs, n, z0⟩) : RW P N all Q md (⟨some d, .binOp .andNot t x y t', ty, pos, af, none⟩ :: rest) ⟨ts, hs, n, z0⟩ :=
  rw_ibin hx hy (.inl rfl) (ibin_anl a b) (ltb hN) (by rw [hmd.pf]; exact kk)
theorem rx_shl1 {k k' : IntKind} {t t' : TypeId} {x y : Operand} {m : Int} (hx : ev (lk ts) x = some (.v (.int k 1))) (hy : ev (lk ts) y = some (.v (.int k' m))) (hk : K6 k) (h : 0 ≤ m ∧ m < 62)
    (hN : Nat.blt d N = true) {md' : Md} [hmd : MdA md (rO x ++ rO y) [.inl d] md'] (kk : Sm (2 ^ m.toNat) → RW P N all Q md' rest ⟨(d, .v (.int k ((2 ^ m.toNat : Nat) : Int))) :: ts, hs, n, z0⟩) : RW P N all Q md (⟨some d, .binOp .shl t x y t', ty, pos, af, none⟩ :: rest) ⟨ts, hs, n, z0⟩ :=
  rw_ibin hx hy (.inr (.inl rfl)) (ibin_shl1 m h) (ltb hN) (by rw [hmd.pf]; exact kk (Sm.pow (by omega)))
theorem rx_shrN {k k' : IntKind} {t t' : TypeId} {x y : Operand} {a : Nat} {m : Int} (hx : ev (lk ts) x = some (.v (.int k (a : Int)))) (hy : ev (lk ts) y = some (.v (.int k' m))) (hk : K6 k) (ha : Sm a) (h : 0 ≤ m ∧ m < 64)
    (hN : Nat.blt d N = true) {md' : Md} [hmd : MdA md (rO x ++ rO y) [.inl d] md'] (kk : RW P N all Q md' rest ⟨(d, .v (.int k ((a >>> m.toNat : Nat) : Int))) :: ts, hs, n, z0⟩) : RW P N all Q md (⟨some d, .binOp .shr t x y t', ty, pos, af, none⟩ :: rest) ⟨ts, hs, n, z0⟩ :=
  rw_ibin hx hy (.inr (.inr rfl)) (ibin_shr a m h) (ltb hN) (by rw [hmd.pf]; exact kk)
end
end Go.AL

namespace Go.AL
mutual
def npS : Stmt → Nat
  | .mk op _ _ _ th el => if op = 9 then 2 + npL th + npL el else if op = 10 then 2 + npL th else 1
def npL : List Stmt → Nat
  | [] => 0
  | s :: l => npS s + npL l
end
mutual
def ptS (b : Nat) : Stmt → List Pnt
  | .mk op x y n th el =>
    if op = 9 then [⟨9, 0, 0, 0, [(b : Int) + 1, (b : Int) + 1 + npL th + 1]⟩] ++ ptL (b + 1) th ++ [⟨10, 0, 0, 1, [(b : Int) + 2 + npL th + npL el]⟩] ++ ptL (b + 2 + npL th) el
    else if op = 10 then [⟨10, 0, 0, 0, [(b : Int) + 1, (b : Int) + 2 + npL th]⟩] ++ ptL (b + 1) th ++ [⟨10, 0, 0, 1, [(b : Int)]⟩]
    else [⟨op, x, y, n, [(b : Int) + 1]⟩]
def ptL (b : Nat) : List Stmt → List Pnt
  | [] => []
  | s :: l => ptS b s ++ ptL (b + npS s) l
end
mutual
theorem ptS_len : ∀ (s : Stmt) (b : Nat), (ptS b s).length = npS s
  | .mk op x y n th el, b => by
    have h1 := ptL_len th (b + 1)
    have h2 := ptL_len el (b + 2 + npL th)
    simp only [ptS, npS]
    split
    · simp [h1, h2]; omega
    · split
      · simp [h1]; omega
      · simp
theorem ptL_len : ∀ (l : List Stmt) (b : Nat), (ptL b l).length = npL l
  | [], b => by simp [ptL, npL]
  | s :: l, b => by simp only [ptL, npL, List.length_append, ptS_len s b, ptL_len l (b + npS s)]
end
mutual
theorem npS_le : ∀ (s : Stmt), npS s ≤ 2 * cntS s
  | .mk op x y n th el => by
    have h1 := npL_le th
    have h2 := npL_le el
    simp only [npS, cntS]; split
    · omega
    · split <;> omega
theorem npL_le : ∀ (l : List Stmt), npL l ≤ 2 * cntL l
  | [] => by simp [npL, cntL]
  | s :: l => by have h1 := npS_le s; have h2 := npL_le l; simp only [npL, cntL]; omega
end
theorem npL_append : ∀ a b, npL (a ++ b) = npL a + npL b
  | [], b => by simp [npL]
  | s :: a, b => by simp only [List.cons_append, npL, npL_append a b]; omega
theorem ptL_append : ∀ (a b : List Stmt) (k : Nat), ptL k (a ++ b) = ptL k a ++ ptL (k + npL a) b
  | [], b, k => by simp [ptL, npL]
  | s :: a, b, k => by simp only [List.cons_append, ptL, npL, ptL_append a b, List.append_assoc, Nat.add_assoc]
theorem ptL_take (l : List Stmt) (b k : Nat) (hk : k < l.length) : ptL b (l.take (k + 1)) = ptL b (l.take k) ++ ptS (b + npL (l.take k)) l[k]! := by
  rw [take_succB _ _ hk, ptL_append]; simp [ptL]
theorem npL_take (l : List Stmt) (k : Nat) (hk : k < l.length) : npL (l.take (k + 1)) = npL (l.take k) + npS l[k]! := by
  rw [take_succB _ _ hk, npL_append]; simp [npL]
theorem npL_take_le (l : List Stmt) (k : Nat) : npL (l.take k) ≤ npL l := by
  conv => rhs; rw [← List.take_append_drop k l]
  rw [npL_append]; omega
theorem npS_def (s : Stmt) : npS s = if s.op = 9 then 2 + npL s.th + npL s.el else if s.op = 10 then 2 + npL s.th else 1 := by
  cases s; simp only [npS, Stmt.op, Stmt.th, Stmt.el]; rfl
theorem ptS_def (b : Nat) (s : Stmt) : ptS b s = if s.op = 9 then [⟨9, 0, 0, 0, [(b : Int) + 1, (b : Int) + 1 + npL s.th + 1]⟩] ++ ptL (b + 1) s.th ++ [⟨10, 0, 0, 1, [(b : Int) + 2 + npL s.th + npL s.el]⟩] ++ ptL (b + 2 + npL s.th) s.el
    else if s.op = 10 then [⟨10, 0, 0, 0, [(b : Int) + 1, (b : Int) + 2 + npL s.th]⟩] ++ ptL (b + 1) s.th ++ [⟨10, 0, 0, 1, [(b : Int)]⟩]
    else [⟨s.op, s.x, s.y, s.n, [(b : Int) + 1]⟩] := by
  cases s; simp only [ptS, Stmt.op, Stmt.th, Stmt.el, Stmt.x, Stmt.y, Stmt.n]; rfl
def ptsF (p : Prg) : List Pnt := ptL 0 p.body ++ [⟨11, 0, 0, 0, []⟩]
theorem ptsF_len (p : Prg) : (ptsF p).length = npL p.body + 1 := by simp [ptsF, ptL_len]

theorem app_flat {α : Type} {f : α → List AV} {e : Nat} [h : FlT f e] {xs : List α} {m : Nat} {new : List AV} {y : α} (hm : m = xs.length) (hn : new = f y) : ((flat f xs).drop 0).take (m * e) ++ new = flat f (xs ++ [y]) := by
  subst hm hn
  rw [List.drop_zero, List.take_of_length_le (by rw [flat_length f (e := e)]; exact Nat.le_refl _), ← flat_append, flat_one]
theorem app_pnt0 {xs : List Pnt} {m : Nat} {a b c d : Int} (hm : m = xs.length) : ((flat cPnt xs).drop 0).take (m * 5) ++ [iv a, iv b, iv c, iv d, .imm 0 []] = flat cPnt (xs ++ [⟨a, b, c, d, []⟩]) := app_flat hm rfl
theorem app_pnt1 {xs : List Pnt} {m : Nat} {a b c d e : Int} (hm : m = xs.length) : ((flat cPnt xs).drop 0).take (m * 5) ++ [iv a, iv b, iv c, iv d, .imm 1 [iv e]] = flat cPnt (xs ++ [⟨a, b, c, d, [e]⟩]) := app_flat hm rfl
theorem app_int {xs : List Int} {m : Nat} {a : Int} (hm : m = xs.length) : ((flat cI xs).drop 0).take (m * 1) ++ [iv a] = flat cI (xs ++ [a]) := app_flat hm rfl
theorem spl_mid (A B C new : List AV) (j : Nat) (hj : j + new.length ≤ B.length) : spl (A ++ (B ++ C)) (A.length + j) new = A ++ (spl B j new ++ C) := by
  unfold spl
  rw [List.take_length_add_append, Nat.add_assoc, List.drop_length_add_append, List.take_append_of_le_length (by omega), List.drop_append_of_le_length hj]
  simp only [List.append_assoc]
theorem flat_split {α : Type} [Inhabited α] {f : α → List AV} {e : Nat} [h : FlT f e] {xs : List α} {k : Nat} (hk : k < xs.length) : flat f xs = flat f (xs.take k) ++ (f xs[k]! ++ flat f (xs.drop (k + 1))) := by
  rw [← flat_drop f (e := e) xs k hk, ← flat_take f (e := e), List.take_append_drop]
theorem st_flat {α : Type} [Inhabited α] {f : α → List AV} {e : Nat} [h : FlT f e] {xs : List α} {k j : Nat} {new : List AV} {y : α} (hk : k < xs.length) (hj : j + new.length ≤ e) (hy : spl (f xs[k]!) j new = f y) : spl (flat f xs) (0 + k * e + j) new = flat f (xs.set k y) := by
  have h3 : (flat f (xs.take k)).length = k * e := by rw [flat_length f (e := e), List.length_take]; congr 1; omega
  rw [flat_split (e := e) hk, Nat.zero_add, ← h3, spl_mid _ _ _ _ _ (by rw [h.pf]; exact hj), hy, List.set_eq_take_append_cons_drop, if_pos hk, ← flat_append]
  simp only [flat, List.flatMap_cons]
theorem st_flat0 {α : Type} [Inhabited α] {f : α → List AV} {e : Nat} [h : FlT f e] {xs : List α} {k : Nat} {new : List AV} {y : α} (hk : k < xs.length) (hy : new = f y) : spl (flat f xs) (0 + k * e) new = flat f (xs.set k y) := by
  subst hy
  rw [Nat.zero_add]; exact flat_spl f xs k y hk
theorem st_next1 {xs : List Pnt} {k : Nat} {a : Int} (hk : k < xs.length) : spl (flat cPnt xs) (0 + k * 5 + 4) [.imm 1 [iv a]] = flat cPnt (xs.set k { xs[k]! with next := [a] }) := st_flat hk (by simp) rfl
theorem st_next2 {xs : List Pnt} {k : Nat} {a b : Int} (hk : k < xs.length) : spl (flat cPnt xs) (0 + k * 5 + 4) [.imm 2 [iv a, iv b]] = flat cPnt (xs.set k { xs[k]! with next := [a, b] }) := st_flat hk (by simp) rfl
end Go.AL
namespace Go.AL
theorem npS_9 (s : Stmt) : s.op = 9 → npS s = 2 + npL s.th + npL s.el := by intro h; rw [npS_def, if_pos h]
theorem npS_10 (s : Stmt) : s.op = 10 → npS s = 2 + npL s.th := by intro h; rw [npS_def, if_neg (by omega), if_pos h]
theorem npS_1 (s : Stmt) : ¬ s.op = 9 → ¬ s.op = 10 → npS s = 1 := by intro h h2; rw [npS_def, if_neg h, if_neg h2]
theorem npL_at (l : List Stmt) (k : Nat) : k < l.length → npL (l.take k) + npS l[k]! ≤ npL l := by
  intro h; have := npL_take_le l (k + 1); rw [npL_take l k h] at this; exact this
end Go.AL
namespace Go.AL
theorem set_mid {α : Type} (A : List α) (x y : α) (B : List α) : (A ++ x :: B).set A.length y = A ++ y :: B := by
  rw [List.set_append_right _ _ (Nat.le_refl _), Nat.sub_self, List.set_cons_zero]
theorem get_mid {α : Type} [Inhabited α] (A : List α) (x : α) (B : List α) : (A ++ x :: B)[A.length]! = x := by
  rw [getB _ _ (by simp), List.getElem_append_right (Nat.le_refl _)]; simp
theorem if_get1 {xs T E : List Pnt} {p q : Pnt} {m : Nat} (hm : m = xs.length) : (xs ++ [p] ++ T ++ [q] ++ E)[m]! = p := by
  subst hm; simp only [List.append_assoc, List.singleton_append, List.cons_append, List.nil_append]; exact get_mid _ _ _
theorem if_set1 {xs T E : List Pnt} {p q p' : Pnt} {m : Nat} (hm : m = xs.length) : (xs ++ [p] ++ T ++ [q] ++ E).set m p' = xs ++ [p'] ++ T ++ [q] ++ E := by
  subst hm; simp only [List.append_assoc, List.singleton_append, List.cons_append, List.nil_append]; exact set_mid _ _ _ _
theorem if_get2 {xs T E : List Pnt} {p q : Pnt} {j : Nat} (hj : j = xs.length + 1 + T.length) : (xs ++ [p] ++ T ++ [q] ++ E)[j]! = q := by
  have h : j = (xs ++ [p] ++ T).length := by simp [hj]; omega
  subst h
  rw [show xs ++ [p] ++ T ++ [q] ++ E = (xs ++ [p] ++ T) ++ q :: E by simp]; exact get_mid _ _ _
theorem if_set2 {xs T E : List Pnt} {p q q' : Pnt} {j : Nat} (hj : j = xs.length + 1 + T.length) : (xs ++ [p] ++ T ++ [q] ++ E).set j q' = xs ++ [p] ++ T ++ [q'] ++ E := by
  have h : j = (xs ++ [p] ++ T).length := by simp [hj]; omega
  subst h
  rw [show xs ++ [p] ++ T ++ [q] ++ E = (xs ++ [p] ++ T) ++ q :: E by simp, set_mid]; simp
theorem lp_get {xs T : List Pnt} {p q : Pnt} {m : Nat} (hm : m = xs.length) : (xs ++ [p] ++ T ++ [q])[m]! = p := by
  subst hm; simp only [List.append_assoc, List.singleton_append, List.cons_append, List.nil_append]; exact get_mid _ _ _
theorem lp_set {xs T : List Pnt} {p q p' : Pnt} {m : Nat} (hm : m = xs.length) : (xs ++ [p] ++ T ++ [q]).set m p' = xs ++ [p'] ++ T ++ [q] := by
  subst hm; simp only [List.append_assoc, List.singleton_append, List.cons_append, List.nil_append]; exact set_mid _ _ _ _
end Go.AL

namespace Go.AL
structure WG (ts : List Int) (pts : List Pnt) : Prop where
  tl : ts.length ≤ 6
  ty : ∀ v, v < ts.length → 1 ≤ ts[v]! ∧ ts[v]! ≤ 4
  pl : pts.length ≤ 61
  p0 : 0 < pts.length
  nx : ∀ i, i < pts.length → ∀ k ∈ pts[i]!.next, 0 ≤ k ∧ k < pts.length
  nl : ∀ i, i < pts.length → pts[i]!.next.length ≤ 2
  op : ∀ i, i < pts.length → 1 ≤ pts[i]!.op ∧ pts[i]!.op ≤ 11
  x : ∀ i, i < pts.length → 0 ≤ pts[i]!.x ∧ (pts[i]!.op ≤ 8 → pts[i]!.x < ts.length)
  y : ∀ i, i < pts.length → 0 ≤ pts[i]!.y ∧ (3 ≤ pts[i]!.op → pts[i]!.op ≤ 7 → pts[i]!.y < ts.length)
def PtOk (nv b e : Nat) (x : Pnt) : Prop := (∀ k ∈ x.next, 0 ≤ k ∧ k < (e : Int)) ∧ x.next.length ≤ 2 ∧ 1 ≤ x.op ∧ x.op ≤ 11 ∧ 0 ≤ x.x ∧ (x.op ≤ 8 → x.x < (nv : Int)) ∧ 0 ≤ x.y ∧ (3 ≤ x.op → x.op ≤ 7 → x.y < (nv : Int))
theorem simpleF_ok {ts : List Int} (ht : typesOk ts = true) {s : Stmt} (h : simpleF ts s = true) : 1 ≤ s.op ∧ s.op ≤ 8 ∧ 0 ≤ s.x ∧ s.x < ts.length ∧ 0 ≤ s.y ∧ (3 ≤ s.op → s.op ≤ 7 → s.y < ts.length) := by
  have hx := typeAt_pos ht s.x
  have hy := typeAt_pos ht s.y
  have bx := typeAt_bd ht s.x
  have by' := typeAt_bd ht s.y
  unfold simpleF at h
  dsimp only at h
  repeat' split at h
  all_goals first
    | (simp only [decide_eq_true_eq] at h; omega)
    | (cases h; done)
mutual
theorem ptS_ok {ts : List Int} (ht : typesOk ts = true) : ∀ (s : Stmt) (d b e : Nat), okS ts d s = true → b + npS s < e → ∀ x ∈ ptS b s, PtOk ts.length b e x
  | .mk op x y n th el, d, b, e, h, hb => by
    simp only [okS] at h
    split at h
    · rename_i hop
      simp only [Bool.and_eq_true] at h
      have hs := simpleF_ok ht h.2
      simp only [Stmt.op, Stmt.x, Stmt.y] at hs
      simp only [npS, hop.1, hop.2, if_false] at hb
      simp only [ptS, hop.1, hop.2, if_false, List.mem_singleton]
      rintro z rfl
      refine ⟨?_, by simp, hs.1, by show op ≤ 11; omega, hs.2.2.1, fun _ => hs.2.2.2.1, hs.2.2.2.2.1, hs.2.2.2.2.2⟩
      simp only [List.mem_singleton]; rintro k rfl; omega
    · rename_i hop
      cases d with
      | zero => cases h
      | succ d =>
        simp only [Bool.and_eq_true, decide_eq_true_eq] at h
        obtain ⟨⟨⟨_, _⟩, h1⟩, h2⟩ := h
        by_cases h9 : op = 9
        · subst h9
          simp only [npS, if_true] at hb
          simp only [ptS, if_true, List.mem_append, List.mem_singleton]
          rintro z (((rfl | hz) | rfl) | hz)
          · refine ⟨?_, by simp, by simp, by simp, by simp, by simp, by simp, by simp⟩
            simp only [List.mem_cons, List.not_mem_nil, or_false]; rintro k (rfl | rfl) <;> omega
          · exact ptL_ok ht th d (b + 1) e h1 (by omega) z hz
          · refine ⟨?_, by simp, by simp, by simp, by simp, by simp, by simp, by simp⟩
            simp only [List.mem_singleton]; rintro k rfl; omega
          · exact ptL_ok ht el d (b + 2 + npL th) e h2 (by omega) z hz
        · have h10 : op = 10 := by omega
          subst h10
          simp only [npS, if_true, show ((10 : Int) = 9) = False by simp, if_false] at hb
          simp only [ptS, if_true, show ((10 : Int) = 9) = False by simp, if_false, List.mem_append, List.mem_singleton]
          rintro z ((rfl | hz) | rfl)
          · refine ⟨?_, by simp, by simp, by simp, by simp, by simp, by simp, by simp⟩
            simp only [List.mem_cons, List.not_mem_nil, or_false]; rintro k (rfl | rfl) <;> omega
          · exact ptL_ok ht th d (b + 1) e h1 (by omega) z hz
          · refine ⟨?_, by simp, by simp, by simp, by simp, by simp, by simp, by simp⟩
            simp only [List.mem_singleton]; rintro k rfl; omega
theorem ptL_ok {ts : List Int} (ht : typesOk ts = true) : ∀ (l : List Stmt) (d b e : Nat), okL ts d l = true → b + npL l < e → ∀ x ∈ ptL b l, PtOk ts.length b e x
  | [], d, b, e, h, hb => by simp [ptL]
  | s :: l, d, b, e, h, hb => by
    simp only [okL, Bool.and_eq_true] at h
    simp only [npL] at hb
    simp only [ptL, List.mem_append]
    rintro x (hx | hx)
    · exact ptS_ok ht s d b e h.1 (by omega) x hx
    · exact ptL_ok ht l d (b + npS s) e h.2 (by omega) x hx
end
theorem WG.of_valid {p : Prg} (h : validF p = true) : WG p.types (ptsF p) := by
  unfold validF at h
  simp only [Bool.and_eq_true, decide_eq_true_eq] at h
  obtain ⟨⟨ht, hl⟩, hc⟩ := h
  have hn := npL_le p.body
  have hlen := ptsF_len p
  have key : ∀ i, i < (ptsF p).length → PtOk p.types.length 0 (ptsF p).length (ptsF p)[i]! := by
    intro i hi
    have hm := getB_mem _ i hi
    unfold ptsF at hm
    rw [List.mem_append, List.mem_singleton] at hm
    rcases hm with hm | hm
    · exact ptL_ok ht p.body 4 0 _ hl (by omega) _ hm
    · unfold ptsF; rw [hm]; exact ⟨by simp, by simp, by simp, by simp, by simp, by simp, by simp, by simp⟩
  exact ⟨typesOk_len ht, typesOk_at ht, by omega, by omega, fun i hi => (key i hi).1, fun i hi => (key i hi).2.1, fun i hi => ⟨(key i hi).2.2.1, (key i hi).2.2.2.1⟩,
    fun i hi => ⟨(key i hi).2.2.2.2.1, (key i hi).2.2.2.2.2.1⟩, fun i hi => ⟨(key i hi).2.2.2.2.2.2.1, (key i hi).2.2.2.2.2.2.2⟩⟩
inductive Clo {α : Type} (S : α → Prop) (R : α → α → Prop) : α → Prop
  | base {a : α} (h : S a) : Clo S R a
  | step {a b : α} (h : Clo S R a) (r : R a b) : Clo S R b
theorem Clo.sub {α : Type} {S : α → Prop} {R : α → α → Prop} {T : α → Prop} (h1 : ∀ a, S a → T a) (h2 : ∀ a b, T a → R a b → T b) : ∀ a, Clo S R a → T a := by
  intro a h
  induction h with
  | base h => exact h1 _ h
  | step _ r ih => exact h2 _ _ ih r
def edge (pts : List Pnt) (i k : Nat) : Prop := i < pts.length ∧ (k : Int) ∈ pts[i]!.next
def Mb (ts : List Int) (pts : List Pnt) (a : Nat × Nat) : Prop := Clo (fun a => ∃ i, edge pts i a.1 ∧ setAt pts[i]! = a.2) (fun a b => b.2 = a.2 ∧ edge pts a.1 b.1 ∧ useAt ts pts[a.1]! a.2 ≠ 2) a
def Na (ts : List Int) (pts : List Pnt) (a : Nat × Nat) : Prop := Clo (fun a => a.2 < ts.length ∧ (a.1 = 0 ∨ ∃ i, edge pts i a.1 ∧ useAt ts pts[i]! a.2 = 2 ∧ setAt pts[i]! ≠ a.2)) (fun a b => b.2 = a.2 ∧ edge pts a.1 b.1 ∧ setAt pts[a.1]! ≠ a.2) a
def Nd (ts : List Int) (pts : List Pnt) (a : Nat × Nat) : Prop := Clo (fun a => a.1 < pts.length ∧ a.2 < ts.length ∧ useAt ts pts[a.1]! a.2 ≠ 0) (fun a b => b.2 = a.2 ∧ edge pts b.1 a.1 ∧ setAt pts[b.1]! ≠ a.2) a
def Lv (ts : List Int) (pts : List Pnt) (i v : Nat) : Prop := ∃ k, edge pts i k ∧ Nd ts pts (k, v)
def isLn (x : Pnt) : Bool := decide (x.op = 4) || decide (x.op = 5)
def Fr' (ts : List Int) (pts : List Pnt) (a : Nat × Nat × Nat) : Prop := Clo (fun a => edge pts a.2.2 a.1 ∧ isLn pts[a.2.2]! = true ∧ setAt pts[a.2.2]! = a.2.1)
  (fun a b => b.2.2 = a.2.2 ∧ edge pts a.1 b.1 ∧ ((setAt pts[a.1]! ≠ b.2.1 ∧ b.2.1 = a.2.1 ∧ useAt ts pts[a.1]! a.2.1 ≠ 2) ∨
    (setAt pts[a.1]! = b.2.1 ∧ (a.2.1 : Int) = pts[a.1]!.y ∧ ((isLn pts[a.1]! = true ∧ isRef ts[a.2.1]! = true) ∨ pts[a.1]!.op = 3)))) a
def Pl' (ts : List Int) (pts : List Pnt) (a : Nat × Nat) : Prop := Clo (fun a => edge pts a.2 a.1 ∧ isLn pts[a.2]! = true)
  (fun a b => b.2 = a.2 ∧ edge pts a.1 b.1 ∧ useAt ts pts[a.1]! pts[a.2]!.y ≠ 2 ∧ setAt pts[a.1]! ≠ pts[a.2]!.y) a
def mkBits (f : Nat → Bool) : Nat → Nat
  | 0 => 0
  | n + 1 => mkBits f n ||| (if f n then 2 ^ n else 0)
theorem testBit_mkBits (f : Nat → Bool) : ∀ (n i : Nat), (mkBits f n).testBit i = (decide (i < n) && f i)
  | 0, i => by simp [mkBits]
  | n + 1, i => by
    rw [mkBits, Nat.testBit_or, testBit_mkBits f n i]
    by_cases h : i = n
    · subst h; cases hf : f i <;> simp [Nat.testBit_two_pow_self]
    · have : ((if f n = true then 2 ^ n else 0).testBit i) = false := by
        split
        · exact Nat.testBit_two_pow_of_ne (fun e => h e.symm)
        · simp
      rw [this, Bool.or_false]
      congr 1
      simp only [decide_eq_decide]; omega
theorem mkBits_lt (f : Nat → Bool) (n : Nat) : mkBits f n < 2 ^ n := by
  apply Nat.lt_pow_two_of_testBit
  intro i hi
  rw [testBit_mkBits]; simp; omega
theorem mkBits_sm {f : Nat → Bool} {n : Nat} (h : n ≤ 62) : Sm (mkBits f n) := ⟨Nat.lt_of_lt_of_le (mkBits_lt f n) (Nat.pow_le_pow_right (by decide) h)⟩
theorem fold_law {σ ι : Type} (stp : σ × Bool → ι → σ × Bool) (C : ι → σ → Prop) (μ : σ → Nat) (S : σ → Prop) :
    ∀ (L : List ι), (∀ s b i, i ∈ L → S s → S (stp (s, b) i).1 ∧ ((stp (s, b) i = (s, b) ∧ C i s) ∨ ((stp (s, b) i).2 = true ∧ μ (stp (s, b) i).1 < μ s))) →
    ∀ s b, S s → S (L.foldl stp (s, b)).1 ∧ ((L.foldl stp (s, b) = (s, b) ∧ ∀ i ∈ L, C i s) ∨ ((L.foldl stp (s, b)).2 = true ∧ μ (L.foldl stp (s, b)).1 < μ s))
  | [], _, s, b, hs => ⟨hs, .inl ⟨rfl, by simp⟩⟩
  | i :: L, h, s, b, hs => by
    have h1 := h s b i (List.mem_cons_self) hs
    simp only [List.foldl_cons]
    generalize stp (s, b) i = r at h1
    obtain ⟨s', b'⟩ := r
    have h2 := fold_law stp C μ S L (fun s b j hj => h s b j (List.mem_cons_of_mem _ hj)) s' b' h1.1
    refine ⟨h2.1, ?_⟩
    rcases h1.2 with ⟨e1, c1⟩ | ⟨e1, c1⟩
    · cases e1
      rcases h2.2 with ⟨e2, c2⟩ | ⟨e2, c2⟩
      · exact .inl ⟨e2, fun j hj => by rcases List.mem_cons.1 hj with rfl | hj; exact c1; exact c2 j hj⟩
      · exact .inr ⟨e2, c2⟩
    · rcases h2.2 with ⟨e2, c2⟩ | ⟨e2, c2⟩
      · rw [e2]; exact .inr ⟨e1, c1⟩
      · exact .inr ⟨e2, by dsimp only at c1; omega⟩
theorem foldl_take {σ ι : Type} [Inhabited ι] (f : σ → ι → σ) (L : List ι) (s : σ) (k : Nat) (h : k < L.length) : (L.take (k + 1)).foldl f s = f ((L.take k).foldl f s) L[k]! := by
  rw [take_succB _ _ h, List.foldl_append]; rfl
def sumL (l : List Nat) : Nat := l.foldr (· + ·) 0
theorem sumL_set (g : Nat → Nat) : ∀ (l : List Nat) (k : Nat) (x : Nat), k < l.length → sumL ((l.set k x).map g) + g l[k]! = sumL (l.map g) + g x
  | a :: l, 0, x, _ => by simp [sumL]; omega
  | a :: l, k + 1, x, h => by
    have := sumL_set g l k x (by simpa using h)
    have e : (a :: l)[k + 1]! = l[k]! := by rw [getB _ _ h, getB _ _ (by simpa using h)]; rfl
    rw [e]
    simp only [List.set_cons_succ, List.map_cons, sumL, List.foldr_cons] at this ⊢
    omega
end Go.AL
namespace Go.AL
abbrev aG (ts : List Int) (bd : List Stmt) (pts : List Pnt) : AV := .iptr [sl cI ts, sl cStmt bd, sl cPnt pts]
def tkT (t : Int) : Bool := decide (t = 2) || decide (t = 4)
def wS (ts : List Int) (x : Pnt) (us : List Int) : Nat := mkBits (fun v => decide (useAt ts x v ∈ us)) ts.length
def sbit (x : Pnt) : Nat := if 0 ≤ setAt x then 2 ^ (setAt x).toNat else 0
def valF (ts : List Int) (x : Pnt) (A : Nat) : Nat := anl A (wS ts x [2]) ||| sbit x
theorem sbit_sm {x : Pnt} (h : setAt x < 62) : Sm (sbit x) := by
  unfold sbit; split
  · exact Sm.pow (by omega)
  · infer_instance
theorem useAt_bd (ts : List Int) (x : Pnt) (v : Int) : 0 ≤ useAt ts x v ∧ useAt ts x v ≤ 3 := by
  unfold useAt; grind
theorem WG.set {ts : List Int} {pts : List Pnt} (h : WG ts pts) (i : Nat) (hi : i < pts.length) : setAt pts[i]! < ts.length ∧ (0 ≤ setAt pts[i]! ∨ setAt pts[i]! = -1) := by
  have := h.x i hi
  have := h.tl
  unfold setAt; split <;> omega
end Go.AL
namespace Go.AL
theorem mkBits_succ (f : Nat → Bool) (k : Nat) (h : f k = true) : mkBits f k ||| 2 ^ k = mkBits f (k + 1) := by rw [mkBits, if_pos h]
theorem mkBits_skip (f : Nat → Bool) (k : Nat) (h : f k = false) : mkBits f k = mkBits f (k + 1) := by rw [mkBits, if_neg (by simp [h]), Nat.or_zero]
end Go.AL

namespace Go.AL
open Go.RowKit
set_option linter.unusedVariables false
set_option linter.unusedSimpArgs false

theorem lkH_none {i : Nat} {hs : List (Nat × Option (List AV))} {id : Nat} {cs : List AV} (h : lkH ((i, none) :: hs) id = some cs) : lkH hs id = some cs ∧ id ≠ i := by
  rw [lkH_c] at h
  split at h
  · cases h
  · rename_i e; exact ⟨h, e⟩
theorem Le.frzD {ts : List (Nat × AV)} {hs : List (Nat × Option (List AV))} {n : Nat} {z0 : Lo} {d i m e : Nat} {cs : List AV} (hd : lk ts d = some (.own i 0 m e)) (hi : lkH hs i = some cs) :
    Le ⟨ts, hs, n, z0⟩ ⟨(d, .imm m cs) :: ts, (i, none) :: hs, n, z0⟩ := by
  rintro C a w ⟨h0, ι, g, gh⟩
  obtain ⟨gh', car⟩ := gh.less (F' := Fn n z0) (H' := lkH ((i, none) :: hs)) (fun id c h => (lkH_none h).1) (fun _ h => h)
  refine ⟨h0, ι, ⟨g.df, g.sz, fun t av ht => ?_⟩, gh'⟩
  rw [show lk (⟨(d, .imm m cs) :: ts, (i, none) :: hs, n, z0⟩ : AS).ts t = lk ((d, .imm m cs) :: ts) t from rfl, lk_c] at ht
  split at ht
  · rename_i et
    subst et
    cases ht
    obtain ⟨y, hy, hr⟩ := g.tm t _ hd
    refine ⟨y, hy, ?_⟩
    simp only [Rd] at hr ⊢
    rcases hr with ⟨_, h2, a', h3⟩ | ⟨b, β, c, h1, h2, h3, h4⟩
    · subst h2; exact ⟨a', 0, h3, .inl rfl⟩
    · refine ⟨_, c, h2, ?_⟩
      rcases Nat.eq_zero_or_pos m with h5 | h5
      · exact .inl h5
      · refine .inr ⟨b, β + 0, h3, rfl, ?_⟩
        rcases gh.obj i cs hi with ⟨q1, q2⟩ | ⟨b', β', arr, e', q1, q2, q3, q4, q5, q6⟩
        · rw [h1] at q1; cases q1
        · rw [h1] at q1; cases q1
          refine .inr ⟨?_, RdC.carryB car _ _ _ (fun o x hx => hx) q4⟩
          rintro (h | ⟨id', cs', β', r1, r2⟩)
          · exact q5 h
          · exact (lkH_none r1).2 (gh.sep _ _ _ _ _ _ _ (lkH_none r1).1 hi r2 h1)
  · obtain ⟨y, hy, hr⟩ := g.tm t av ht
    exact ⟨y, hy, Rd.carry car _ _ hr⟩
theorem Le.frzP {ts : List (Nat × AV)} {hs : List (Nat × Option (List AV))} {n : Nat} {z0 : Lo} {d i : Nat} {cs : List AV} (hd : lk ts d = some (.optr i 0)) (hi : lkH hs i = some cs) :
    Le ⟨ts, hs, n, z0⟩ ⟨(d, .iptr cs) :: ts, (i, none) :: hs, n, z0⟩ := by
  rintro C a w ⟨h0, ι, g, gh⟩
  obtain ⟨gh', car⟩ := gh.less (F' := Fn n z0) (H' := lkH ((i, none) :: hs)) (fun id c h => (lkH_none h).1) (fun _ h => h)
  refine ⟨h0, ι, ⟨g.df, g.sz, fun t av ht => ?_⟩, gh'⟩
  rw [show lk (⟨(d, .iptr cs) :: ts, (i, none) :: hs, n, z0⟩ : AS).ts t = lk ((d, .iptr cs) :: ts) t from rfl, lk_c] at ht
  split at ht
  · rename_i et
    subst et
    cases ht
    obtain ⟨y, hy, hr⟩ := g.tm t _ hd
    refine ⟨y, hy, ?_⟩
    simp only [Rd] at hr ⊢
    obtain ⟨b, β, h1, h2⟩ := hr
    refine ⟨b, β + 0, h2, ?_⟩
    rcases gh.obj i cs hi with ⟨q1, q2⟩ | ⟨b', β', arr, e', q1, q2, q3, q4, q5, q6⟩
    · rw [h1] at q1; cases q1
    · rw [h1] at q1; cases q1
      refine .inr ⟨?_, RdC.carryB car _ _ _ (fun o x hx => hx) q4⟩
      rintro (h | ⟨id', cs', β', r1, r2⟩)
      · exact q5 h
      · exact (lkH_none r1).2 (gh.sep _ _ _ _ _ _ _ (lkH_none r1).1 hi r2 h1)
  · obtain ⟨y, hy, hr⟩ := g.tm t av ht
    exact ⟨y, hy, Rd.carry car _ _ hr⟩
theorem Le.nilOwn {ts : List (Nat × AV)} {hs : List (Nat × Option (List AV))} {n : Nat} {z0 : Lo} {d : Nat} (e : Nat) (hd : lk ts d = some (.v (.slice none 0 0))) (hn : n < big) :
    Le ⟨ts, hs, n, z0⟩ ⟨(d, .own n 0 0 e) :: ts, (n, some []) :: hs, n + 1, z0⟩ := by
  rintro C a w ⟨h0, ι, g, gh⟩
  have hf : ι n = none := gh.fresh n ⟨Nat.le_refl _, .inl hn⟩
  let ι' : Pl := upd ι n (some none)
  have hne : ∀ id p, ι id = some p → ι' id = some p := by
    intro id p h
    have : id ≠ n := by rintro rfl; rw [hf] at h; cases h
    simp only [ι', upd_ne _ _ this, h]
  have hback : ∀ id b β, ι' id = some (some (b, β)) → id ≠ n ∧ ι id = some (some (b, β)) := by
    intro id b β h
    by_cases q : id = n
    · subst q; simp only [ι', upd_same] at h; cases h
    · simp only [ι', upd_ne _ _ q] at h; exact ⟨q, h⟩
  have hH : ∀ id cs, id ≠ n → lkH ((n, some []) :: hs) id = some cs → lkH hs id = some cs := by
    intro id cs q h; rw [lkH_c, if_neg q] at h; exact h
  have car : Carry w (badOf C.X ι (lkH hs)) ι w (badOf C.X ι' (lkH ((n, some []) :: hs))) ι' := by
    refine ⟨fun b o x h1 h2 => ⟨?_, h2⟩, hne, fun _ => Nat.le_refl _⟩
    rintro (h | ⟨id, cs, β, q1, q2⟩)
    · exact h1 (.inl h)
    · obtain ⟨r1, r2⟩ := hback _ _ _ q2
      exact h1 (.inr ⟨id, cs, β, hH _ _ r1 q1, r2⟩)
  refine ⟨h0, ι', ⟨g.df, g.sz, fun t av ht => ?_⟩, ⟨fun id cs h => ?_, fun id id' cs cs' b β β' q1 q2 q3 q4 => ?_, gh.fr, fun id p h => hne _ _ (gh.ex _ _ h), fun id h => ?_⟩⟩
  · rw [show lk (⟨(d, .own n 0 0 e) :: ts, (n, some []) :: hs, n + 1, z0⟩ : AS).ts t = lk ((d, .own n 0 0 e) :: ts) t from rfl, lk_c] at ht
    split at ht
    · rename_i et
      subst et
      cases ht
      obtain ⟨y, hy, hr⟩ := g.tm t _ hd
      refine ⟨y, hy, ?_⟩
      simp only [Rd] at hr ⊢
      exact .inl ⟨⟨none, by simp only [ι', upd_same]⟩, trivial, none, hr⟩
    · obtain ⟨y, hy, hr⟩ := g.tm t av ht
      exact ⟨y, hy, Rd.carry car _ _ hr⟩
  · by_cases q : id = n
    · subst q
      simp only [lkH_c, if_true, Option.some.injEq] at h
      exact .inl ⟨by simp only [ι', upd_same], h.symm⟩
    · rcases gh.obj id cs (hH _ _ q h) with ⟨r1, r2⟩ | ⟨b, β, arr, e', r1, r2, r3, r4, r5, r6⟩
      · exact .inl ⟨hne _ _ r1, r2⟩
      · exact .inr ⟨b, β, arr, e', hne _ _ r1, r2, r3, RdC.carryB car _ _ _ (fun o x hx => hx) r4, r5, r6⟩
  · obtain ⟨r1, r2⟩ := hback _ _ _ q3
    obtain ⟨r3, r4⟩ := hback _ _ _ q4
    exact gh.sep _ _ _ _ _ _ _ (hH _ _ r1 q1) (hH _ _ r3 q2) r2 r4
  · have h1 : n + 1 ≤ id := h.1
    have h2 : id < big ∨ z0.fb ≤ id := h.2
    have q : id ≠ n := by omega
    simp only [ι', upd_ne _ _ q]
    exact gh.fresh id ⟨by show n ≤ id; omega, h2⟩
section
variable {P : Program} {N : Nat} {Q : Exit → AS → Prop} {all : Array Oper} {rest : List Oper} {ts : List (Nat × AV)} {hs : List (Nat × Option (List AV))} {n : Nat} {z0 : Lo} {md : Md}
variable {d : Nat} {ty : TypeId} {pos : String} {af : Array Edge}
theorem rw_le {l : List Oper} {s s' : AS} (h : RW P N all Q .txt l s') (k : Le s s') : RW P N all Q .txt l s := fun C a w hN g => h C a w hN (k C a w g)
theorem Le.trans {s s' s'' : AS} (h : Le s s') (k : Le s' s'') : Le s s'' := fun C a w g => k C a w (h C a w g)
theorem Le.frzTop {ts : List (Nat × AV)} {hs : List (Nat × Option (List AV))} {n : Nat} {z0 : Lo} {d i m e : Nat} {cs : List AV} :
    Le ⟨(d, .own i 0 m e) :: ts, (i, some cs) :: hs, n, z0⟩ ⟨(d, .imm m cs) :: ts, (i, none) :: hs, n, z0⟩ := by
  refine (Le.frzD (d := d) (i := i) (m := m) (e := e) (cs := cs) (by simp [lk_c]) (by simp [lkH_c])).trans ?_
  refine Le.of (fun t av h => ?_) (fun j c h => ?_) (Nat.le_refl _) rfl
  · show lk ((d, .imm m cs) :: (d, .own i 0 m e) :: ts) t = _
    have h' : lk ((d, .imm m cs) :: ts) t = some av := h
    simp only [lk_c] at h' ⊢
    split
    · rename_i q; rw [if_pos q] at h'; exact h'
    · rename_i q; rw [if_neg q] at h'; exact h'
  · show lkH ((i, none) :: (i, some cs) :: hs) j = _
    have h' : lkH ((i, none) :: hs) j = some c := h
    simp only [lkH_c] at h' ⊢
    split
    · rename_i q; rw [if_pos q] at h'; exact h'
    · rename_i q; rw [if_neg q] at h'; exact h'
theorem rx_buildSliceI {t el len e : Nat} {parts : Array (Nat × Operand)} {zs : List Value} {l : List (Nat × AV)} {cs : List AV} [ht : SlT P t el] [he : SzT P el e] [hz : ZrT P el zs] (hze : zs.length = e) (hsm : Nat.ble (len * e) 16777216 = true)
    (hl : evs (lk ts) parts.toList = some l) (hfl : fillA (fun i => some (i * e, e)) ((List.replicate len (zs.map .v)).flatten) l = some cs) (hM : Nat.blt n big = true) (hN : Nat.blt d N = true) (kk : RW P N all Q .txt rest ⟨(d, .imm len cs) :: ts, (n, none) :: hs, n + 1, z0⟩) :
    RW P N all Q .txt (⟨some d, .buildSlice t len parts, ty, pos, af, none⟩ :: rest) ⟨ts, hs, n, z0⟩ :=
  rx_buildSlice hze hsm hl hfl hM hN (md' := .txt) (rw_le kk Le.frzTop)
end
end Go.AL

namespace Go.AL
open Go.RowKit
set_option linter.unusedVariables false
set_option linter.unusedSimpArgs false
theorem Le.mv {ts : List (Nat × AV)} {hs : List (Nat × Option (List AV))} {n : Nat} {z0 : Lo} {d i o m e : Nat} {cs : List AV} (hd : lk ts d = some (.own i o m e)) (hi : lkH hs i = some cs) (hn : n < big) :
    Le ⟨ts, hs, n, z0⟩ ⟨(d, .own n o m e) :: ts, (n, some cs) :: (i, none) :: hs, n + 1, z0⟩ := by
  rintro C a w ⟨h0, ι, g, gh⟩
  have hf : ι n = none := gh.fresh n ⟨Nat.le_refl _, .inl hn⟩
  have hin : ∃ p, ι i = some p := by
    rcases gh.obj i cs hi with ⟨r1, _⟩ | ⟨b, β, _, _, r1, _⟩
    · exact ⟨_, r1⟩
    · exact ⟨_, r1⟩
  obtain ⟨pi, hpi⟩ := hin
  have hni : n ≠ i := by rintro rfl; rw [hf] at hpi; cases hpi
  let ι' : Pl := upd ι n (ι i)
  have hnn : ι' n = ι i := by simp only [ι', upd_same]
  have hne' : ∀ id, id ≠ n → ι' id = ι id := fun id h => by simp only [ι', upd_ne _ _ h]
  have hne : ∀ id p, ι id = some p → ι' id = some p := by
    intro id p h
    have : id ≠ n := by rintro rfl; rw [hf] at h; cases h
    rw [hne' _ this, h]
  -- the objects of the new state, under their old ids
  let σ : Nat → Nat := fun id => if id = n then i else id
  have hσ : ∀ id c, lkH ((n, some cs) :: (i, none) :: hs) id = some c → lkH hs (σ id) = some c ∧ ι' id = ι (σ id) ∧ (id = n ∨ id ≠ i) := by
    intro id c h
    simp only [lkH_c] at h
    by_cases q : id = n
    · subst q
      rw [if_pos rfl] at h; cases h
      exact ⟨by simp only [σ, if_true]; exact hi, by simp only [σ, if_true]; exact hnn, .inl rfl⟩
    · rw [if_neg q] at h
      by_cases q2 : id = i
      · rw [if_pos q2] at h; cases h
      · rw [if_neg q2] at h
        exact ⟨by simp only [σ, if_neg q]; exact h, by simp only [σ, if_neg q]; exact hne' _ q, .inr q2⟩
  have car : Carry w (badOf C.X ι (lkH hs)) ι w (badOf C.X ι' (lkH ((n, some cs) :: (i, none) :: hs))) ι' := by
    refine ⟨fun b o x h1 h2 => ⟨?_, h2⟩, hne, fun _ => Nat.le_refl _⟩
    rintro (h | ⟨id, c, β, q1, q2⟩)
    · exact h1 (.inl h)
    · obtain ⟨r1, r2, _⟩ := hσ id c q1
      exact h1 (.inr ⟨σ id, c, β, r1, by rw [← r2]; exact q2⟩)
  refine ⟨h0, ι', ⟨g.df, g.sz, fun t av ht => ?_⟩, ⟨fun id c h => ?_, fun id id' c c' b β β' q1 q2 q3 q4 => ?_, gh.fr, fun id p h => hne _ _ (gh.ex _ _ h), fun id h => ?_⟩⟩
  · have ht' : lk ((d, .own n o m e) :: ts) t = some av := ht
    rw [lk_c] at ht'
    split at ht'
    · rename_i et
      subst et
      cases ht'
      obtain ⟨y, hy, hr⟩ := g.tm t _ hd
      refine ⟨y, hy, ?_⟩
      have hr' := Rd.carry car _ _ hr
      simp only [Rd, hnn] at hr' ⊢
      rw [hne' i (fun h => hni h.symm)] at hr'
      exact hr'
    · obtain ⟨y, hy, hr⟩ := g.tm t av ht'
      exact ⟨y, hy, Rd.carry car _ _ hr⟩
  · obtain ⟨r1, r2, _⟩ := hσ id c h
    rcases gh.obj _ c r1 with ⟨s1, s2⟩ | ⟨b, β, arr, e', s1, s2, s3, s4, s5, s6⟩
    · exact .inl ⟨by rw [r2]; exact s1, s2⟩
    · exact .inr ⟨b, β, arr, e', by rw [r2]; exact s1, s2, s3, RdC.carryB car _ _ _ (fun o x hx => hx) s4, s5, s6⟩
  · obtain ⟨r1, r2, r3⟩ := hσ id c q1
    obtain ⟨t1, t2, t3⟩ := hσ id' c' q2
    have := gh.sep _ _ _ _ _ _ _ r1 t1 (by rw [← r2]; exact q3) (by rw [← t2]; exact q4)
    simp only [σ] at this
    split at this <;> split at this
    · omega
    · rename_i u1 u2; rcases t3 with t3 | t3
      · exact absurd t3 u2
      · exact absurd this.symm t3
    · rename_i u1 u2; rcases r3 with r3 | r3
      · exact absurd r3 u1
      · exact absurd this r3
    · exact this
  · have h1 : n + 1 ≤ id := h.1
    have h2 : id < big ∨ z0.fb ≤ id := h.2
    rw [hne' id (by omega)]
    exact gh.fresh id ⟨by show n ≤ id; omega, h2⟩
end Go.AL

namespace Go.AL
open Go.RowKit
set_option linter.unusedVariables false
theorem Le.slot {ts : List (Nat × AV)} {hs : List (Nat × Option (List AV))} {n : Nat} {z0 : Lo} {d : Nat} {v v' : AV} (hd : lk ts d = some v) (h : ∀ (w : World) (bad : Nat → Prop) (ι : Pl) (y : Value), Rd w bad ι v y → Rd w bad ι v' y) :
    Le ⟨ts, hs, n, z0⟩ ⟨(d, v') :: ts, hs, n, z0⟩ := by
  rintro C a w ⟨h0, ι, g, gh⟩
  refine ⟨h0, ι, ⟨g.df, g.sz, fun t av ht => ?_⟩, gh⟩
  have ht' : lk ((d, v') :: ts) t = some av := ht
  rw [lk_c] at ht'
  split at ht'
  · rename_i et
    subst et
    cases ht'
    obtain ⟨y, hy, hr⟩ := g.tm t _ hd
    exact ⟨y, hy, h _ _ _ _ hr⟩
  · exact g.tm t av ht'
theorem Le.nilImm {ts : List (Nat × AV)} {hs : List (Nat × Option (List AV))} {n : Nat} {z0 : Lo} {d : Nat} (hd : lk ts d = some (.v (.slice none 0 0))) : Le ⟨ts, hs, n, z0⟩ ⟨(d, .imm 0 []) :: ts, hs, n, z0⟩ :=
  Le.slot hd fun w bad ι y h => Rd_kAV (av := .v (.slice none 0 0)) h
theorem flat_nilH {α : Type} {f : α → List AV} {hs : List (Nat × Option (List AV))} {i : Nat} (h : lkH hs i = some []) : lkH hs i = some (flat f []) := h
end Go.AL

namespace Go.AL
abbrev opU (a s : Nat) : Nat := a ||| s
abbrev opI (a s : Nat) : Nat := a &&& s
def bstp (op : Nat → Nat → Nat) (s0 : Nat) (s : List Nat × Bool) (k : Nat) : List Nat × Bool :=
  if op s.1[k]! s0 ≠ s.1[k]! then (s.1.set k (op s.1[k]! s0), true) else s
def nxN (pts : List Pnt) (i : Nat) : List Nat := pts[i]!.next.map (·.toNat)
def innG (op : Nat → Nat → Nat) (F : Nat → Nat → Nat) (pts : List Pnt) (s : List Nat × Bool) (i : Nat) : List Nat × Bool := (nxN pts i).foldl (bstp op (F i s.1[i]!)) s
def swpG (op : Nat → Nat → Nat) (F : Nat → Nat → Nat) (pts : List Pnt) (s : List Nat × Bool) : List Nat × Bool := (List.range pts.length).foldl (innG op F pts) s
theorem getB_set {α : Type} [Inhabited α] (l : List α) (k i : Nat) (x : α) (h : k < l.length) : (l.set k x)[i]! = if i = k then x else l[i]! := by
  by_cases e : i = k
  · subst e; rw [if_pos rfl, getB _ _ (by simpa using h), List.getElem_set_self]
  · rw [if_neg e]
    simp only [List.getElem!_eq_getElem?_getD, List.getElem?_set_ne (Ne.symm e)]
theorem mem_nxN {ts : List Int} {pts : List Pnt} (w : WG ts pts) {i k : Nat} (hi : i < pts.length) : k ∈ nxN pts i ↔ edge pts i k := by
  unfold nxN edge
  rw [List.mem_map]
  constructor
  · rintro ⟨z, hz, rfl⟩
    have := w.nx i hi z hz
    exact ⟨hi, by rw [Int.toNat_of_nonneg this.1]; exact hz⟩
  · rintro ⟨_, h⟩; exact ⟨_, h, rfl⟩
theorem edge_lt {ts : List Int} {pts : List Pnt} (w : WG ts pts) {i k : Nat} (h : edge pts i k) : k < pts.length := by
  have := w.nx i h.1 _ h.2; omega
structure Flow (op : Nat → Nat → Nat) (F : Nat → Nat → Nat) (pts : List Pnt) (g : Nat → Nat) (Pp : Nat → Nat → Prop) : Prop where
  snd : ∀ i k A B, edge pts i k → Pp i A → Pp k B → Pp k (op B (F i A))
  dec : ∀ i k A B, edge pts i k → Pp i A → Pp k B → op B (F i A) ≠ B → g (op B (F i A)) < g B
def SG (pts : List Pnt) (Pp : Nat → Nat → Prop) (l : List Nat) : Prop := l.length = pts.length ∧ ∀ i, i < pts.length → Pp i l[i]!
theorem bstp_law {op : Nat → Nat → Nat} {F : Nat → Nat → Nat} {pts : List Pnt} {g : Nat → Nat} {Pp : Nat → Nat → Prop} (f : Flow op F pts g Pp) {i k A : Nat} (hA : Pp i A) (e : edge pts i k) (hk : k < pts.length) (s : List Nat) (b : Bool) (h : SG pts Pp s) :
    SG pts Pp (bstp op (F i A) (s, b) k).1 ∧ ((bstp op (F i A) (s, b) k = (s, b) ∧ op s[k]! (F i A) = s[k]!) ∨ ((bstp op (F i A) (s, b) k).2 = true ∧ sumL ((bstp op (F i A) (s, b) k).1.map g) < sumL (s.map g))) := by
  unfold bstp
  dsimp only
  have hks : k < s.length := by rw [h.1]; exact hk
  by_cases hc : op s[k]! (F i A) ≠ s[k]!
  · rw [if_pos hc]
    refine ⟨⟨by simp [h.1], fun j hj => ?_⟩, .inr ⟨rfl, ?_⟩⟩
    · dsimp only
      rw [getB_set _ _ _ _ hks]
      split
      · rename_i q; subst q; exact f.snd _ _ _ _ e hA (h.2 j hj)
      · exact h.2 j hj
    · have := sumL_set g s k (op s[k]! (F i A)) hks
      have h2 := f.dec i k A s[k]! e hA (h.2 k hk) hc
      dsimp only; omega
  · rw [if_neg hc]
    exact ⟨h, .inl ⟨rfl, by simpa using hc⟩⟩
theorem innG_law {ts : List Int} {op : Nat → Nat → Nat} {F : Nat → Nat → Nat} {pts : List Pnt} {g : Nat → Nat} {Pp : Nat → Nat → Prop} (w : WG ts pts) (f : Flow op F pts g Pp) (s : List Nat) (b : Bool) (i : Nat) (hi : i < pts.length) (h : SG pts Pp s) :
    SG pts Pp (innG op F pts (s, b) i).1 ∧ ((innG op F pts (s, b) i = (s, b) ∧ ∀ k, edge pts i k → op s[k]! (F i s[i]!) = s[k]!) ∨ ((innG op F pts (s, b) i).2 = true ∧ sumL ((innG op F pts (s, b) i).1.map g) < sumL (s.map g))) := by
  have hA := h.2 i hi
  have := fold_law (bstp op (F i s[i]!)) (fun k l => op l[k]! (F i s[i]!) = l[k]!) (fun l => sumL (l.map g)) (SG pts Pp) (nxN pts i)
    (fun s' b' k hk hs => by
      have e := (mem_nxN w hi).1 hk
      exact bstp_law f hA e (edge_lt w e) s' b' hs) s b h
  refine ⟨this.1, ?_⟩
  rcases this.2 with ⟨e1, e2⟩ | h2
  · exact .inl ⟨e1, fun k e => e2 k ((mem_nxN w hi).2 e)⟩
  · exact .inr h2
def ClosedG (op : Nat → Nat → Nat) (F : Nat → Nat → Nat) (pts : List Pnt) (s : List Nat) : Prop := ∀ i k, edge pts i k → op s[k]! (F i s[i]!) = s[k]!
theorem swpG_law {ts : List Int} {op : Nat → Nat → Nat} {F : Nat → Nat → Nat} {pts : List Pnt} {g : Nat → Nat} {Pp : Nat → Nat → Prop} (w : WG ts pts) (f : Flow op F pts g Pp) (s : List Nat) (b : Bool) (h : SG pts Pp s) :
    SG pts Pp (swpG op F pts (s, b)).1 ∧ ((swpG op F pts (s, b) = (s, b) ∧ ClosedG op F pts s) ∨ ((swpG op F pts (s, b)).2 = true ∧ sumL ((swpG op F pts (s, b)).1.map g) < sumL (s.map g))) := by
  have := fold_law (innG op F pts) (fun i l => ∀ k, edge pts i k → op l[k]! (F i l[i]!) = l[k]!) (fun l => sumL (l.map g)) (SG pts Pp) (List.range pts.length)
    (fun s' b' i hi hs => innG_law w f s' b' i (List.mem_range.1 hi) hs) s b h
  refine ⟨this.1, ?_⟩
  rcases this.2 with ⟨e1, e2⟩ | h2
  · exact .inl ⟨e1, fun i k e => e2 i (List.mem_range.2 e.1) k e⟩
  · exact .inr h2
theorem or_lt_of_ne {a b : Nat} (h : a ||| b ≠ a) : a < a ||| b := by
  have := @Nat.left_le_or a b; omega
theorem and_lt_of_ne {a b : Nat} (h : a &&& b ≠ a) : a &&& b < a := by
  have := @Nat.and_le_left a b; omega
theorem or_eq_iff {a b : Nat} : a ||| b = a ↔ ∀ v, b.testBit v = true → a.testBit v = true := by
  constructor
  · intro h v hv; rw [← h, Nat.testBit_or, hv]; simp
  · intro h
    apply Nat.eq_of_testBit_eq; intro v
    rw [Nat.testBit_or]
    cases hb : b.testBit v with
    | false => simp
    | true => rw [h v hb]; rfl
theorem and_eq_iff {a b : Nat} : a &&& b = a ↔ ∀ v, a.testBit v = true → b.testBit v = true := by
  constructor
  · intro h v hv; rw [← h, Nat.testBit_and, Bool.and_eq_true] at hv; exact hv.2
  · intro h
    apply Nat.eq_of_testBit_eq; intro v
    rw [Nat.testBit_and]
    cases ha : a.testBit v with
    | false => simp
    | true => rw [h v ha]; rfl
theorem lt_of_bits {a n : Nat} (h : a < 2 ^ n) {v : Nat} (hv : a.testBit v = true) : v < n := by
  rcases Nat.lt_or_ge v n with h1 | h1
  · exact h1
  · rw [Nat.testBit_lt_two_pow (Nat.lt_of_lt_of_le h (Nat.pow_le_pow_right (by decide) h1))] at hv; cases hv
theorem testBit_wS {ts : List Int} {x : Pnt} {us : List Int} {v : Nat} : (wS ts x us).testBit v = (decide (v < ts.length) && decide (useAt ts x v ∈ us)) := testBit_mkBits _ _ _
theorem testBit_sbit {x : Pnt} {v : Nat} (h : setAt x < 62) : (sbit x).testBit v = decide (setAt x = (v : Int)) := by
  unfold sbit
  split
  · rename_i h0
    by_cases e : v = (setAt x).toNat
    · subst e; rw [Nat.testBit_two_pow_self]; simp; omega
    · rw [Nat.testBit_two_pow_of_ne (fun h => e h.symm)]; simp; omega
  · simp; omega
theorem testBit_valF {ts : List Int} {x : Pnt} {A v : Nat} (h : setAt x < 62) : (valF ts x A).testBit v = ((A.testBit v && !(decide (v < ts.length) && decide (useAt ts x v = 2))) || decide (setAt x = (v : Int))) := by
  unfold valF
  rw [Nat.testBit_or, testBit_anl, testBit_wS, testBit_sbit h]
  simp
def GoodM (ts : List Int) (pts : List Pnt) (A : List Nat) : Prop := A.length = pts.length ∧ ∀ i, i < pts.length → ∀ v, A[i]!.testBit v = true ↔ Mb ts pts (i, v)
def GoodA (ts : List Int) (pts : List Pnt) (A : List Nat) : Prop := A.length = pts.length ∧ ∀ i, i < pts.length → ∀ v, A[i]!.testBit v = true ↔ v < ts.length ∧ ¬ Na ts pts (i, v)
theorem ext_bits {n : Nat} {A B : List Nat} (h1 : A.length = n) (h2 : B.length = n) (h : ∀ i, i < n → ∀ v, A[i]!.testBit v = true ↔ B[i]!.testBit v = true) : A = B := by
  apply List.ext_getElem (by omega)
  intro i g1 g2
  have := h i (by omega)
  rw [getB _ _ g1, getB _ _ g2] at this
  apply Nat.eq_of_testBit_eq
  intro v
  rw [Bool.eq_iff_iff]; exact this v
def PpM (ts : List Int) (pts : List Pnt) (i A : Nat) : Prop := A < 2 ^ ts.length ∧ ∀ v, A.testBit v = true → Mb ts pts (i, v)
def PpA (ts : List Int) (pts : List Pnt) (i A : Nat) : Prop := A < 2 ^ ts.length ∧ ∀ v, v < ts.length → A.testBit v = false → Na ts pts (i, v)
theorem valF_lt {ts : List Int} {pts : List Pnt} (w : WG ts pts) {i : Nat} (hi : i < pts.length) {A : Nat} (hA : A < 2 ^ ts.length) : valF ts pts[i]! A < 2 ^ ts.length := by
  apply Nat.lt_pow_two_of_testBit
  intro v hv
  have hs := (w.set i hi).1
  have htl := w.tl
  rw [testBit_valF (by omega)]
  have : A.testBit v = false := by
    cases h : A.testBit v with
    | false => rfl
    | true => have := lt_of_bits hA h; omega
  rw [this, Bool.false_and, Bool.false_or, decide_eq_false_iff_not]; omega
theorem flowM {ts : List Int} {pts : List Pnt} (w : WG ts pts) : Flow (fun a s => a ||| s) (fun i A => valF ts pts[i]! A) pts (fun a => 2 ^ ts.length - a) (PpM ts pts) := by
  refine ⟨fun i k A B e hA hB => ⟨Nat.or_lt_two_pow hB.1 (valF_lt w e.1 hA.1), fun v hv => ?_⟩, fun i k A B e hA hB hne => ?_⟩
  · have hs := (w.set i e.1).1
    have htl := w.tl
    rw [Nat.testBit_or, Bool.or_eq_true] at hv
    rcases hv with hv | hv
    · exact hB.2 v hv
    · rw [testBit_valF (by omega)] at hv
      simp only [Bool.or_eq_true, Bool.and_eq_true, Bool.not_eq_true', Bool.and_eq_false_iff, decide_eq_true_eq, decide_eq_false_iff_not] at hv
      rcases hv with ⟨h1, h2⟩ | h1
      · refine .step (hA.2 v h1) ⟨rfl, e, ?_⟩
        have := lt_of_bits hA.1 h1
        rcases h2 with h2 | h2
        · omega
        · exact h2
      · exact .base ⟨i, e, h1⟩
  · have h1 := or_lt_of_ne hne
    have h2 := Nat.or_lt_two_pow hB.1 (valF_lt w e.1 hA.1)
    omega
theorem flowA {ts : List Int} {pts : List Pnt} (w : WG ts pts) : Flow (fun a s => a &&& s) (fun i A => valF ts pts[i]! A) pts (fun a => a) (PpA ts pts) := by
  refine ⟨fun i k A B e hA hB => ⟨Nat.lt_of_le_of_lt Nat.and_le_left hB.1, fun v hv hf => ?_⟩, fun i k A B e hA hB hne => and_lt_of_ne hne⟩
  have hs := (w.set i e.1).1
  have htl := w.tl
  rw [Nat.testBit_and, Bool.and_eq_false_iff] at hf
  rcases hf with hf | hf
  · exact hB.2 v hv hf
  · rw [testBit_valF (by omega)] at hf
    simp only [Bool.or_eq_false_iff, Bool.and_eq_false_iff, Bool.not_eq_false', Bool.and_eq_true, decide_eq_true_eq, decide_eq_false_iff_not] at hf
    obtain ⟨h1 | h1, h2⟩ := hf
    · exact .step (hA.2 v hv h1) ⟨rfl, e, h2⟩
    · exact .base ⟨hv, .inr ⟨i, e, h1.2, h2⟩⟩
theorem goodM_of {ts : List Int} {pts : List Pnt} (w : WG ts pts) {A : List Nat} (h : SG pts (PpM ts pts) A) (hc : ClosedG (fun a s => a ||| s) (fun i A => valF ts pts[i]! A) pts A) : GoodM ts pts A := by
  refine ⟨h.1, fun i hi v => ⟨fun hv => (h.2 i hi).2 v hv, fun hm => ?_⟩⟩
  have htl := w.tl
  have key : ∀ a : Nat × Nat, Mb ts pts a → A[a.1]!.testBit a.2 = true := by
    refine Clo.sub (T := fun a : Nat × Nat => A[a.1]!.testBit a.2 = true) ?_ ?_
    · rintro ⟨k, v⟩ ⟨i, e, hs⟩
      have h1 := (w.set i e.1).1
      refine or_eq_iff.1 (hc i k e) v ?_
      rw [testBit_valF (by omega)]; simp only [Bool.or_eq_true, decide_eq_true_eq]; exact .inr hs
    · rintro ⟨i, v⟩ ⟨k, v'⟩ ht ⟨rfl, e, hu⟩
      have h1 := (w.set i e.1).1
      refine or_eq_iff.1 (hc i k e) v' ?_
      dsimp only at ht hu
      rw [testBit_valF (by omega), ht]; grind
  exact key (i, v) hm
theorem goodA_of {ts : List Int} {pts : List Pnt} (w : WG ts pts) {A : List Nat} (h : SG pts (PpA ts pts) A) (h0 : A[0]! = 0) (hc : ClosedG (fun a s => a &&& s) (fun i A => valF ts pts[i]! A) pts A) : GoodA ts pts A := by
  refine ⟨h.1, fun i hi v => ?_⟩
  have htl := w.tl
  have key : ∀ a : Nat × Nat, Na ts pts a → A[a.1]!.testBit a.2 = false := by
    refine Clo.sub (T := fun a : Nat × Nat => A[a.1]!.testBit a.2 = false) ?_ ?_
    · rintro ⟨k, v⟩ ⟨hv, h1 | ⟨i, e, hu, hs⟩⟩
      · dsimp only at h1 ⊢; rw [h1, h0]; simp
      · have h1 := (w.set i e.1).1
        dsimp only at hu hs hv ⊢
        cases hq : A[k]!.testBit v with
        | false => rfl
        | true =>
          have := and_eq_iff.1 (hc i k e) v hq
          rw [testBit_valF (by omega)] at this
          grind
    · rintro ⟨i, v⟩ ⟨k, v'⟩ ht ⟨rfl, e, hs⟩
      have h1 := (w.set i e.1).1
      dsimp only at ht hs ⊢
      cases hq : A[k]!.testBit v' with
      | false => rfl
      | true =>
        have := and_eq_iff.1 (hc i k e) v' hq
        rw [testBit_valF (by omega), ht] at this
        grind
  constructor
  · intro hv
    refine ⟨lt_of_bits (h.2 i hi).1 hv, fun hn => ?_⟩
    have := key (i, v) hn
    dsimp only at this; rw [hv] at this; cases this
  · rintro ⟨hv, hn⟩
    cases hq : A[i]!.testBit v with
    | true => rfl
    | false => exact absurd ((h.2 i hi).2 v hv hq) hn
end Go.AL
namespace Go.AL
theorem sm_all {ts : List Int} {pts : List Pnt} {Pp : Nat → Nat → Prop} {l : List Nat} (h : SG pts Pp l) (hp : ∀ i A, Pp i A → A < 2 ^ ts.length) (htl : ts.length ≤ 6) (z : Nat) : Sm l[z]! := by
  by_cases hz : z < pts.length
  · exact ⟨Nat.lt_of_lt_of_le (hp _ _ (h.2 z hz)) (Nat.pow_le_pow_right (by decide) (by omega))⟩
  · rw [getElem!_neg _ _ (by rw [h.1]; exact hz)]; exact ⟨by decide⟩
theorem nxN_get {pts : List Pnt} {i j : Nat} (h : j < pts[i]!.next.length) : (nxN pts i)[j]! = (pts[i]!.next[j]!).toNat := by
  unfold nxN
  rw [getB _ _ (by simpa using h), getB _ _ h, List.getElem_map]
theorem range_succ_foldl {σ : Type} (f : σ → Nat → σ) (s : σ) (k : Nat) : (List.range (k + 1)).foldl f s = f ((List.range k).foldl f s) k := by
  rw [List.range_succ, List.foldl_append]; rfl
theorem bstp_take {op : Nat → Nat → Nat} {s0 : Nat} {pts : List Pnt} {i j : Nat} (h : j < pts[i]!.next.length) (s : List Nat × Bool) :
    ((nxN pts i).take (j + 1)).foldl (bstp op s0) s = bstp op s0 (((nxN pts i).take j).foldl (bstp op s0) s) (pts[i]!.next[j]!).toNat := by
  have hl : j < (nxN pts i).length := by unfold nxN; simpa using h
  rw [foldl_take _ _ _ _ hl, nxN_get h]
theorem nxN_len (pts : List Pnt) (i : Nat) : (nxN pts i).length = pts[i]!.next.length := by unfold nxN; simp
theorem bstp_1 {op : Nat → Nat → Nat} {s0 : Nat} {s : List Nat} {b : Bool} {k : Nat} (h : op s[k]! s0 ≠ s[k]!) : bstp op s0 (s, b) k = (s.set k (op s[k]! s0), true) := by unfold bstp; rw [if_pos h]
theorem bstp_0 {op : Nat → Nat → Nat} {s0 : Nat} {s : List Nat} {b : Bool} {k : Nat} (h : op s[k]! s0 = s[k]!) : bstp op s0 (s, b) k = (s, b) := by unfold bstp; rw [if_neg (fun hc => hc h)]
theorem SG_step {op : Nat → Nat → Nat} {F : Nat → Nat → Nat} {pts : List Pnt} {g : Nat → Nat} {Pp : Nat → Nat → Prop} (f : Flow op F pts g Pp) {ts : List Int} (w : WG ts pts) {i k A : Nat} (hA : Pp i A) (e : edge pts i k) {s : List Nat} (h : SG pts Pp s) : SG pts Pp (s.set k (op s[k]! (F i A))) := by
  refine ⟨by simp [h.1], fun j hj => ?_⟩
  rw [getB_set _ _ _ _ (by rw [h.1]; exact edge_lt w e)]
  split
  · rename_i q; subst q; exact f.snd _ _ _ _ e hA (h.2 j hj)
  · exact h.2 j hj
theorem SG_rep {pts : List Pnt} {Pp : Nat → Nat → Prop} (h : ∀ i, i < pts.length → Pp i 0) : SG pts Pp (List.replicate pts.length 0) := by
  refine ⟨by simp, fun i hi => ?_⟩
  rw [getB _ _ (by simpa using hi), List.getElem_replicate]; exact h i hi
theorem goodM_ext {ts : List Int} {pts : List Pnt} {A B : List Nat} (h1 : GoodM ts pts A) (h2 : GoodM ts pts B) : A = B := ext_bits h1.1 h2.1 fun i hi v => (h1.2 i hi v).trans (h2.2 i hi v).symm
theorem goodA_ext {ts : List Int} {pts : List Pnt} {A B : List Nat} (h1 : GoodA ts pts A) (h2 : GoodA ts pts B) : A = B := ext_bits h1.1 h2.1 fun i hi v => (h1.2 i hi v).trans (h2.2 i hi v).symm
theorem set_self {l : List Nat} {k x : Nat} (h : l[k]! = x) (hk : k < l.length) : l.set k x = l := by
  subst h; rw [getB _ _ hk]; exact List.set_getElem_self hk
end Go.AL
namespace Go.AL
theorem rep_set {n k a : Nat} (h : k < n) : (List.replicate k a ++ List.replicate (n - k) 0).set k a = List.replicate (k + 1) a ++ List.replicate (n - (k + 1)) 0 := by
  rw [show n - k = (n - (k + 1)) + 1 by omega, List.replicate_succ]
  have := set_mid (List.replicate k a) 0 a (List.replicate (n - (k + 1)) 0)
  rw [List.length_replicate] at this
  rw [this, List.replicate_succ']; simp
theorem startA {ts : List Int} {pts : List Pnt} (w : WG ts pts) {u : List Nat} (hu : u = List.replicate pts.length (2 ^ ts.length - 1)) : SG pts (PpA ts pts) (u.set 0 0) ∧ (u.set 0 0)[0]! = 0 := by
  have hp0 := w.p0
  have h0 : 0 < u.length := by rw [hu]; simpa using hp0
  have hp : 0 < 2 ^ ts.length := Nat.pow_pos (by decide)
  refine ⟨⟨by simp [hu], fun i hi => ?_⟩, by rw [getB_set _ _ _ _ h0, if_pos rfl]⟩
  rw [getB_set _ _ _ _ h0]
  split
  · rename_i e; subst e; exact ⟨hp, fun v hv _ => .base ⟨hv, .inl rfl⟩⟩
  · rw [hu, getB _ _ (by simpa using hi), List.getElem_replicate]
    exact ⟨by omega, fun v hv hf => by rw [Nat.testBit_two_pow_sub_one] at hf; simp at hf; omega⟩
end Go.AL
namespace Go.AL
def afF (pts : List Pnt) (B : List Nat) (i : Nat) : Nat := (nxN pts i).foldl (fun a k => a ||| B[k]!) 0
theorem testBit_foldor (B : List Nat) (v : Nat) : ∀ (L : List Nat) (a : Nat), (L.foldl (fun a k => a ||| B[k]!) a).testBit v = true ↔ a.testBit v = true ∨ ∃ k ∈ L, B[k]!.testBit v = true
  | [], a => by simp
  | k :: L, a => by
    rw [List.foldl_cons, testBit_foldor B v L, Nat.testBit_or, Bool.or_eq_true]
    simp only [List.mem_cons, exists_eq_or_imp]
    grind
theorem testBit_afF {ts : List Int} {pts : List Pnt} (w : WG ts pts) {B : List Nat} {i v : Nat} (hi : i < pts.length) : (afF pts B i).testBit v = true ↔ ∃ k, edge pts i k ∧ B[k]!.testBit v = true := by
  unfold afF
  rw [testBit_foldor]
  simp only [Nat.zero_testBit, Bool.false_eq_true, false_or, mem_nxN w hi]
def GoodN (ts : List Int) (pts : List Pnt) (A : List Nat) : Prop := A.length = pts.length ∧ ∀ i, i < pts.length → ∀ v, A[i]!.testBit v = true ↔ Nd ts pts (i, v)
def GoodL (ts : List Int) (pts : List Pnt) (A : List Nat) : Prop := A.length = pts.length ∧ ∀ i, i < pts.length → ∀ v, A[i]!.testBit v = true ↔ Lv ts pts i v
theorem goodL_ext {ts : List Int} {pts : List Pnt} {A B : List Nat} (h1 : GoodL ts pts A) (h2 : GoodL ts pts B) : A = B := ext_bits h1.1 h2.1 fun i hi v => (h1.2 i hi v).trans (h2.2 i hi v).symm
theorem goodL_of {ts : List Int} {pts : List Pnt} (w : WG ts pts) {A : List Nat} (h : GoodN ts pts A) : GoodL ts pts ((List.range pts.length).map (afF pts A)) := by
  refine ⟨by simp, fun i hi v => ?_⟩
  rw [getB _ _ (by simpa using hi), List.getElem_map, List.getElem_range, testBit_afF w hi]
  constructor
  · rintro ⟨k, e, hk⟩; exact ⟨k, e, (h.2 k (edge_lt w e) v).1 hk⟩
  · rintro ⟨k, e, hk⟩; exact ⟨k, e, (h.2 k (edge_lt w e) v).2 hk⟩
end Go.AL
namespace Go.AL
end Go.AL

namespace Go.AL
theorem Nd_lt {ts : List Int} {pts : List Pnt} (w : WG ts pts) {a : Nat × Nat} (h : Nd ts pts a) : a.2 < ts.length := by
  induction h with
  | base h => exact h.2.1
  | step _ r ih => rw [r.1]; exact ih
end Go.AL

namespace Go.AL
open Go.RowKit
set_option linter.unusedVariables false
instance (a b : List AV) [h : Pur a] [h2 : Pur b] : Pur (a ++ b) := ⟨by rw [pursB_append, h.pf, h2.pf]; rfl⟩
instance (fn : Go.Fn) (f c : List AV) [h : Pur f] [h2 : Pur c] : PurV (.clos fn f c) := ⟨by simp only [AV.pur, h.pf, h2.pf, Bool.and_self]⟩
def cN (n : Nat) : List AV := [.v (.int .i64 (n : Int))]
instance : FlT cN 1 := ⟨fun _ => rfl⟩
instance : FE cN (fun n => [.v (.int .i64 (n : Int))]) := ⟨fun _ => rfl⟩
instance (n : Nat) : Pur (cN n) := ⟨rfl⟩
theorem st_nat {xs : List Nat} {k : Nat} {a : Nat} (hk : k < xs.length) : spl (flat cN xs) (0 + k * 1) [.v (.int .i64 (a : Int))] = flat cN (xs.set k a) := st_flat0 hk rfl
theorem mk_rep {α : Type} {f : α → List AV} {x : α} {l : List AV} {m : Nat} (h : l = f x) : (List.replicate m l).flatten = flat f (List.replicate m x) := by
  subst h; simp [flat, List.flatMap_def]
theorem mk_nat {m : Nat} : (List.replicate m ([Value.int .i64 0].map AV.v)).flatten = flat cN (List.replicate m 0) := mk_rep rfl
section
variable {P : Program} {N : Nat} {Q : Exit → AS → Prop} {all : Array Oper} {rest : List Oper} {ts : List (Nat × AV)} {hs : List (Nat × Option (List AV))} {n : Nat} {z0 : Lo} {md : Md}
variable {d : Nat} {ty : TypeId} {pos : String} {af : Array Edge}
theorem rx_makeSliceE {t el e by' m : Nat} {x y : Operand} {zs : List Value} {cs : List AV} {k k' : IntKind} [ht : SlT P t el] [he : SzT P el e] [hb : ByT P el by'] [hz : ZrT P el zs]
    (hx : ev (lk ts) x = some (.v (.int k (m : Int)))) (hy : ev (lk ts) y = some (.v (.int k' (m : Int)))) (hze : zs.length = e) (hsm : by' * m ≤ 281474976710656) (hmx : m ≤ 9223372036854775807)
    (hcs : (List.replicate m (zs.map .v)).flatten = cs) (hM : Nat.blt n big = true) (hN : Nat.blt d N = true) {md' : Md} [hmd : MdA md (rO x ++ rO y) [.inr n, .inl d] md'] (kk : RW P N all Q md' rest ⟨(d, .own n 0 m e) :: ts, (n, some cs) :: hs, n + 1, z0⟩) :
    RW P N all Q md (⟨some d, .makeSlice t x y, ty, pos, af, none⟩ :: rest) ⟨ts, hs, n, z0⟩ := by
  subst hcs
  exact rx_makeSlice hx hy hze hsm hmx hM hN (md' := md') (hmd := hmd) kk
end
end Go.AL

namespace Go.AL
open Go.RowKit
theorem lendL_nil {H : Nat → Option (List AV)} : lendL H [] = some [] := rfl
theorem lendL_cons {H : Nat → Option (List AV)} {c x : AV} {cs l : List AV} (h1 : lendV H c = some x) (h2 : lendL H cs = some l) : lendL H (c :: cs) = some (x :: l) := by
  simp only [lendL, h1, h2]
theorem lendV_own {H : Nat → Option (List AV)} {i m e : Nat} {cs : List AV} (h : H i = some cs) (hp : Pur cs) : lendV H (.own i 0 m e) = some (.imm m cs) := by
  simp only [lendV, h, Option.bind_some, hp.pf, if_true, List.drop_zero]
theorem lendV_v {H : Nat → Option (List AV)} {x : Value} : lendV H (.v x) = some (.v x) := rfl
section
variable {P : Program} {N : Nat} {Q : Exit → AS → Prop} {all : Array Oper} {rest : List Oper} {ts : List (Nat × AV)} {hs : List (Nat × Option (List AV))} {n : Nat} {z0 : Lo} {md : Md}
variable {d : Nat} {ty : TypeId} {pos : String} {af : Array Edge}
theorem rx_lendE {k : FuncId} {args : Array Operand} {tys : Array TypeId} {avs avs2 : List AV} {r : AV} {md' : Md} [hc : CaT P k] (ha : evL (lk ts) args.toList = some avs) (hl : lendL (lkH hs) avs = some avs2) (h : PC P k avs2 (fun x => x = r)) (hfr : r.free = true) (hN : Nat.blt d N = true)
    (hmd : MdA md (rOs args.toList ++ rL avs) [.inl d] md') (kk : RW P N all Q md' rest ⟨(d, r) :: ts, hs, n, z0⟩) : RW P N all Q md (⟨some d, .call ⟨.value (.func k), args, tys⟩, ty, pos, af, none⟩ :: rest) ⟨ts, hs, n, z0⟩ := by
  exact rx_lend ha hl h hfr hN (hmd := hmd) kk
end
theorem ibin_and1 {k : IntKind} [hk : K6 k] (a : Nat) [ha : Sm a] : ibin .and k a 1 = some (.int k ((a &&& 1 : Nat) : Int)) := ibin_and a 1
section
variable {P : Program} {N : Nat} {Q : Exit → AS → Prop} {all : Array Oper} {rest : List Oper} {ts : List (Nat × AV)} {hs : List (Nat × Option (List AV))} {n : Nat} {z0 : Lo} {md : Md}
variable {d : Nat} {ty : TypeId} {pos : String} {af : Array Edge}
theorem rx_and1 {k : IntKind} {t t' : TypeId} {x y : Operand} {a : Nat} (hx : ev (lk ts) x = some (.v (.int k (a : Int)))) (hy : ev (lk ts) y = some (.v (.int k 1))) (hk : K6 k) (ha : Sm a)
    (hN : Nat.blt d N = true) {md' : Md} [hmd : MdA md (rO x ++ rO y) [.inl d] md'] (kk : RW P N all Q md' rest ⟨(d, .v (.int k ((a &&& 1 : Nat) : Int))) :: ts, hs, n, z0⟩) : RW P N all Q md (⟨some d, .binOp .and t x y t', ty, pos, af, none⟩ :: rest) ⟨ts, hs, n, z0⟩ :=
  rw_ibin hx hy (.inl rfl) (ibin_and1 a) (ltb hN) (by rw [hmd.pf]; exact kk)
end
theorem and1_iff (A v : Nat) : ((A >>> v &&& 1 : Nat) : Int) = 1 ↔ A.testBit v = true := by
  rw [Nat.testBit, Nat.and_comm]
  have : 1 &&& (A >>> v) = (A >>> v) % 2 := by rw [Nat.and_comm, Nat.and_one_is_mod]
  rw [this]
  have := Nat.mod_two_eq_zero_or_one (A >>> v)
  simp only [bne_iff_ne, ne_eq]
  omega
def bitsI (A : Nat) : List Int := ((List.range 62).filter (A.testBit ·)).map (fun v : Nat => (v : Int))
theorem bitsI_pre {A k : Nat} (h : ∀ v, k ≤ v → A.testBit v = false) (hk : k ≤ 64) (hA : Sm A) : bitsI A = ((List.range k).filter (A.testBit ·)).map (fun v : Nat => (v : Int)) := by
  unfold bitsI
  congr 1
  have e : ∀ (a b : Nat), (∀ v, a ≤ v → v < a + b → A.testBit v = false) → (List.range (a + b)).filter (A.testBit ·) = (List.range a).filter (A.testBit ·) := by
    intro a b hb
    rw [List.range_add, List.filter_append]
    have : List.filter (A.testBit ·) (List.map (fun x => a + x) (List.range b)) = [] := by
      rw [List.filter_eq_nil_iff]
      intro x hx
      rw [List.mem_map] at hx
      obtain ⟨y, hy, rfl⟩ := hx
      rw [List.mem_range] at hy
      rw [hb _ (by omega) (by omega)]; simp
    rw [this, List.append_nil]
  rcases Nat.le_total k 62 with h1 | h1
  · have := e k (62 - k) (fun v h2 _ => h v h2)
    rwa [show k + (62 - k) = 62 by omega] at this
  · have := e 62 (k - 62) (fun v h2 _ => Nat.testBit_lt_two_pow (Nat.lt_of_lt_of_le hA.pf (Nat.pow_le_pow_right (by decide) h2)))
    rw [show 62 + (k - 62) = k by omega] at this
    exact this.symm
theorem filt_succ (p : Nat → Bool) (k : Nat) : (List.range (k + 1)).filter p = (List.range k).filter p ++ (if p k = true then [k] else []) := by
  rw [List.range_succ, List.filter_append]
  congr 1
  by_cases h : p k = true <;> simp [h]
theorem mem_bitsI {A : Nat} {z : Int} : z ∈ bitsI A ↔ ∃ v : Nat, v < 62 ∧ A.testBit v = true ∧ z = v := by
  unfold bitsI
  simp only [List.mem_map, List.mem_filter, List.mem_range]
  constructor
  · rintro ⟨v, ⟨h1, h2⟩, rfl⟩; exact ⟨v, h1, h2, rfl⟩
  · rintro ⟨v, h1, h2, rfl⟩; exact ⟨v, ⟨h1, h2⟩, rfl⟩
end Go.AL

namespace Go.AL
theorem shr_pos {A k : Nat} (hA : Sm A) (h : 0 < ((A >>> k : Nat) : Int)) : k < 62 := by
  rcases Nat.lt_or_ge k 62 with h1 | h1
  · exact h1
  · have : A >>> k = 0 := by rw [Nat.shiftRight_eq_div_pow]; exact Nat.div_eq_of_lt (Nat.lt_of_lt_of_le hA.pf (Nat.pow_le_pow_right (by decide) h1))
    rw [this] at h; simp at h
theorem shr_zero {A k : Nat} (h : ((A >>> k : Nat) : Int) ≤ 0) (v : Nat) (hv : k ≤ v) : A.testBit v = false := by
  have h0 : A >>> k = 0 := Nat.le_zero.1 (Int.ofNat_le.1 h)
  have : A.testBit v = (A >>> k).testBit (v - k) := by rw [Nat.testBit_shiftRight]; congr 1; omega
  rw [this, h0]; simp
theorem filt_snoc {A k : Nat} {u : List Int} (h : ((A >>> k &&& 1 : Nat) : Int) = 1) (hu : u = ((List.range k).filter (A.testBit ·)).map (fun v : Nat => (v : Int))) : u ++ [(k : Int)] = ((List.range (k + 1)).filter (A.testBit ·)).map (fun v : Nat => (v : Int)) := by
  rw [filt_succ, if_pos ((and1_iff A k).1 h), List.map_append, hu]; rfl
theorem filt_skip {A k : Nat} {u : List Int} (h : ¬ ((A >>> k &&& 1 : Nat) : Int) = 1) (hu : u = ((List.range k).filter (A.testBit ·)).map (fun v : Nat => (v : Int))) : u = ((List.range (k + 1)).filter (A.testBit ·)).map (fun v : Nat => (v : Int)) := by
  rw [filt_succ, if_neg (fun q => h ((and1_iff A k).2 q)), List.append_nil, hu]
def ofV (pts : List Pnt) (V : Nat) : Nat := mkBits (fun l => isLn pts[l]! && V.testBit (pts[l]!.y.toNat)) pts.length
def GoodP (ts : List Int) (pts : List Pnt) (A : List Nat) : Prop := A.length = pts.length ∧ ∀ i, i < pts.length → ∀ l, A[i]!.testBit l = true ↔ Pl' ts pts (i, l)
theorem Pl_ln {ts : List Int} {pts : List Pnt} {a : Nat × Nat} (h : Pl' ts pts a) : a.2 < pts.length ∧ isLn pts[a.2]! = true := by
  induction h with
  | base h => exact ⟨h.1.1, h.2⟩
  | step _ r ih => rw [r.1]; exact ih
end Go.AL

namespace Go.AL
open Go.RowKit
set_option linter.unusedVariables false
section
variable {P : Program} {N : Nat} {Q : Exit → AS → Prop} {all : Array Oper} {rest : List Oper} {ts : List (Nat × AV)} {hs : List (Nat × Option (List AV))} {n : Nat} {z0 : Lo} {md : Md}
variable {d : Nat} {ty : TypeId} {pos : String} {af : Array Edge}
end
end Go.AL

namespace Go.AL
end Go.AL
namespace Go.AL
theorem isLn_op {x : Pnt} (h : isLn x = true) : x.op = 4 ∨ x.op = 5 := by simpa [isLn] using h
end Go.AL

namespace Go.AL
theorem bitsI_len (A : Nat) : (bitsI A).length ≤ 62 := by
  unfold bitsI; rw [List.length_map]; exact Nat.le_trans (List.length_filter_le _ _) (by simp)
end Go.AL
namespace Go.AL
def row6 (A : List Nat) (i : Nat) : List Nat := (A.drop (i * 6)).take 6
theorem row6_at {A : List Nat} {i v n : Nat} (hA : A.length = n * 6) (hi : i < n) (hv : v < 6) : (row6 A i)[v]! = A[i * 6 + v]! := by
  have h2 : i * 6 + v < A.length := by omega
  rw [getB _ _ h2, getB _ _ (by unfold row6; simp; omega)]
  unfold row6; simp
theorem row6_len {A : List Nat} {i n : Nat} (hA : A.length = n * 6) (hi : i < n) : (row6 A i).length = 6 := by unfold row6; simp; omega
end Go.AL

namespace Go.AL
def GoodF (ts : List Int) (pts : List Pnt) (A : List Nat) : Prop := A.length = pts.length * 6 ∧ ∀ i v, i < pts.length → v < 6 → ∀ l, A[i * 6 + v]!.testBit l = true ↔ Fr' ts pts (i, v, l)
theorem Fr_lt {ts : List Int} {pts : List Pnt} (w : WG ts pts) {a : Nat × Nat × Nat} (h : Fr' ts pts a) : a.1 < pts.length ∧ a.2.1 < ts.length ∧ a.2.2 < pts.length := by
  induction h with
  | @base a h =>
    have h1 := (w.set _ h.1.1).1
    have h2 := h.2.2
    exact ⟨edge_lt w h.1, by omega, h.1.1⟩
  | @step a b _ r ih =>
    refine ⟨edge_lt w r.2.1, ?_, by rw [r.1]; exact ih.2.2⟩
    rcases r.2.2 with ⟨_, h, _⟩ | ⟨h, _⟩
    · rw [h]; exact ih.2.1
    · have h1 := (w.set _ r.2.1.1).1
      omega
end Go.AL
namespace Go.AL
end Go.AL

namespace Go.AL
open Go.RowKit
set_option linter.unusedVariables false
section
variable {P : Program} {N : Nat} {Q : Exit → AS → Prop} {all : Array Oper} {rest : List Oper} {ts : List (Nat × AV)} {hs : List (Nat × Option (List AV))} {n : Nat} {z0 : Lo} {md : Md}
variable {d : Nat} {ty : TypeId} {pos : String} {af : Array Edge}
theorem rx_assignNil {e : Nat} (hM : Nat.blt n big = true) (hN : Nat.blt d N = true) (kk : RW P N all Q .txt rest ⟨(d, .own n 0 0 e) :: ts, (n, some []) :: hs, n + 1, z0⟩) :
    RW P N all Q .txt (⟨some d, .assign (.const (.slice none 0 0)), ty, pos, af, none⟩ :: rest) ⟨ts, hs, n, z0⟩ := by
  refine rx_assign (av := .v (.slice none 0 0)) rfl hN (md' := .txt) (rw_le kk ((Le.nilOwn (d := d) e (by simp [lk_c]) (ltb hM)).trans ?_))
  refine Le.of (fun t av h => ?_) (fun i c h => h) (Nat.le_refl _) rfl
  show lk ((d, .own n 0 0 e) :: (d, .v (.slice none 0 0)) :: ts) t = _
  have h' : lk ((d, .own n 0 0 e) :: ts) t = some av := h
  simp only [lk_c] at h' ⊢
  split
  · rename_i q; rw [if_pos q] at h'; exact h'
  · rename_i q; rw [if_neg q] at h'; exact h'
end
end Go.AL

namespace Go.AL
def accF (ts : List Int) (x : Pnt) (m : Bool) : List Acc :=
  (if x.op = 4 ∨ x.op = 6 then [⟨x.y, false⟩] else if x.op = 5 then [⟨x.y, true⟩] else if x.op = 7 ∨ x.op = 8 then [⟨x.x, true⟩] else if x.op = 3 ∧ tkT ts[x.y.toNat]! = true then [⟨x.y, true⟩] else []) ++
  (if 0 ≤ setAt x ∧ ts[(setAt x).toNat]! = 2 ∧ m = true then [⟨setAt x, true⟩] else [])
def orL (f : List Nat) (L : List Int) (a : Nat) : Nat := L.foldl (fun a v => a ||| f[v.toNat]!) a
def kpF (ts : List Int) (x : Pnt) (live : Nat) (f : List Nat) : Nat := orL f (bitsI (anl live (wS ts x [2] ||| sbit x))) 0
theorem testBit_orL (f : List Nat) (l : Nat) : ∀ (L : List Int) (a : Nat), (orL f L a).testBit l = true ↔ a.testBit l = true ∨ ∃ v ∈ L, f[v.toNat]!.testBit l = true
  | [], a => by simp [orL]
  | v :: L, a => by
    show (orL f L (a ||| f[v.toNat]!)).testBit l = true ↔ _
    rw [testBit_orL f l L, Nat.testBit_or, Bool.or_eq_true]
    simp only [List.mem_cons, exists_eq_or_imp]
    grind
def agA (pts : List Pnt) (wr : Bool) (L : List Int) (a : Nat) : Nat := L.foldl (fun a l => if wr = true ∨ pts[l.toNat]!.op = 5 then a ||| 2 ^ l.toNat else a) a
def agF (pts : List Pnt) (loans : Nat) (acs : List Acc) (a : Nat) : Nat := acs.foldl (fun a c => agA pts c.write (bitsI (loans &&& ofV pts (2 ^ c.var.toNat))) a) a
theorem testBit_agA (pts : List Pnt) (wr : Bool) (l : Nat) : ∀ (L : List Int) (a : Nat), (agA pts wr L a).testBit l = true ↔ a.testBit l = true ∨ ((∃ z ∈ L, z.toNat = l) ∧ (wr = true ∨ pts[l]!.op = 5))
  | [], a => by simp [agA]
  | z :: L, a => by
    show (agA pts wr L (if wr = true ∨ pts[z.toNat]!.op = 5 then a ||| 2 ^ z.toNat else a)).testBit l = true ↔ _
    rw [testBit_agA pts wr l L]
    have h2 : ∀ b : Nat, (a ||| 2 ^ b).testBit l = true ↔ a.testBit l = true ∨ b = l := by
      intro b
      rw [Nat.testBit_or, Bool.or_eq_true, Nat.testBit_two_pow, decide_eq_true_eq]
    split
    · rename_i h
      rw [h2]
      simp only [List.mem_cons, exists_eq_or_imp]
      constructor
      · rintro ((h1 | rfl) | ⟨h1, h3⟩)
        · exact .inl h1
        · exact .inr ⟨.inl rfl, h⟩
        · exact .inr ⟨.inr h1, h3⟩
      · rintro (h1 | ⟨rfl | h1, h3⟩)
        · exact .inl (.inl h1)
        · exact .inl (.inr rfl)
        · exact .inr ⟨h1, h3⟩
    · rename_i h
      simp only [List.mem_cons, exists_eq_or_imp]
      constructor
      · rintro (h1 | ⟨h1, h3⟩)
        · exact .inl h1
        · exact .inr ⟨.inr h1, h3⟩
      · rintro (h1 | ⟨rfl | h1, h3⟩)
        · exact .inl h1
        · exact absurd h3 h
        · exact .inr ⟨h1, h3⟩
theorem testBit_agF (pts : List Pnt) (loans l : Nat) (hl : Sm loans) : ∀ (acs : List Acc) (a : Nat), (agF pts loans acs a).testBit l = true ↔ a.testBit l = true ∨ ∃ c ∈ acs, loans.testBit l = true ∧ (ofV pts (2 ^ c.var.toNat)).testBit l = true ∧ (c.write = true ∨ pts[l]!.op = 5)
  | [], a => by simp [agF]
  | c :: acs, a => by
    show (agF pts loans acs (agA pts c.write (bitsI (loans &&& ofV pts (2 ^ c.var.toNat))) a)).testBit l = true ↔ _
    rw [testBit_agF pts loans l hl acs, testBit_agA]
    have h2 : (∃ z ∈ bitsI (loans &&& ofV pts (2 ^ c.var.toNat)), z.toNat = l) ↔ loans.testBit l = true ∧ (ofV pts (2 ^ c.var.toNat)).testBit l = true := by
      constructor
      · rintro ⟨z, hz, rfl⟩
        obtain ⟨v, h1, h3, rfl⟩ := mem_bitsI.1 hz
        rw [Nat.testBit_and, Bool.and_eq_true] at h3; exact h3
      · intro h
        have : l < 62 := lt_of_bits hl.pf h.1
        exact ⟨(l : Int), mem_bitsI.2 ⟨l, this, by rw [Nat.testBit_and, h.1, h.2]; rfl, rfl⟩, rfl⟩
    rw [h2]
    simp only [List.mem_cons, exists_eq_or_imp]
    grind
end Go.AL

namespace Go.AL
end Go.AL

namespace Go.AL
def cfN (ts : List Int) (pts : List Pnt) (Am Al Af Ap : List Nat) (i : Nat) : Nat :=
  agF pts (kpF ts pts[i]! Al[i]! (row6 Af i) &&& Ap[i]!) (accF ts pts[i]! (Am[i]!.testBit (setAt pts[i]!).toNat)) 0
theorem cfN_lt {ts : List Int} {pts : List Pnt} (w : WG ts pts) {Am Al Af Ap : List Nat} {i : Nat} (hp : Ap[i]! < 2 ^ pts.length) : cfN ts pts Am Al Af Ap i < 2 ^ pts.length := by
  have hpl := w.pl
  have hl : kpF ts pts[i]! Al[i]! (row6 Af i) &&& Ap[i]! < 2 ^ pts.length := Nat.and_lt_two_pow _ hp
  apply Nat.lt_pow_two_of_testBit
  intro l hl2
  unfold cfN
  cases hq : (agF pts (kpF ts pts[i]! Al[i]! (row6 Af i) &&& Ap[i]!) (accF ts pts[i]! (Am[i]!.testBit (setAt pts[i]!).toNat)) 0).testBit l with
  | false => rfl
  | true =>
    rw [testBit_agF _ _ _ ⟨Nat.lt_of_lt_of_le hl (Nat.pow_le_pow_right (by decide) (by omega))⟩] at hq
    rcases hq with hq | ⟨c, _, h2, _⟩
    · simp at hq
    · have := lt_of_bits hl h2; omega
end Go.AL
namespace Go.AL
theorem Mb_lt {ts : List Int} {pts : List Pnt} (w : WG ts pts) {a : Nat × Nat} (h : Mb ts pts a) : a.2 < ts.length := by
  induction h with
  | base h => obtain ⟨i, e, h2⟩ := h; have := (w.set i e.1).1; omega
  | step _ r ih => rw [r.1]; exact ih
end Go.AL

namespace Go.AL
open Go.RowKit
set_option linter.unusedVariables false
section
variable {P : Program} {N : Nat} {Q : Exit → AS → Prop} {all : Array Oper} {rest : List Oper} {ts : List (Nat × AV)} {hs : List (Nat × Option (List AV))} {n : Nat} {z0 : Lo} {md : Md}
variable {d : Nat} {ty : TypeId} {pos : String} {af : Array Edge}
end
end Go.AL

namespace Go.AL
structure Flows (ts : List Int) (pts : List Pnt) where
  Aa : List Nat
  Am : List Nat
  An : List Nat
  Al : List Nat
  Af : List Nat
  Ap : List Nat
  ga : GoodA ts pts Aa
  gm : GoodM ts pts Am
  gn : GoodN ts pts An
  gl : GoodL ts pts Al
  gf : GoodF ts pts Af
  gp : GoodP ts pts Ap
theorem ex_bits (n m : Nat) (T : Nat → Nat → Prop) (h : ∀ i v, i < n → T i v → v < m) : ∃ A : List Nat, A.length = n ∧ ∀ i, i < n → ∀ v, A[i]!.testBit v = true ↔ T i v := by
  have key : ∀ i : Nat, ∃ f : Nat → Bool, ∀ v, f v = true ↔ T i v := fun i => by
    have : ∀ v, ∃ b : Bool, b = true ↔ T i v := fun v => by
      by_cases hT : T i v
      · exact ⟨true, by simp [hT]⟩
      · exact ⟨false, by simp [hT]⟩
    exact ⟨fun v => Classical.choose (this v), fun v => Classical.choose_spec (this v)⟩
  refine ⟨(List.range n).map (fun i => mkBits (Classical.choose (key i)) m), by simp, fun i hi v => ?_⟩
  rw [getB _ _ (by simpa using hi), List.getElem_map, List.getElem_range, testBit_mkBits, Bool.and_eq_true, decide_eq_true_eq, Classical.choose_spec (key i) v]
  exact ⟨fun h2 => h2.2, fun h2 => ⟨h i v hi h2, h2⟩⟩
theorem Flows.ex {ts : List Int} {pts : List Pnt} (w : WG ts pts) : Nonempty (Flows ts pts) := by
  obtain ⟨Aa, a1, a2⟩ := ex_bits pts.length ts.length (fun i v => v < ts.length ∧ ¬ Na ts pts (i, v)) (fun i v _ h => h.1)
  obtain ⟨Am, b1, b2⟩ := ex_bits pts.length ts.length (fun i v => Mb ts pts (i, v)) (fun i v _ h => Mb_lt w h)
  obtain ⟨An, c1, c2⟩ := ex_bits pts.length ts.length (fun i v => Nd ts pts (i, v)) (fun i v _ h => Nd_lt w h)
  obtain ⟨Al, d1, d2⟩ := ex_bits pts.length ts.length (fun i v => Lv ts pts i v) (fun i v _ h => by obtain ⟨k, _, h⟩ := h; exact Nd_lt w h)
  obtain ⟨Ap, e1, e2⟩ := ex_bits pts.length pts.length (fun i l => Pl' ts pts (i, l)) (fun i v _ h => (Pl_ln h).1)
  obtain ⟨Af, f1, f2⟩ := ex_bits (pts.length * 6) pts.length (fun q l => Fr' ts pts (q / 6, q % 6, l)) (fun q v _ h => (Fr_lt w h).2.2)
  refine ⟨⟨Aa, Am, An, Al, Af, Ap, ⟨a1, a2⟩, ⟨b1, b2⟩, ⟨c1, c2⟩, ⟨d1, d2⟩, ⟨f1, fun i v hi hv l => ?_⟩, ⟨e1, e2⟩⟩⟩
  rw [f2 (i * 6 + v) (by omega) l, show (i * 6 + v) / 6 = i by omega, show (i * 6 + v) % 6 = v by omega]
end Go.AL

namespace Go.AL
open Go.RowKit
set_option linter.unusedVariables false
class BoT (P : Program) (t : Nat) : Prop where pf : P.underlying t = some .bool
theorem run_eqB {P : Program} {t : TypeId} (h : P.underlying t = some .bool) (a b : Bool) (w : World) : (Op.equal t (.bool a) (.bool b)).run P w = .ok (decide (a = b)) w := by
  have e : ∀ d : Nat, (Op.equalIn (d + 1) t (.bool a) (.bool b)).run P w = .ok (a == b) w := fun d => by
    simp [Op.equalIn, run_underlying h]
  have : (a == b) = decide (a = b) := by cases a <;> cases b <;> rfl
  rw [← this]; exact e 9999
def bbin (op : BinOp) (a b : Bool) : Option Value :=
  match op with
  | .eql => some (.bool (decide (a = b)))
  | .neq => some (.bool (!decide (a = b)))
  | _ => none
section
variable {P : Program} {C : Ctx} {ι : Pl} {T : Nat → Option AV} {H : Nat → Option (List AV)} {a : Act} {w : World} {o : Oper}
theorem pu_bbin (g : TG C ι T H a w) {op : BinOp} {t t' : TypeId} {x y : Operand} {m n : Bool} {v : Value} (ht : P.underlying t = some .bool) (ho : o.op = .binOp op t x y t')
    (hx : ev T x = some (.v (.bool m))) (hy : ev T y = some (.v (.bool n))) (h : bbin op m n = some v) : Pu P C ι H a w o (.v v) := by
  have h1 := ev_ok g hx
  have h2 := ev_ok g hy
  simp only [Rd] at h1 h2
  refine ⟨v, ?_, by simp [Rd]⟩
  have hg : (eqGuard op t x y (.bool m) (.bool n)).run P w = .ok () w := by
    unfold eqGuard
    cases op <;> simp
  have hb : (binOp op t (.bool m) (.bool n)).run P w = .ok v w := by
    cases op <;> simp only [bbin] at h <;> cases h
    · simp [binOp, run_eqB (P := P) ht]
    · simp [binOp, run_eqB (P := P) ht]
  simp only [execOp, ho, h1, h2, Sem.run_bind, hg, Result.andThen_ok, hb, Sem.run_pure]
end
section
variable {P : Program} {N : Nat} {Q : Exit → AS → Prop} {all : Array Oper} {rest : List Oper} {ts : List (Nat × AV)} {hs : List (Nat × Option (List AV))} {n : Nat} {z0 : Lo} {md : Md}
variable {d : Nat} {ty : TypeId} {pos : String} {af : Array Edge}
theorem rx_bbin {op : BinOp} {t t' : TypeId} {x y : Operand} {m m' : Bool} {v : Value} [ht : BoT P t] (hx : ev (lk ts) x = some (.v (.bool m))) (hy : ev (lk ts) y = some (.v (.bool m')))
    (h : bbin op m m' = some v) (hN : Nat.blt d N = true) {md' : Md} [hmd : MdA md (rO x ++ rO y) [.inl d] md'] (kk : RW P N all Q md' rest ⟨(d, .v v) :: ts, hs, n, z0⟩) : RW P N all Q md (⟨some d, .binOp op t x y t', ty, pos, af, none⟩ :: rest) ⟨ts, hs, n, z0⟩ :=
  rw_pu rfl rfl (ltb hN) (fun C ι F T H a w ag g gh => pu_bbin g ht.pf rfl (ag.l.ev.trans hx) (ag.r.ev.trans hy) h) (by rw [hmd.pf]; exact kk)
end
theorem sC_imm {α : Type} {f : α → List AV} {e m : Nat} [h : FlT f e] {ys : List α} {H : Nat → Option (List AV)} (hm : m = ys.length) : sCells H e (kAV (.imm m (flat f ys))) = some (m, flat f ys) := by
  subst hm
  have hl : (flat f ys).length = ys.length * e := flat_length f ys
  show (if ys.length * e ≤ (flat f ys).length then some (ys.length, (flat f ys).take (ys.length * e)) else none) = _
  rw [if_pos (by omega), List.take_of_length_le (by omega)]
theorem app_nilF {α : Type} {f : α → List AV} {ys : List α} {e m : Nat} {L : List AV} (h : m = 0) : (((List.replicate 0 L).flatten).drop 0).take (m * e) ++ flat f ys = flat f ys := by subst h; simp
theorem Le.cells {ts : List (Nat × AV)} {hs : List (Nat × Option (List AV))} {n : Nat} {z0 : Lo} {i : Nat} {cs cs' : List AV} (hi : lkH hs i = some cs) (hl : cs'.length = cs.length)
    (h : ∀ (w : World) (bad : Nat → Prop) (ι : Pl) (b β : Nat), RdC w bad ι cs b β → RdC w bad ι cs' b β) :
    Le ⟨ts, hs, n, z0⟩ ⟨ts, (i, some cs') :: hs, n, z0⟩ := by
  rintro C a w ⟨h0, ι, g, gh⟩
  have hk : ∀ id c, lkH ((i, some cs') :: hs) id = some c → (id = i ∧ c = cs') ∨ (id ≠ i ∧ lkH hs id = some c) := by
    intro id c hc
    rw [lkH_c] at hc
    split at hc
    · rename_i e; cases hc; exact .inl ⟨e, rfl⟩
    · rename_i e; exact .inr ⟨fun h => e h, hc⟩
  have hk2 : ∀ id c, lkH hs id = some c → ∃ c', lkH ((i, some cs') :: hs) id = some c' := by
    intro id c hc
    rw [lkH_c]
    split
    · exact ⟨_, rfl⟩
    · exact ⟨_, hc⟩
  have hb : badOf C.X ι (lkH ((i, some cs') :: hs)) = badOf C.X ι (lkH hs) := by
    funext b
    refine propext ⟨?_, ?_⟩
    · rintro (h | ⟨id, c, β, h1, h2⟩)
      · exact .inl h
      · rcases hk id c h1 with ⟨rfl, _⟩ | ⟨_, h3⟩
        · exact .inr ⟨_, _, _, hi, h2⟩
        · exact .inr ⟨_, _, _, h3, h2⟩
    · rintro (h | ⟨id, c, β, h1, h2⟩)
      · exact .inl h
      · obtain ⟨c', h3⟩ := hk2 id c h1
        exact .inr ⟨_, _, _, h3, h2⟩
  refine ⟨h0, ι, ⟨g.df, g.sz, fun t av ht => ?_⟩, ?_, ?_, gh.fr, gh.ex, gh.fresh⟩
  · show ∃ y, a.tmps[t]? = some y ∧ Rd w (badOf C.X ι (lkH ((i, some cs') :: hs))) ι av y
    rw [hb]; exact g.tm t av ht
  · intro id c hc
    show _ ∨ ∃ b β arr e, ι id = some (some (b, β)) ∧ w.heap[b]? = some (.cells arr e (0, 0)) ∧ β + c.length ≤ arr.size ∧ RdC w (badOf C.X ι (lkH ((i, some cs') :: hs))) ι c b β ∧ ¬ C.X b ∧ (C.W0 b ∨ C.w0.heap.size ≤ b)
    rw [hb]
    rcases hk id c hc with ⟨rfl, rfl⟩ | ⟨_, h3⟩
    · rcases gh.obj _ _ hi with ⟨q1, q2⟩ | ⟨b, β, arr, e, q1, q2, q3, q4, q5⟩
      · subst q2
        exact .inl ⟨q1, List.eq_nil_of_length_eq_zero hl⟩
      · exact .inr ⟨b, β, arr, e, q1, q2, by rw [hl]; exact q3, h _ _ _ _ _ q4, q5⟩
    · exact gh.obj _ _ h3
  · intro id id' c c' b β β' h1 h2 h3 h4
    obtain ⟨d1, e1⟩ : ∃ d, lkH hs id = some d := by
      rcases hk id c h1 with ⟨rfl, _⟩ | ⟨_, h⟩
      · exact ⟨_, hi⟩
      · exact ⟨_, h⟩
    obtain ⟨d2, e2⟩ : ∃ d, lkH hs id' = some d := by
      rcases hk id' c' h2 with ⟨rfl, _⟩ | ⟨_, h⟩
      · exact ⟨_, hi⟩
      · exact ⟨_, h⟩
    exact gh.sep id id' d1 d2 b β β' e1 e2 h3 h4
end Go.AL

namespace Go.AL
theorem getB_def {α : Type} [Inhabited α] (xs : List α) (i : Nat) : xs[i]! = if h : i < xs.length then xs[i] else default := by
  split
  · rw [getB _ _ ‹_›]
  · rw [getElem!_neg xs i ‹_›]
theorem ext_get {α : Type} [Inhabited α] {a b : List α} (hl : a.length = b.length) (h : ∀ i, i < a.length → a[i]! = b[i]!) : a = b := by
  refine List.ext_getElem hl fun i h1 h2 => ?_
  have := h i h1
  rwa [getB _ _ h1, getB _ _ h2] at this
theorem set_get {α : Type} [Inhabited α] (xs : List α) (i j : Nat) (x : α) : (xs.set i x)[j]! = if i = j ∧ j < xs.length then x else xs[j]! := by
  by_cases hj : j < xs.length
  · rw [getB _ _ (by simpa using hj), List.getElem_set, getB _ _ hj]; grind
  · rw [getElem!_neg (xs.set i x) j (by simpa using hj), getElem!_neg xs j hj, if_neg (by omega)]
theorem mapR_get {α : Type} [Inhabited α] (f : Nat → α) (n i : Nat) (h : i < n) : (((List.range n).map f : List α))[i]! = f i := by
  rw [getB _ i (by simpa using h)]; simp
theorem rep_get {α : Type} [Inhabited α] (x : α) (n i : Nat) (h : i < n) : (List.replicate n x : List α)[i]! = x := by
  rw [getB _ i (by simpa using h)]; simp
def aftB (ts : List Int) (x : Pnt) (b : List Bool) : List Bool := (List.range b.length).map fun (v : Nat) => decide (setAt x = (v : Int)) || (b[v]! && !decide (useAt ts x v = 2))
def jnB (o a : List Bool) (all : Bool) : List Bool := (List.range a.length).map fun (v : Nat) => if v < o.length then (if all then o[v]! && a[v]! else o[v]! || a[v]!) else a[v]!
theorem jnB_len (o a : List Bool) (all : Bool) : (jnB o a all).length = a.length := by simp [jnB]
theorem jnB_get (o a : List Bool) (all : Bool) (v : Nat) (h : v < a.length) : (jnB o a all)[v]! = if v < o.length then (if all then o[v]! && a[v]! else o[v]! || a[v]!) else a[v]! := mapR_get _ _ _ h
end Go.AL

namespace Go.AL
theorem app_get {α : Type} [Inhabited α] (xs ys : List α) (i : Nat) : (xs ++ ys)[i]! = if i < xs.length then xs[i]! else ys[i - xs.length]! := by
  by_cases h : i < xs.length
  · rw [if_pos h, getB _ i (by simp; omega), getB _ i h, List.getElem_append_left h]
  · rw [if_neg h]
    by_cases h2 : i - xs.length < ys.length
    · rw [getB (xs ++ ys) i (by simp; omega), getB _ _ h2, List.getElem_append_right (by omega)]
    · rw [getElem!_neg (xs ++ ys) i (by simp; omega), getElem!_neg ys _ h2]
theorem g4_0 {α : Type} [Inhabited α] (p q : α) (A B : List α) : ([p] ++ A ++ [q] ++ B)[0]! = p := by rw [app_get, app_get, app_get]; simp
theorem g4_A {α : Type} [Inhabited α] (p q : α) (A B : List α) (k : Nat) (h : k < A.length) : ([p] ++ A ++ [q] ++ B)[1 + k]! = A[k]! := by
  rw [app_get, if_pos (by simp; omega), app_get, if_pos (by simp; omega), app_get, if_neg (by simp)]
  congr 1; simp
theorem g4_B {α : Type} [Inhabited α] (p q : α) (A B : List α) (k : Nat) : ([p] ++ A ++ [q] ++ B)[2 + A.length + k]! = B[k]! := by
  rw [app_get, if_neg (by simp; omega)]
  congr 1; simp; omega
mutual
theorem ptS_pre : ∀ (s : Stmt) (b i : Nat), b < i → i ≤ b + npS s → ∃ j, b ≤ j ∧ j < i ∧ j < b + npS s ∧ (i : Int) ∈ (ptS b s)[j - b]!.next
  | .mk op x y n th el, b, i, h1, h2 => by
    have hA := ptL_len th (b + 1)
    have hB := ptL_len el (b + 2 + npL th)
    by_cases h9 : op = 9
    · subst h9
      simp only [npS, if_true] at h2 ⊢
      simp only [ptS, if_true]
      by_cases c1 : i = b + 1
      · refine ⟨b, by omega, by omega, by omega, ?_⟩
        rw [Nat.sub_self, g4_0]; simp; omega
      · by_cases c2 : i ≤ b + 1 + npL th
        · obtain ⟨j, e1, e2, e3, e4⟩ := ptL_pre th (b + 1) i (by omega) c2
          refine ⟨j, by omega, by omega, by omega, ?_⟩
          rw [show j - b = 1 + (j - (b + 1)) by omega, g4_A _ _ _ _ _ (by omega)]; exact e4
        · by_cases c3 : i = b + 2 + npL th
          · refine ⟨b, by omega, by omega, by omega, ?_⟩
            rw [Nat.sub_self, g4_0]; simp; omega
          · obtain ⟨j, e1, e2, e3, e4⟩ := ptL_pre el (b + 2 + npL th) i (by omega) (by omega)
            refine ⟨j, by omega, by omega, by omega, ?_⟩
            rw [show j - b = 2 + (ptL (b + 1) th).length + (j - (b + 2 + npL th)) by omega, g4_B]; exact e4
    · by_cases h10 : op = 10
      · subst h10
        simp only [npS, if_true, show ((10 : Int) = 9) = False by simp, if_false] at h2 ⊢
        simp only [ptS, if_true, show ((10 : Int) = 9) = False by simp, if_false]
        rw [← List.append_nil ([_] ++ _ ++ [_])]
        by_cases c1 : i = b + 1
        · refine ⟨b, by omega, by omega, by omega, ?_⟩
          rw [Nat.sub_self, g4_0]; simp; omega
        · by_cases c2 : i ≤ b + 1 + npL th
          · obtain ⟨j, e1, e2, e3, e4⟩ := ptL_pre th (b + 1) i (by omega) c2
            refine ⟨j, by omega, by omega, by omega, ?_⟩
            rw [show j - b = 1 + (j - (b + 1)) by omega, g4_A _ _ _ _ _ (by omega)]; exact e4
          · refine ⟨b, by omega, by omega, by omega, ?_⟩
            rw [Nat.sub_self, g4_0]; simp; omega
      · simp only [npS, h9, h10, if_false] at h2 ⊢
        simp only [ptS, h9, h10, if_false]
        refine ⟨b, by omega, by omega, by omega, ?_⟩
        rw [Nat.sub_self]; simp; omega
theorem ptL_pre : ∀ (l : List Stmt) (b i : Nat), b < i → i ≤ b + npL l → ∃ j, b ≤ j ∧ j < i ∧ j < b + npL l ∧ (i : Int) ∈ (ptL b l)[j - b]!.next
  | [], b, i, h1, h2 => by simp only [npL] at h2; omega
  | s :: l, b, i, h1, h2 => by
    have hS := ptS_len s b
    simp only [npL] at h2 ⊢
    simp only [ptL]
    by_cases c : i ≤ b + npS s
    · obtain ⟨j, e1, e2, e3, e4⟩ := ptS_pre s b i h1 c
      refine ⟨j, by omega, by omega, by omega, ?_⟩
      rw [app_get, if_pos (by omega)]; exact e4
    · obtain ⟨j, e1, e2, e3, e4⟩ := ptL_pre l (b + npS s) i (by omega) (by omega)
      refine ⟨j, by omega, by omega, by omega, ?_⟩
      rw [app_get, if_neg (by omega), hS, show j - b - npS s = j - (b + npS s) by omega]; exact e4
end
def Rch (pts : List Pnt) : Prop := ∀ i, 0 < i → i < pts.length → ∃ j, j < i ∧ edge pts j i
theorem Rch.of (p : Prg) : Rch (ptsF p) := by
  intro i h1 h2
  rw [ptsF_len] at h2
  obtain ⟨j, e1, e2, e3, e4⟩ := ptL_pre p.body 0 i h1 (by omega)
  refine ⟨j, e2, by rw [ptsF_len]; omega, ?_⟩
  unfold ptsF
  rw [app_get, if_pos (by rw [ptL_len]; omega)]
  exact e4
end Go.AL

namespace Go.AL
def sumF (f : Nat → Nat) : Nat → Nat
  | 0 => 0
  | n + 1 => sumF f n + f n
theorem sumF_le {f g : Nat → Nat} : ∀ n, (∀ i, i < n → f i ≤ g i) → sumF f n ≤ sumF g n
  | 0, _ => Nat.le_refl _
  | n + 1, h => Nat.add_le_add (sumF_le n fun i hi => h i (by omega)) (h n (by omega))
theorem sumF_lt {f g : Nat → Nat} : ∀ n, (∀ i, i < n → f i ≤ g i) → (∃ i, i < n ∧ f i < g i) → sumF f n < sumF g n
  | 0, _, ⟨i, h, _⟩ => by omega
  | n + 1, h, ⟨i, hi, hlt⟩ => by
    show sumF f n + f n < sumF g n + g n
    have h1 := sumF_le n fun i hi => h i (by omega)
    have h2 := h n (by omega)
    by_cases e : i = n
    · subst e; omega
    · have := sumF_lt n (fun i hi => h i (by omega)) ⟨i, by omega, hlt⟩
      omega
theorem sumF_one : ∀ n, sumF (fun _ => 1) n = n
  | 0 => rfl
  | n + 1 => by show sumF _ n + 1 = _; rw [sumF_one n]
def mvd (all : Bool) (b : List Bool) (v : Nat) : Bool := b[v]! != all
structure Fw where
  out : List (List Bool)
  seen : List Bool
  work : List Int
def fwT (ts : List Int) (pts : List Pnt) (all : Bool) (a : Nat × Nat) : Prop := if all = true then Na ts pts a else Mb ts pts a
theorem jn_mvd (all : Bool) (o a : List Bool) (v : Nat) (h : v < a.length) : mvd all (jnB o a all) v = if v < o.length then mvd all o v || mvd all a v else mvd all a v := by
  unfold mvd
  rw [jnB_get _ _ _ _ h]
  split
  · cases all <;> cases o[v]! <;> cases a[v]! <;> rfl
  · rfl
structure FI (ts : List Int) (pts : List Pnt) (all : Bool) (s : Fw) : Prop where
  lo : s.out.length = pts.length
  ls : s.seen.length = pts.length
  a : ∀ i, i < pts.length → s.seen[i]! = true → s.out[i]!.length = ts.length
  b : ∀ i, i < pts.length → s.seen[i]! = false → s.out[i]! = []
  z : s.seen[0]! = true
  z1 : all = true → ∀ v, v < ts.length → mvd all s.out[0]! v = true
  t : ∀ i, i < pts.length → s.seen[i]! = true → ∀ v, v < ts.length → mvd all s.out[i]! v = true → fwT ts pts all (i, v)
  w : ∀ k, k ∈ s.work → 0 ≤ k ∧ k < pts.length ∧ s.seen[k.toNat]! = true
def potR (all : Bool) (nv : Nat) (seen : Bool) (b : List Bool) : Nat := if seen = true then sumF (fun v => if mvd all b v = true then 0 else 1) nv else nv + 1
def fwMu (all : Bool) (nv N : Nat) (s : Fw) : Nat := 3 * sumF (fun i => potR all nv s.seen[i]! s.out[i]!) N + s.work.length
theorem potR_le (all : Bool) (nv : Nat) (b : List Bool) : potR all nv true b ≤ nv := by
  unfold potR
  rw [if_pos rfl]
  have := sumF_le (f := fun v => if mvd all b v = true then 0 else 1) (g := fun _ => 1) nv (fun i _ => by split <;> omega)
  rw [sumF_one] at this
  exact this
theorem potR_lt {all : Bool} {nv : Nat} {b b' : List Bool} (h1 : b.length = nv) (h2 : b'.length = nv) (hm : ∀ v, v < nv → mvd all b v = true → mvd all b' v = true) (hne : b ≠ b') : potR all nv true b' < potR all nv true b := by
  unfold potR
  rw [if_pos rfl, if_pos rfl]
  have : ∃ v, v < nv ∧ b[v]! ≠ b'[v]! := by
    apply Classical.byContradiction
    intro hc
    refine hne (ext_get (by omega) fun i hi => ?_)
    apply Classical.byContradiction
    intro hd
    exact hc ⟨i, by omega, hd⟩
  obtain ⟨v, hv, hd⟩ := this
  refine sumF_lt nv (fun i hi => ?_) ⟨v, hv, ?_⟩
  · have := hm i hi
    grind
  · have := hm v hv
    unfold mvd at this ⊢
    revert this hd
    cases b[v]! <;> cases b'[v]! <;> cases all <;> simp
def fwP (all : Bool) (aft : List Bool) (s : Fw) (n : Nat) : Fw :=
  if s.seen[n]! = true ∧ s.out[n]! = jnB s.out[n]! aft all then s else ⟨s.out.set n (jnB s.out[n]! aft all), s.seen.set n true, s.work ++ [(n : Int)]⟩
structure FPush (ts : List Int) (pts : List Pnt) (all : Bool) (aft : List Bool) (n : Nat) (s s' : Fw) : Prop where
  I : FI ts pts all s'
  mu : fwMu all ts.length pts.length s' ≤ fwMu all ts.length pts.length s
  mono : ∀ k, k < pts.length → s.seen[k]! = true → s'.seen[k]! = true ∧ ∀ v, v < ts.length → mvd all s.out[k]! v = true → mvd all s'.out[k]! v = true
  sn : s'.seen[n]! = true
  mv : ∀ v, v < ts.length → mvd all aft v = true → mvd all s'.out[n]! v = true
  wk : ∀ x, x ∈ s.work → x ∈ s'.work
  ot : ∀ i, i ≠ n → s'.out[i]! = s.out[i]! ∧ s'.seen[i]! = s.seen[i]!
  or : (n : Int) ∈ s'.work ∨ s' = s
theorem fwP_ok {ts : List Int} {pts : List Pnt} {all : Bool} {s : Fw} {n : Nat} {aft : List Bool} (I : FI ts pts all s) (hn : n < pts.length) (ha : aft.length = ts.length)
    (hT : ∀ v, v < ts.length → mvd all aft v = true → fwT ts pts all (n, v)) : FPush ts pts all aft n s (fwP all aft s n) := by
  have hjl : (jnB s.out[n]! aft all).length = ts.length := by rw [jnB_len, ha]
  have hj := fun v (hv : v < ts.length) => jn_mvd all s.out[n]! aft v (by omega)
  unfold fwP
  split
  · rename_i hc
    refine ⟨I, Nat.le_refl _, fun k _ h => ⟨h, fun _ _ h => h⟩, hc.1, fun v hv hm => ?_, fun _ h => h, fun _ _ => ⟨rfl, rfl⟩, .inr rfl⟩
    have hl := I.a n hn hc.1
    rw [hc.2, hj v hv, if_pos (by omega), hm, Bool.or_true]
  · rename_i hc
    have hlo := I.lo
    have hls := I.ls
    have hmono : s.seen[n]! = true → ∀ v, v < ts.length → mvd all s.out[n]! v = true → mvd all (jnB s.out[n]! aft all) v = true := by
      intro hs v hv hm
      have hl := I.a n hn hs
      rw [hj v hv, if_pos (by omega), hm, Bool.true_or]
    have hot : ∀ i, i ≠ n → (s.out.set n (jnB s.out[n]! aft all))[i]! = s.out[i]! ∧ (s.seen.set n true)[i]! = s.seen[i]! := fun i hi => by
      rw [set_get, set_get, if_neg (by omega), if_neg (by omega)]; exact ⟨rfl, rfl⟩
    have hon : (s.out.set n (jnB s.out[n]! aft all))[n]! = jnB s.out[n]! aft all := by rw [set_get, if_pos (by omega)]
    have hsn : (s.seen.set n true)[n]! = true := by rw [set_get, if_pos (by omega)]
    refine ⟨⟨by simp; omega, by simp; omega, fun i hi h => ?_, fun i hi h => ?_, ?_, fun h v hv => ?_, fun i hi h v hv hm => ?_, fun k hk => ?_⟩, ?_, fun k hk h => ?_, hsn, fun v hv hm => ?_, fun x hx => List.mem_append_left _ hx, hot, .inl (by simp)⟩
    · dsimp only at h ⊢
      by_cases e : i = n
      · subst e; rw [hon]; exact hjl
      · rw [(hot i e).1]; rw [(hot i e).2] at h; exact I.a i hi h
    · dsimp only at h ⊢
      by_cases e : i = n
      · subst e; rw [hsn] at h; cases h
      · rw [(hot i e).1]; rw [(hot i e).2] at h; exact I.b i hi h
    · dsimp only
      by_cases e : 0 = n
      · subst e; exact hsn
      · rw [(hot 0 e).2]; exact I.z
    · dsimp only
      by_cases e : 0 = n
      · subst e; rw [hon]; exact hmono I.z v hv (I.z1 h v hv)
      · rw [(hot 0 e).1]; exact I.z1 h v hv
    · dsimp only at h hm ⊢
      by_cases e : i = n
      · subst e
        rw [hon, hj v hv] at hm
        split at hm
        · rename_i hlt
          rw [Bool.or_eq_true] at hm
          rcases hm with hm | hm
          · refine I.t i hi ?_ v hv hm
            cases hq : s.seen[i]! with
            | true => rfl
            | false => rw [I.b i hi hq] at hlt; simp at hlt
          · exact hT v hv hm
        · exact hT v hv hm
      · rw [(hot i e).1] at hm; rw [(hot i e).2] at h
        exact I.t i hi h v hv hm
    · dsimp only at hk ⊢
      rw [List.mem_append, List.mem_singleton] at hk
      rcases hk with hk | hk
      · have := I.w k hk
        refine ⟨this.1, this.2.1, ?_⟩
        by_cases e : k.toNat = n
        · rw [e]; exact hsn
        · rw [(hot _ e).2]; exact this.2.2
      · subst hk; exact ⟨by omega, by omega, hsn⟩
    · unfold fwMu
      dsimp only
      have : sumF (fun i => potR all ts.length (s.seen.set n true)[i]! (s.out.set n (jnB s.out[n]! aft all))[i]!) pts.length < sumF (fun i => potR all ts.length s.seen[i]! s.out[i]!) pts.length := by
        have hlt : potR all ts.length true (jnB s.out[n]! aft all) < potR all ts.length s.seen[n]! s.out[n]! := by
          cases hq : s.seen[n]! with
          | true => exact potR_lt (I.a n hn hq) hjl (hmono hq) (fun e => hc ⟨hq, e⟩)
          | false =>
            have h1 := potR_le all ts.length (jnB s.out[n]! aft all)
            have h2 : potR all ts.length false s.out[n]! = ts.length + 1 := by unfold potR; rw [if_neg (by simp)]
            omega
        refine sumF_lt _ (fun i hi => ?_) ⟨n, hn, ?_⟩
        · by_cases e : i = n
          · subst e; rw [hon, hsn]; omega
          · rw [(hot i e).1, (hot i e).2]; exact Nat.le_refl _
        · rw [hon, hsn]; exact hlt
      rw [List.length_append, List.length_singleton]; omega
    · dsimp only
      by_cases e : k = n
      · subst e; rw [hsn, hon]; exact ⟨rfl, hmono h⟩
      · rw [(hot k e).1, (hot k e).2]; exact ⟨h, fun _ _ h => h⟩
    · dsimp only
      rw [hon, hj v hv]
      split
      · rw [hm, Bool.or_true]
      · exact hm
def FCl (ts : List Int) (pts : List Pnt) (all : Bool) (s : Fw) (i : Nat) : Prop := ∀ k, edge pts i k → s.seen[k]! = true ∧ ∀ v, v < ts.length → mvd all (aftB ts pts[i]! s.out[i]!) v = true → mvd all s.out[k]! v = true
def FC (ts : List Int) (pts : List Pnt) (all : Bool) (e : Nat → Prop) (s : Fw) : Prop := ∀ i, i < pts.length → s.seen[i]! = true → (i : Int) ∉ s.work → ¬ e i → FCl ts pts all s i
theorem FPush.fc {ts : List Int} {pts : List Pnt} (w : WG ts pts) {all : Bool} {aft : List Bool} {n : Nat} {s s' : Fw} {e : Nat → Prop} (p : FPush ts pts all aft n s s') (h : FC ts pts all e s) : FC ts pts all e s' := by
  intro i hi hs hw he k hk
  have hkl := edge_lt w hk
  rcases p.or with q | q
  · have hin : i ≠ n := fun e => by subst e; exact hw q
    rw [(p.ot i hin).2] at hs
    obtain ⟨h1, h2⟩ := h i hi hs (fun hx => hw (p.wk _ hx)) he k hk
    obtain ⟨m1, m2⟩ := p.mono k hkl h1
    refine ⟨m1, fun v hv hm => m2 v hv (h2 v hv ?_)⟩
    rw [(p.ot i hin).1] at hm; exact hm
  · subst q; exact h i hi hs hw he k hk
structure FIn (ts : List Int) (pts : List Pnt) (all : Bool) (at_ : Nat) (aft : List Bool) (m j : Nat) (s : Fw) : Prop where
  I : FI ts pts all s
  C : FC ts pts all (· = at_) s
  mu : fwMu all ts.length pts.length s ≤ m
  D : (at_ : Int) ∈ s.work ∨ (aft = aftB ts pts[at_]! s.out[at_]! ∧ ∀ j', j' < j → j' < pts[at_]!.next.length → s.seen[(pts[at_]!.next[j']!).toNat]! = true ∧ ∀ v, v < ts.length → mvd all aft v = true → mvd all s.out[(pts[at_]!.next[j']!).toNat]! v = true)
theorem FIn.step {ts : List Int} {pts : List Pnt} (w : WG ts pts) {all : Bool} {at_ : Nat} {aft : List Bool} {m j : Nat} {s : Fw} (hat : at_ < pts.length) (h : FIn ts pts all at_ aft m j s) (hj : j < pts[at_]!.next.length) (ha : aft.length = ts.length)
    (hT : ∀ k, edge pts at_ k → ∀ v, v < ts.length → mvd all aft v = true → fwT ts pts all (k, v)) : FIn ts pts all at_ aft m (j + 1) (fwP all aft s (pts[at_]!.next[j]!).toNat) := by
  have hnx := w.nx at_ hat _ (getB_mem _ _ hj)
  have hed : edge pts at_ (pts[at_]!.next[j]!).toNat := ⟨hat, by rw [Int.toNat_of_nonneg hnx.1]; exact getB_mem _ _ hj⟩
  have p := fwP_ok (n := (pts[at_]!.next[j]!).toNat) h.I (by omega) ha (hT _ hed)
  refine ⟨p.I, p.fc w h.C, Nat.le_trans p.mu h.mu, ?_⟩
  rcases h.D with d | ⟨d1, d2⟩
  · exact .inl (p.wk _ d)
  · by_cases e : (at_ : Int) ∈ (fwP all aft s (pts[at_]!.next[j]!).toNat).work
    · exact .inl e
    · refine .inr ⟨?_, fun j' h1 h2 => ?_⟩
      · rcases p.or with q | q
        · have : at_ ≠ (pts[at_]!.next[j]!).toNat := fun e2 => e (by
            have e4 : (at_ : Int) = ((pts[at_]!.next[j]!).toNat : Nat) := congrArg Int.ofNat e2
            rw [e4]; exact q)
          rw [(p.ot at_ this).1]; exact d1
        · rw [q]; exact d1
      · by_cases e3 : j' = j
        · subst e3; exact ⟨p.sn, p.mv⟩
        · obtain ⟨g1, g2⟩ := d2 j' (by omega) h2
          have hnx' := w.nx at_ hat _ (getB_mem _ _ h2)
          obtain ⟨m1, m2⟩ := p.mono _ (by omega) g1
          exact ⟨m1, fun v hv hm => m2 v hv (g2 v hv hm)⟩
theorem FIn.out {ts : List Int} {pts : List Pnt} {all : Bool} {at_ : Nat} {aft : List Bool} {m j : Nat} {s : Fw} (h : FIn ts pts all at_ aft m j s) (hj : pts[at_]!.next.length ≤ j) : FC ts pts all (fun _ => False) s := by
  intro i hi hs hw _
  by_cases e : i = at_
  · subst e
    rcases h.D with d | ⟨d1, d2⟩
    · exact absurd d hw
    · intro k hk
      obtain ⟨j', q1, q2⟩ := List.getElem_of_mem hk.2
      have := d2 j' (by omega) q1
      rw [getB _ _ q1, q2, d1] at this
      exact this
  · exact h.C i hi hs hw e
end Go.AL

namespace Go.AL
open Go.RowKit
set_option linter.unusedVariables false
set_option linter.unusedSimpArgs false
section
variable {P : Program} {N : Nat} {Q : Exit → AS → Prop} {all : Array Oper} {rest : List Oper} {ts : List (Nat × AV)} {hs : List (Nat × Option (List AV))} {n : Nat} {z0 : Lo} {md : Md}
variable {d : Nat} {ty : TypeId} {pos : String} {af : Array Edge}
def Stop (p : Prop) : Prop := p
theorem rw_stop {op : Op} {g : Option (Nat × Bool)} (h : Stop (RW P N all Q md (⟨some d, op, ty, pos, af, g⟩ :: rest) ⟨ts, hs, n, z0⟩)) : RW P N all Q md (⟨some d, op, ty, pos, af, g⟩ :: rest) ⟨ts, hs, n, z0⟩ := h
theorem rw_go {l : List Oper} {s : AS} (h : RW P N all Q md l s) : Stop (RW P N all Q md l s) := h
theorem rx_sliceOw {t el : TypeId} {x : Operand} {lo : Option Operand} {i o m e l : Nat} [ht : SlT P t el] [he : SzT P el e] (hx : ev (lk ts) x = some (.own i o m e))
    (hl : bndA (lk ts) lo 0 = some l) (hb : l ≤ m) (hN : Nat.blt d N = true) {md' : Md} [hmd : MdA md (rO x ++ (rB lo ++ rB none)) [.inl d] md'] (kk : RW P N all Q md' rest ⟨(d, .own i (o + l * e) (m - l) e) :: ts, hs, n, z0⟩) :
    RW P N all Q md (⟨some d, .slice t x lo none none, ty, pos, af, none⟩ :: rest) ⟨ts, hs, n, z0⟩ :=
  rx_slice (m := m) (h := m) hx rfl hl rfl (by simp [sSl, hb]) hN (md' := md') (hmd := hmd) kk
end
end Go.AL

namespace Go.AL
def addB (a b : List Bool) : List Bool := (List.range a.length).map fun (l : Nat) => a[l]! || (decide (l < b.length) && b[l]!)
theorem addB_len (a b : List Bool) : (addB a b).length = a.length := by simp [addB]
theorem addB_get (a b : List Bool) (l : Nat) (h : l < a.length) : (addB a b)[l]! = (a[l]! || (decide (l < b.length) && b[l]!)) := mapR_get _ _ _ h
end Go.AL

namespace Go.AL
def cntF (nv : Nat) (b : List Bool) : Nat := sumF (fun v => if b[v]! = true then 0 else 1) nv
def fcR (nv N : Nat) (R : List (List Bool)) : Nat := sumF (fun i => cntF nv R[i]!) N
theorem cntF_mono {nv : Nat} {a b : List Bool} (h : ∀ v, v < nv → a[v]! = true → b[v]! = true) : cntF nv b ≤ cntF nv a :=
  sumF_le nv fun v hv => by
    show (if b[v]! = true then 0 else 1) ≤ (if a[v]! = true then 0 else 1)
    by_cases ha : a[v]! = true
    · rw [if_pos (h v hv ha)]; omega
    · rw [if_neg ha]; split <;> omega
theorem cntF_lt {nv : Nat} {a b : List Bool} (h : ∀ v, v < nv → a[v]! = true → b[v]! = true) {v : Nat} (hv : v < nv) (ha : a[v]! = false) (hb : b[v]! = true) : cntF nv b < cntF nv a :=
  sumF_lt nv (fun v hv => by
    show (if b[v]! = true then 0 else 1) ≤ (if a[v]! = true then 0 else 1)
    by_cases ha : a[v]! = true
    · rw [if_pos (h v hv ha)]; omega
    · rw [if_neg ha]; split <;> omega) ⟨v, hv, by show (if b[v]! = true then 0 else 1) < (if a[v]! = true then 0 else 1); rw [if_pos hb, if_neg (by rw [ha]; decide)]; omega⟩
theorem fcR_lt {nv N : Nat} {R R' : List (List Bool)} (h : ∀ i, i < N → cntF nv R'[i]! ≤ cntF nv R[i]!) {i : Nat} (hi : i < N) (hlt : cntF nv R'[i]! < cntF nv R[i]!) : fcR nv N R' < fcR nv N R :=
  sumF_lt N h ⟨i, hi, hlt⟩
theorem fcR_set {nv N i v : Nat} {R : List (List Bool)} (hl : R.length = N) (hi : i < N) (hv : v < nv) (hr : R[i]!.length = nv) (hf : R[i]![v]! = false) : fcR nv N (R.set i (R[i]!.set v true)) < fcR nv N R := by
  have hq : ∀ u, u < nv → R[i]![u]! = true → (R[i]!.set v true)[u]! = true := fun u hu h => by rw [set_get]; split <;> first | rfl | exact h
  refine fcR_lt (fun j hj => ?_) hi ?_
  · rw [set_get]
    split
    · rename_i e; obtain ⟨rfl, _⟩ := e; exact cntF_mono hq
    · exact Nat.le_refl _
  · rw [set_get, if_pos ⟨rfl, by omega⟩]
    exact cntF_lt hq hv hf (by rw [set_get, if_pos ⟨rfl, by omega⟩])
theorem idx_edge {ts : List Int} {pts : List Pnt} (w : WG ts pts) {i k : Nat} (hi : i < pts.length) (hk : k < pts[i]!.next.length) : edge pts i (pts[i]!.next[k]!).toNat := by
  have hm := getB_mem _ _ hk
  have := w.nx i hi _ hm
  exact ⟨hi, by rw [Int.toNat_of_nonneg this.1]; exact hm⟩
def needL (ts : List Int) (pts : List Pnt) (R : List (List Bool)) (n v : Nat) : Bool := !decide (useAt ts pts[n]! v = 0) || (R[n]![v]! && !decide (setAt pts[n]! = v))
structure LS (ts : List Int) (pts : List Pnt) (R0 R : List (List Bool)) (c : Bool) (D : Nat → Nat → Nat → Prop) : Prop where
  lo : R.length = pts.length
  ro : ∀ i, i < pts.length → R[i]!.length = ts.length
  snd : ∀ i v, i < pts.length → v < ts.length → R[i]![v]! = true → Lv ts pts i v
  dec : c = true → fcR ts.length pts.length R < fcR ts.length pts.length R0
  same : c = false → R = R0 ∧ ∀ i k v, i < pts.length → k < pts[i]!.next.length → v < ts.length → D i k v → needL ts pts R (pts[i]!.next[k]!).toNat v = true → R[i]![v]! = true
theorem LS.mono {ts : List Int} {pts : List Pnt} {R0 R : List (List Bool)} {c : Bool} {D D' : Nat → Nat → Nat → Prop} (h : LS ts pts R0 R c D)
    (k : ∀ i k v, i < pts.length → k < pts[i]!.next.length → v < ts.length → D' i k v → D i k v) : LS ts pts R0 R c D' :=
  ⟨h.lo, h.ro, h.snd, h.dec, fun hc => ⟨(h.same hc).1, fun i q v hi hq hv hd => (h.same hc).2 i q v hi hq hv (k i q v hi hq hv hd)⟩⟩
theorem LS.skip {ts : List Int} {pts : List Pnt} {R0 R : List (List Bool)} {c : Bool} {D D' : Nat → Nat → Nat → Prop} (h : LS ts pts R0 R c D) {i k v : Nat} (hs : needL ts pts R (pts[i]!.next[k]!).toNat v = true → R[i]![v]! = true)
    (hD : ∀ i' k' v', i' < pts.length → k' < pts[i']!.next.length → v' < ts.length → D' i' k' v' → D i' k' v' ∨ (i' = i ∧ k' = k ∧ v' = v)) : LS ts pts R0 R c D' :=
  ⟨h.lo, h.ro, h.snd, h.dec, fun hc => ⟨(h.same hc).1, fun i' q v' hi hq hv hd hn => by
    rcases hD i' q v' hi hq hv hd with h1 | ⟨rfl, rfl, rfl⟩
    · exact (h.same hc).2 i' q v' hi hq hv h1 hn
    · exact hs hn⟩⟩
theorem need_Lv {ts : List Int} {pts : List Pnt} (w : WG ts pts) {R : List (List Bool)} (hs : ∀ i v, i < pts.length → v < ts.length → R[i]![v]! = true → Lv ts pts i v) {n v : Nat} (hn : n < pts.length) (hv : v < ts.length) (h : needL ts pts R n v = true) : Nd ts pts (n, v) := by
  unfold needL at h
  simp only [Bool.or_eq_true, Bool.not_eq_true', decide_eq_false_iff_not, Bool.and_eq_true] at h
  rcases h with h | ⟨h1, h2⟩
  · exact .base ⟨hn, hv, h⟩
  · obtain ⟨k, e, hk⟩ := hs n v hn hv h1
    exact .step hk ⟨rfl, e, h2⟩
theorem LS.hit {ts : List Int} {pts : List Pnt} (w : WG ts pts) {R0 R : List (List Bool)} {c : Bool} {D : Nat → Nat → Nat → Prop} (D' : Nat → Nat → Nat → Prop) (h : LS ts pts R0 R c D) {i k v : Nat} (hi : i < pts.length) (hk : k < pts[i]!.next.length) (hv : v < ts.length)
    (hn : needL ts pts R (pts[i]!.next[k]!).toNat v = true) (hf : R[i]![v]! = false) : LS ts pts R0 (R.set i (R[i]!.set v true)) true D' := by
  have hlt := fcR_set h.lo hi hv (h.ro i hi) hf
  have e := idx_edge w hi hk
  have hro := h.ro i hi
  have hlo := h.lo
  refine ⟨by rw [List.length_set]; exact h.lo, fun j hj => ?_, fun j u hj hu hr => ?_, fun _ => ?_, fun hc => by cases hc⟩
  · rw [set_get]; split
    · rw [List.length_set]; exact hro
    · exact h.ro j hj
  · rw [set_get] at hr
    split at hr
    · rename_i q
      obtain ⟨rfl, _⟩ := q
      rw [set_get] at hr
      split at hr
      · rename_i q
        obtain ⟨rfl, _⟩ := q
        exact ⟨_, e, need_Lv w h.snd (edge_lt w e) hv hn⟩
      · exact h.snd _ u hj hu hr
    · exact h.snd j u hj hu hr
  · cases hc : c with
    | true => have := h.dec hc; omega
    | false => rw [← (h.same hc).1]; exact hlt
def DL (z : Int) (kk vv : Nat) (i k v : Nat) : Prop := z < (i : Int) ∨ (z = (i : Int) ∧ (k < kk ∨ (k = kk ∧ v < vv)))
structure LH (ts : List Int) (pts : List Pnt) (R : List (List Bool)) (c : Bool) : Prop where
  lo : R.length = pts.length
  ro : ∀ i, i < pts.length → R[i]!.length = ts.length
  snd : ∀ i v, i < pts.length → v < ts.length → R[i]![v]! = true → Lv ts pts i v
  cl : c = false → ∀ i k v, i < pts.length → k < pts[i]!.next.length → v < ts.length → needL ts pts R (pts[i]!.next[k]!).toNat v = true → R[i]![v]! = true
theorem LH.start {ts : List Int} {pts : List Pnt} {R : List (List Bool)} {c : Bool} (h : LH ts pts R c) : LS ts pts R R false (DL ((pts.length : Int) - 1) 0 0) :=
  ⟨h.lo, h.ro, h.snd, fun hc => (by cases hc), fun _ => ⟨rfl, fun i k v hi hk hv hd _ => by unfold DL at hd; omega⟩⟩
def muL (nv N : Nat) (R : List (List Bool)) (c : Bool) : Nat := 2 * fcR nv N R + (if c = true then 1 else 0)
theorem LS.fin {ts : List Int} {pts : List Pnt} {R0 R : List (List Bool)} {c : Bool} {z : Int} (hz : z < 0) (h : LS ts pts R0 R c (DL z 0 0)) : LH ts pts R c ∧ muL ts.length pts.length R c < muL ts.length pts.length R0 true := by
  refine ⟨⟨h.lo, h.ro, h.snd, fun hc i k v hi hk hv => (h.same hc).2 i k v hi hk hv (.inl (by omega))⟩, ?_⟩
  unfold muL
  cases hc : c with
  | true => have := h.dec hc; simp only [if_true]; omega
  | false => rw [(h.same hc).1]; simp
end Go.AL
