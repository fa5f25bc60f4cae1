/-
 A part of the proofs over this program: rules and contracts of its functions (the contracts).
-/
import Derived.Test.YtckihjkcgfphmaaGreatP1B05
set_option linter.unusedVariables false
set_option linter.unusedSimpArgs false
set_option maxHeartbeats 8000000
set_option maxRecDepth 4000
attribute [local irreducible] Go.AL.RW Go.AL.AW Go.AL.Stop
namespace Go.Proofs.YtckihjkcgfphmaaGreat
open Go.AL Go.RowKit
theorem Le.bump {ts : List (Nat × AV)} {hs : List (Nat × Option (List AV))} {n : Nat} {z0 : Lo} (k : Nat) : Le ⟨ts, hs, n, z0⟩ ⟨ts, hs, n + k, z0⟩ := Le.of (fun _ _ h => h) (fun _ _ h => h) (Nat.le_add_right _ _) rfl
theorem wF {m : List Cl} {N : Nat} {Q : Exit → AS → Prop} {all : Array Oper} {rest : List Oper} {tsl : List (Nat × AV)} {hsl : List (Nat × Option (List AV))} {nidl : Nat} {z0 : Lo} {md : Md} {d : Nat} {ty : TypeId} {pos : String} {af : Array Edge} {tys : Array TypeId} {x0 : Operand} (ha0 : ev (lk tsl) x0 = some (sl c8 m)) (hmc : MC Tryz.prog 228 [sl c8 m] [] 0 (fun _ : Unit => True) (fun _ => .own 1 0 m.length 4) (fun _ => [(1, some (aJ c8 m))])) (hM : Nat.ble (nidl + 2) eX = true) (hN : Nat.blt d N = true) {md' : Md} [hmd : MdA md (gJ [x0] ++ []) (List.map Sum.inr (List.map Prod.fst ([((nidl + 1), some (aJ c8 m))] : List (Nat × Option (List AV)))) ++ [.inl d]) md'] (kk : RW Tryz.prog N all Q md' rest ⟨(d, .own (nidl + 1) 0 m.length 4) :: tsl, iJ hsl [((nidl + 1), some (aJ c8 m))], nidl + 2, z0⟩) : RW Tryz.prog N all Q md (⟨some d, .call ⟨.value (.func 228), #[x0], tys⟩, ty, pos, af, none⟩ :: rest) ⟨tsl, hsl, nidl, z0⟩ := by
 refine cJ [] 2 [((nidl + 1), some (aJ c8 m))] hmc (avs := [sl c8 m]) ?_ rfl ?_ rfl ?_ (by simpa using hM) ?_ ?_ ?_ hN (md' := md') (hmd := hmd) kk
 ·show evL (lk tsl) [x0] = _
  simp only [evL, ha0]
 ·exact trivial
 ·(repeat' (exact RnL.purI inferInstance))
 ·(repeat' (exact RnV.own rfl))
 ·simp [dJ]
 ·(repeat' (first|exact trivial|(refine And.intro ⟨1, _, rfl, rfl, ?_⟩ ?_)|exact RnL.purI inferInstance))
theorem AG (m : List Cl) (hl : m.length ≤ 1000000) : MC Tryz.prog 228 [sl c8 m] [] 0 (fun _ : Unit => True) (fun _ => .own 1 0 m.length 4) (fun _ => [(1, some (aJ c8 m))]) := by
 (refine cA Tryz.func228 rfl (by simp [Tryz.ntmps228]) ?_; rw [Tryz.ntmps228])
 repeat' (first|(apply aL;first|(apply A9;rfl;rfl;(intro b hb))|(apply aE;rfl;rfl)|(apply aC;rfl;rfl)|(apply bY;rfl;rfl;rfl;rfl;rfl;(case hl => (simp [aU]; done));(exact iN (by (rfl)));omega;omega;(exact e7 (by (omega)));rfl;rfl)|(apply aF;kernel_rfl)|(apply bX;rfl;rfl;rfl;(rfl);rfl;rfl))|(apply aM;first|apply aH|apply aB|(apply aP;rfl;all_goals intro hc;have hq:=hc;(try simp only [cH] at hq);try exfalso;omega)|apply aR|apply aQ)|with_reducible apply aA|with_reducible apply bD)
 ·have h0 : m = [] := List.eq_nil_of_length_eq_zero (hb (by assumption))
  subst h0
  refine cE (Le.bump 1) ?_
  refine cE (Le.nilOwn (d := 2) 4 rfl (by decide)) ?_
  (refine aO rfl ?_; refine bW () trivial ?_ ⟨.inr (Eq.trans (b := some _) rfl ?_), trivial⟩)
  ·rfl
  ·rfl
 ·(refine aO rfl ?_; refine bW () trivial ?_ ⟨.inr (Eq.trans (b := some _) rfl ?_), trivial⟩)
  ·show AV.own 1 0 (0 + m.length) 4 = _; rw [Nat.zero_add]
  ·rfl
theorem pI {m : List Tg} {N : Nat} {Q : Exit → AS → Prop} {all : Array Oper} {rest : List Oper} {tsl : List (Nat × AV)} {hsl : List (Nat × Option (List AV))} {nidl : Nat} {z0 : Lo} {md : Md} {d : Nat} {ty : TypeId} {pos : String} {af : Array Edge} {tys : Array TypeId} {x0 : Operand} (ha0 : ev (lk tsl) x0 = some (sl dN m)) (hmc : MC Tryz.prog 229 [sl dN m] [] 0 (fun _ : Unit => True) (fun _ => .own 1 0 m.length 2) (fun _ => [(1, some (aJ dN m))])) (hM : Nat.ble (nidl + 2) eX = true) (hN : Nat.blt d N = true) {md' : Md} [hmd : MdA md (gJ [x0] ++ []) (List.map Sum.inr (List.map Prod.fst ([((nidl + 1), some (aJ dN m))] : List (Nat × Option (List AV)))) ++ [.inl d]) md'] (kk : RW Tryz.prog N all Q md' rest ⟨(d, .own (nidl + 1) 0 m.length 2) :: tsl, iJ hsl [((nidl + 1), some (aJ dN m))], nidl + 2, z0⟩) : RW Tryz.prog N all Q md (⟨some d, .call ⟨.value (.func 229), #[x0], tys⟩, ty, pos, af, none⟩ :: rest) ⟨tsl, hsl, nidl, z0⟩ := by
 refine cJ [] 2 [((nidl + 1), some (aJ dN m))] hmc (avs := [sl dN m]) ?_ rfl ?_ rfl ?_ (by simpa using hM) ?_ ?_ ?_ hN (md' := md') (hmd := hmd) kk
 ·show evL (lk tsl) [x0] = _
  simp only [evL, ha0]
 ·exact trivial
 ·(repeat' (exact RnL.purI inferInstance))
 ·(repeat' (exact RnV.own rfl))
 ·simp [dJ]
 ·(repeat' (first|exact trivial|(refine And.intro ⟨1, _, rfl, rfl, ?_⟩ ?_)|exact RnL.purI inferInstance))
theorem zK (m : List Tg) (hl : m.length ≤ 1000000) : MC Tryz.prog 229 [sl dN m] [] 0 (fun _ : Unit => True) (fun _ => .own 1 0 m.length 2) (fun _ => [(1, some (aJ dN m))]) := by
 (refine cA Tryz.func229 rfl (by simp [Tryz.ntmps229]) ?_; rw [Tryz.ntmps229])
 repeat' (first|(apply aL;first|(apply A9;rfl;rfl;(intro b hb))|(apply aE;rfl;rfl)|(apply aC;rfl;rfl)|(apply bY;rfl;rfl;rfl;rfl;rfl;(case hl => (simp [aU]; done));(exact iN (by (rfl)));omega;omega;(exact e7 (by (omega)));rfl;rfl)|(apply aF;kernel_rfl)|(apply bX;rfl;rfl;rfl;(rfl);rfl;rfl))|(apply aM;first|apply aH|apply aB|(apply aP;rfl;all_goals intro hc;have hq:=hc;(try simp only [cH] at hq);try exfalso;omega)|apply aR|apply aQ)|with_reducible apply aA|with_reducible apply bD)
 ·have h0 : m = [] := List.eq_nil_of_length_eq_zero (hb (by assumption))
  subst h0
  refine cE (Le.bump 1) ?_
  refine cE (Le.nilOwn (d := 2) 2 rfl (by decide)) ?_
  (refine aO rfl ?_; refine bW () trivial ?_ ⟨.inr (Eq.trans (b := some _) rfl ?_), trivial⟩)
  ·rfl
  ·rfl
 ·(refine aO rfl ?_; refine bW () trivial ?_ ⟨.inr (Eq.trans (b := some _) rfl ?_), trivial⟩)
  ·show AV.own 1 0 (0 + m.length) 2 = _; rw [Nat.zero_add]
  ·rfl
theorem FN (t : Tg) (c g : Int) : PC Tryz.prog 231 [My t, .iptr [iv c, iv g]] (fun r => r = bv (decide (t.id = g))) := by
 (refine aS Tryz.func231 rfl (by simp [Tryz.ntmps231]) ?_; rw [Tryz.ntmps231])
 repeat' (first|(apply aL;first|(apply aN;rfl;rfl;rfl;rfl)|(apply aD;rfl;rfl;rfl)|(apply aT;rfl;rfl;rfl;rfl)|(apply aC;rfl;rfl)|(apply aF;kernel_rfl)|(apply bQ;rfl;rfl;rfl;rfl))|(apply aM;first|apply aH|apply aB|apply aQ)|with_reducible apply aA)
 exact aO rfl ⟨rfl, rfl⟩
theorem yX (t : Tg) : PC Tryz.prog 233 [My t] (fun r => r = bv t.uq) := by
 (refine aS Tryz.func233 rfl (by simp [Tryz.ntmps233]) ?_; rw [Tryz.ntmps233])
 repeat' (first|(apply aL;first|(apply aN;rfl;rfl;rfl;rfl)|(apply aD;rfl;rfl;rfl)|(apply aC;rfl;rfl)|(apply aF;kernel_rfl)|(apply bQ;rfl;rfl;rfl;rfl))|(apply aM;first|apply aH|apply aB|apply aQ)|with_reducible apply aA)
 exact aO rfl ⟨rfl, rfl⟩
theorem xF (stk : List Tg) (c g : Int) (hl : stk.length ≤ 1000000) : PC Tryz.prog 230 [sl dN stk, .clos (.func 231) [] [.iptr [iv c, iv g]]] (fun r => r = iv (dE stk g)) := by
 (refine aS Tryz.func230 rfl (by simp [Tryz.ntmps230]) ?_; rw [Tryz.ntmps230])
 repeat' (first|(apply aL;first|(apply aE;rfl;rfl)|(apply aC;rfl;rfl)|(apply bF;rfl;rfl;rfl)|(apply aF;kernel_rfl))|(apply aM;first|apply aH|apply aB|apply aK)|with_reducible apply aA)
 refine bB (σ := Nat) [0, 1, 7] [(0, _), (1, _), (7, _)] [] [] (fun k => [(8, iv (k : Int))]) (fun k => []) (fun k => k ≤ stk.length ∧ ∀ j, j < k → stk[j]!.id ≠ g) (fun k => stk.length - k) (0) ⟨by omega, by omega⟩ rfl rfl (by repeat' (first|exact trivial|refine And.intro rfl ?_)) (by repeat' (exact trivial)) ?_
 rintro k ⟨hk, hall⟩
 by_cases hkn : k < stk.length
 ·have hcl := FN stk[k]! c g
  repeat' (first|(apply aL;first|(apply aE;rfl;rfl)|(apply aV;rfl;rfl;(exact (rfl:_=[_, _]));rfl;rfl;rfl)|(first|(apply bS;rfl;rfl;omega;rfl)|(apply aT;rfl;rfl;rfl;rfl))|(apply aC;rfl;rfl)|(apply aZ;(case hx|hi => rfl);(case hm => (assumption));(case hml => (rfl));(case hα | hf|hg => infer_instance);(case hN => rfl))|((with_reducible apply jS);(case hx|hcl => rfl);(case hc => infer_instance);(case ha => rfl);(case h => (apply hcl <;> (fail)));(case hp => (rfl));(case hN => rfl))|(apply aF;kernel_rfl))|(apply aM;first|apply aH|apply aB|(apply aP;rfl;all_goals intro hc;have hq:=hc;(try simp only [cH] at hq);try exfalso;omega)|apply aK|apply aR|apply aQ)|with_reducible apply aA|with_reducible apply bD|with_reducible apply aX|with_reducible apply cL)
  ·refine aO rfl ⟨?_, rfl⟩
   simp only [bV]; rw [w4 hkn (by assumption) hall]
  ·(apply dK (k + 1); focus (refine Le.ren [] rfl (by decide) ?_ ?_ <;> repeat' (first | exact trivial | refine And.intro ⟨_, rfl, ?_⟩ ?_ | refine Or.inl ⟨?_, (by first | rfl | exact aY _ _)⟩ | rfl)))
   ·refine ⟨by omega, fun j hj => ?_⟩
    by_cases e : j = k
    ·subst e;assumption
    ·exact hall j (by omega)
   ·omega
 ·repeat' (first | (apply aL; first | (apply aT;rfl;rfl;rfl;rfl) | (apply aC;rfl;rfl) | (apply aF;kernel_rfl)) | (apply aM; first | apply aH | apply aB | (apply aP;rfl;all_goals intro hc;have hq:=hc;(try simp only [cH] at hq);try exfalso;omega) | apply bJ | apply aQ) | with_reducible apply aA | with_reducible apply bO | with_reducible apply bK)
  refine aO rfl ⟨?_, rfl⟩
  have h2 : dE stk g < 0 := nA.2 (fun t ht => by obtain ⟨j, hj, rfl⟩ := List.getElem_of_mem ht;have := hall j (by omega);rwa [cT _ _ hj] at this)
  have hb := eZ stk g
  simp only [bV]; rw [show dE stk g = -1 by omega]
def qV (xs : List Tg) : Int := match xs.findIdx? (fun t => t.uq) with | some i => i | none => -1
theorem H7 (stk : List Tg) (hl : stk.length ≤ 1000000) : PC Tryz.prog 230 [sl dN stk, .v (.func (.func 233) #[] #[])] (fun r => r = iv (qV stk)) := by
 (refine aS Tryz.func230 rfl (by simp [Tryz.ntmps230]) ?_; rw [Tryz.ntmps230])
 repeat' (first|(apply aL;first|(apply aE;rfl;rfl)|(apply aC;rfl;rfl)|(apply bF;rfl;rfl;rfl)|(apply aF;kernel_rfl))|(apply aM;first|apply aH|apply aB|apply aK)|with_reducible apply aA)
 refine bB (σ := Nat) [0, 1, 7] [(0, _), (1, _), (7, _)] [] [] (fun k => [(8, iv (k : Int))]) (fun k => []) (fun k => k ≤ stk.length ∧ ∀ j, j < k → stk[j]!.uq = false) (fun k => stk.length - k) (0) ⟨by omega, by omega⟩ rfl rfl (by repeat' (first|exact trivial|refine And.intro rfl ?_)) (by repeat' (exact trivial)) ?_
 rintro k ⟨hk, hall⟩
 by_cases hkn : k < stk.length
 ·have hcl := yX stk[k]!
  repeat' (first|(apply aL;first|(apply aE;rfl;rfl)|(apply aV;rfl;rfl;(exact (rfl:_=[_, _]));rfl;rfl;rfl)|(first|(apply bS;rfl;rfl;omega;rfl)|(apply aT;rfl;rfl;rfl;rfl))|(apply aC;rfl;rfl)|(apply aZ;(case hx|hi => rfl);(case hm => (assumption));(case hml => (rfl));(case hα | hf|hg => infer_instance);(case hN => rfl))|((with_reducible apply jS);(case hx|hcl => rfl);(case hc => infer_instance);(case ha => rfl);(case h => (apply hcl <;> (fail)));(case hp => (rfl));(case hN => rfl))|(apply aF;kernel_rfl))|(apply aM;first|apply aH|apply aB|(apply aP;rfl;all_goals intro hc;have hq:=hc;(try simp only [cH] at hq);try exfalso;omega)|apply aK|apply aR|apply aQ)|with_reducible apply aA|with_reducible apply bD|with_reducible apply aX|with_reducible apply cL)
  ·refine aO rfl ⟨?_, rfl⟩
   have hu : stk[k]!.uq = true := by assumption
   have : stk.findIdx? (fun t => t.uq) = some k := by
    rw [List.findIdx?_eq_some_iff_getElem]
    refine ⟨hkn, by rw [← cT stk k hkn]; exact hu, fun j hj => ?_⟩
    have := hall j hj;rw [cT stk j (by omega)] at this;rw [this]; decide
   simp only [bV, qV, this]
  ·have hu : stk[k]!.uq = false := by assumption
   (apply dK (k + 1);focus (refine Le.ren [] rfl (by decide) ?_ ?_ <;> repeat' (first|exact trivial|refine And.intro ⟨_, rfl, ?_⟩ ?_|refine Or.inl ⟨?_, (by first|rfl|exact aY _ _)⟩|rfl)))
   ·refine ⟨by omega, fun j hj => ?_⟩
    by_cases e : j = k
    ·subst e;exact hu
    ·exact hall j (by omega)
   ·omega
 ·repeat' (first | (apply aL; first | (apply aT;rfl;rfl;rfl;rfl) | (apply aC;rfl;rfl) | (apply aF;kernel_rfl)) | (apply aM; first | apply aH | apply aB | (apply aP;rfl;all_goals intro hc;have hq:=hc;(try simp only [cH] at hq);try exfalso;omega) | apply bJ | apply aQ) | with_reducible apply aA | with_reducible apply bO | with_reducible apply bK)
  refine aO rfl ⟨?_, rfl⟩
  have : stk.findIdx? (fun t => t.uq) = none := by
   rw [List.findIdx?_eq_none_iff]
   intro x hx
   obtain ⟨j, hj, rfl⟩ := List.getElem_of_mem hx
   have := hall j (by omega);rw [cT stk j hj] at this;exact this
  simp only [bV, qV, this]
theorem Ma {xs : List Tg} {k : Nat} {a : Int} {b : Bool} (hk : k < xs.length) : iR (aJ dN xs) (0 + k * 2) [iv a, bv b] = aJ dN (xs.set k ⟨a, b⟩) := lZ hk rfl
theorem Hg {cs new : List AV} {k : Nat} (h : k ≤ cs.length) : (iR cs (0 + k) new).take k = cs.take k := by
 unfold iR
 rw [Nat.zero_add, List.append_assoc, List.take_left' (by rw [List.length_take]; omega)]
def shr (xs : List Tg) : List Tg := xs.filter (fun t => !t.uq)
theorem DI {xs : List Tg} (h : qV xs = -1) : shr xs = xs := by
 unfold qV at h
 split at h
 ·omega
 ·rename_i hn
  rw [List.findIdx?_eq_none_iff] at hn
  unfold shr
  rw [List.filter_eq_self]
  intro t ht
  have := hn t ht
  simp [this]
theorem Ea {xs : List Tg} {i : Nat} (h : qV xs = (i : Int)) : i < xs.length ∧ xs[i]!.uq = true ∧ shr (xs.take (i + 1)) = xs.take i := by
 unfold qV at h
 split at h
 ·rename_i k hk
  obtain ⟨h1, h2, h3⟩ := List.findIdx?_eq_some_iff_getElem.1 hk
  have e : k = i := by omega
  subst e
  have hs : shr (xs.take k) = xs.take k := by
   unfold shr
   rw [List.filter_eq_self]
   intro t ht
   obtain ⟨j, hj, rfl⟩ := List.getElem_of_mem ht
   rw [List.length_take] at hj
   have := h3 j (by omega)
   rw [List.getElem_take]; simpa using this
  refine ⟨h1, by rw [cT _ _ h1]; exact h2, ?_⟩
  rw [c7 xs k h1]
  unfold shr at hs ⊢
  rw [List.filter_append, hs, mR (by rw [cT _ _ h1, h2]; rfl), List.append_nil]
 ·omega
theorem It (xs : List Tg) : -1 ≤ qV xs ∧ qV xs < xs.length := by
 unfold qV
 split
 ·rename_i k hk
  obtain ⟨h1, _⟩ := List.findIdx?_eq_some_iff_getElem.1 hk
  omega
 ·omega
theorem HC {xs : List Tg} {j : Nat} (hj : j < xs.length) (h : xs[j]!.uq = false) : shr (xs.take (j + 1)) = shr (xs.take j) ++ [xs[j]!] := by
 rw [c7 xs j hj]; unfold shr
 rw [List.filter_append, pN (by rw [h]; rfl)]
theorem G6 {xs : List Tg} {j : Nat} (hj : j < xs.length) (h : xs[j]!.uq = true) : shr (xs.take (j + 1)) = shr (xs.take j) := by
 rw [c7 xs j hj]; unfold shr
 rw [List.filter_append, mR (by rw [h]; rfl), List.append_nil]
theorem Hk {α : Type} [Inhabited α] {L : List α} {i : Nat} {x : α} (h : i < L.length) : (L.set i x).take (i + 1) = L.take i ++ [x] := by
 rw [List.set_eq_take_append_cons_drop, if_pos h]
 have h1 : (L.take i).length = i := by rw [List.length_take]; omega
 rw [List.take_append, h1, show i + 1 - i = 1 by omega, List.take_of_length_le (by omega)]
 rfl
theorem Fw {α : Type} [Inhabited α] {L M : List α} {j : Nat} (h : L.drop j = M.drop j) (hl : L.length = M.length) (hj : j < M.length) : L[j]! = M[j]! := by
 rw [cT _ _ (by omega), cT _ _ hj]
 rw [List.drop_eq_getElem_cons (by omega : j < L.length), List.drop_eq_getElem_cons hj] at h
 exact (List.cons.inj h).1
theorem sO {α : Type} {L M : List α} {j : Nat} (h : L.drop j = M.drop j) : L.drop (j + 1) = M.drop (j + 1) := by
 rw [← List.drop_drop, h, List.drop_drop]
theorem I1 {xs : List Tg} {m : Nat} {N : Nat} {Q : Exit → AS → Prop} {all : Array Oper} {rest : List Oper} {tsl : List (Nat × AV)} {hsl : List (Nat × Option (List AV))} {nidl : Nat} {z0 : Lo} {md : Md} {d : Nat} {ty : TypeId} {pos : String} {af : Array Edge} {tys : Array TypeId} {x0 x1 : Operand} {i0 : Nat} (ha0 : ev (lk tsl) x0 = some (.own i0 0 m 2)) (ha1 : ev (lk tsl) x1 = some (.v (.func (.func 233) #[] #[]))) (hH0 : cQ hsl i0 = some (aJ dN xs)) (hmc : MC Tryz.prog 232 [.own 0 0 m 2, .v (.func (.func 233) #[] #[])] [(0, some (aJ dN xs))] 1 (fun _ : Unit => True) (fun _ => .own 0 0 (shr xs).length 2) (fun _ => [(0, some (aJ dN (shr xs)))])) (hM : Nat.ble (nidl + 0) eX = true) (hN : Nat.blt d N = true) {md' : Md} [hmd : MdA md (gJ [x0, x1] ++ [.inr i0]) (List.map Sum.inr (List.map Prod.fst ([(i0, some (aJ dN (shr xs)))] : List (Nat × Option (List AV)))) ++ [.inl d]) md'] (kk : RW Tryz.prog N all Q md' rest ⟨(d, .own i0 0 (shr xs).length 2) :: tsl, iJ hsl [(i0, some (aJ dN (shr xs)))], nidl + 0, z0⟩) : RW Tryz.prog N all Q md (⟨some d, .call ⟨.value (.func 232), #[x0, x1], tys⟩, ty, pos, af, none⟩ :: rest) ⟨tsl, hsl, nidl, z0⟩ := by
 refine cJ [i0] 1 [(i0, some (aJ dN (shr xs)))] hmc (avs := [.own i0 0 m 2, .v (.func (.func 233) #[] #[])]) ?_ rfl ?_ rfl ?_ (by simpa using hM) ?_ ?_ ?_ hN (md' := md') (hmd := hmd) kk
 ·show evL (lk tsl) [x0, x1] = _
  simp only [evL, ha0, ha1]
 ·exact ⟨⟨_, _, rfl, hH0, by (repeat' (exact RnL.purI inferInstance))⟩, trivial⟩
 ·(repeat' (first|exact RnL.purI inferInstance|exact RnV.own rfl|refine RnL.cons ?_ ?_))
 ·(repeat' (exact RnV.own rfl))
 ·simp [dJ]
 ·(repeat' (first|exact trivial|(refine And.intro ⟨0, _, rfl, rfl, ?_⟩ ?_)|exact RnL.purI inferInstance))
theorem Ko (xs : List Tg) (m : Nat) (hm : m = xs.length) (hl : m ≤ 1000000) : MC Tryz.prog 232 [.own 0 0 m 2, .v (.func (.func 233) #[] #[])] [(0, some (aJ dN xs))] 1 (fun _ : Unit => True) (fun _ => .own 0 0 (shr xs).length 2) (fun _ => [(0, some (aJ dN (shr xs)))]) := by
 subst hm
 have hix := H7 xs hl
 have hbd := It xs
 by_cases hn : qV xs = -1
 ·rw [hn] at hix
  have hs := DI hn
  (refine cA Tryz.func232 rfl (by simp [Tryz.ntmps232]) ?_; rw [Tryz.ntmps232])
  repeat' (first|(apply aL;first|((with_reducible apply o4 (k := 230));(case ha => rfl);(case hl => (repeat' (first|exact m7|apply lE|exact xX|exact mV rfl inferInstance)));(case h => exact hix);(case hfr|hN => rfl);(case hmd => infer_instance))|(apply aE;rfl;rfl)|(apply aT;rfl;rfl;rfl;rfl)|(apply aC;rfl;rfl)|(apply aF;kernel_rfl))|(apply aM;first|apply aH|apply aB|(apply b8;rfl;(rfl))|apply aQ)|with_reducible apply aA|with_reducible apply bD)
  all_goals (
   (refine aO rfl ?_; refine bW () trivial ?_ ⟨.inr (Eq.trans (b := some _) rfl ?_), trivial⟩)
   ·rw [hs]; rfl
   ·rw [hs])
 ·obtain ⟨i0, hi0⟩ := Int.eq_ofNat_of_zero_le (show 0 ≤ qV xs by omega)
  obtain ⟨g1, g2, g3⟩ := Ea hi0
  rw [hi0] at hix
  (refine cA Tryz.func232 rfl (by simp [Tryz.ntmps232]) ?_; rw [Tryz.ntmps232])
  repeat' (first|(apply aL;first|((with_reducible apply o4 (k := 230));(case ha => rfl);(case hl => (repeat' (first|exact m7|apply lE|exact xX|exact mV rfl inferInstance)));(case h => exact hix);(case hfr|hN => rfl);(case hmd => infer_instance))|(apply aE;rfl;rfl)|(first|(apply bS;rfl;rfl;omega;rfl)|(apply aT;rfl;rfl;rfl;rfl))|(apply aC;rfl;rfl)|(apply aF;kernel_rfl))|(apply aM;first|apply aH|apply aB|(apply cF;rfl;(rfl))|apply aK|apply aR)|with_reducible apply aA)
  all_goals (try (exfalso;omega))
  refine bB (σ := List Tg × Nat × Nat) [0, 1] [(0, _), (1, _)] [] [] (fun s => [(5, iv (s.2.1 : Int)), (6, iv (s.2.2 : Int))]) (fun s => [(0, some (aJ dN s.1))]) (fun s => s.1.length = xs.length ∧ s.1.take s.2.1 = shr (xs.take s.2.2) ∧ s.1.drop s.2.2 = xs.drop s.2.2 ∧ s.2.1 < s.2.2 ∧ s.2.2 ≤ xs.length) (fun s => xs.length - s.2.2) (xs, i0, i0 + 1) ⟨rfl, g3.symm, rfl, by dsimp only;omega, by dsimp only;omega⟩ rfl rfl (by repeat' (first|exact trivial|refine And.intro rfl ?_)) (by repeat' (first|exact trivial|refine And.intro (.inr rfl) ?_)) ?_
  rintro ⟨L, i, j⟩ ⟨hL, ht, hd, hij, hj⟩
  dsimp only at hL ht hd hij hj ⊢
  by_cases hjn : j < xs.length
  ·have hcl := yX L[j]!
   have hg := Fw hd hL hjn
   repeat' (first|(apply aL;first|(apply aE;rfl;rfl)|(first|(apply gR;(case hx|hH => rfl);(case hf|hg|hα => infer_instance);(case hk => omega);(case h0|hN => rfl))|(apply aV;rfl;rfl;(exact (rfl:_=[_, _]));rfl;rfl;rfl))|(first|(apply bS;rfl;rfl;omega;rfl)|(apply aT;rfl;rfl;rfl;rfl))|(apply aC;rfl;rfl)|(apply cP;rfl;rfl;(first|assumption|omega);rfl)|(apply bF;rfl;rfl;rfl)|((with_reducible apply jS);(case hx|hcl => rfl);(case hc => infer_instance);(case ha => rfl);(case h => (apply hcl <;> (fail)));(case hp => (rfl));(case hN => rfl))|(apply aF;kernel_rfl)|(apply cG;rfl;rfl)|(apply bE;rfl;rfl)|(apply aW;rfl;rfl;rfl;rfl;rfl;(case hl => (first|(rw [aU]; simp only [fY] <;> omega)|(simp;done)));(first|exact Ma (by (first|assumption|omega))|exact (rfl:_=[_, _]))))|(apply aM;first|apply aH|apply aB|(apply aP;rfl;all_goals intro hc;have hq:=hc;(try simp only [cH] at hq);try exfalso;omega)|apply aK|apply aR)|with_reducible apply aA|with_reducible apply aX)
   ·have hu : L[j]!.uq = false := by assumption
    (apply dK (_, i + 1, j + 1);focus (refine Le.ren [] rfl (by decide) ?_ ?_ <;> repeat' (first|exact trivial|refine And.intro ⟨_, rfl, ?_⟩ ?_|refine And.intro ⟨_, _, rfl, rfl, ?_⟩ ?_|exact Or.inr rfl|refine Or.inl ⟨?_, (by first|rfl|exact aY _ _)⟩|rfl)))
    ·refine ⟨by dsimp only; rw [List.length_set]; exact hL, ?_, ?_, by dsimp only; omega, by dsimp only; omega⟩
     ·dsimp only
      rw [Hk (by omega), ht, HC hjn (by rw [← hg]; exact hu), hg]
     ·dsimp only
      rw [List.drop_set_of_lt (by omega)]
      exact sO hd
    ·dsimp only;omega
   ·have hu : L[j]!.uq = true := by assumption
    (apply dK (L, i, j + 1);focus (refine Le.ren [] rfl (by decide) ?_ ?_ <;> repeat' (first|exact trivial|refine And.intro ⟨_, rfl, ?_⟩ ?_|refine And.intro ⟨_, _, rfl, rfl, ?_⟩ ?_|exact Or.inr rfl|refine Or.inl ⟨?_, (by first|rfl|exact aY _ _)⟩|rfl)))
    ·refine ⟨hL, ?_, sO hd, by dsimp only; omega, by dsimp only; omega⟩
     dsimp only
     rw [ht, G6 hjn (by rw [← hg]; exact hu)]
    ·dsimp only;omega
  ·have hfl : (aJ dN L).length = L.length * 2 := aU dN L
   repeat' (first|(apply aL;first|((apply hG (d := 38) (l := i) (h := xs.length));(case hx|hn => rfl);(case hl => exact pP rfl (by omega));(case hh => rfl);(case hp => exact if_pos (by omega));(case hN => rfl))|((apply hG (d := 41) (l := 0) (h := i));(case hx|hn|hl => rfl);(case hh => exact pP rfl (by omega));(case hp => exact if_pos (by omega));(case hN => rfl))|(apply GD;rfl;rfl;omega;rfl;(rw [hfl]; omega);rfl)|(apply aE;rfl;rfl)|(apply aT;rfl;rfl;rfl;rfl)|(apply aC;rfl;rfl)|(apply bF;rfl;rfl;rfl)|(apply aF;kernel_rfl))|(apply aM;first|apply aH|apply aB|(apply aP;rfl;all_goals intro hc;have hq:=hc;(try simp only [cH] at hq);try exfalso;omega)|apply bJ|apply aQ)|with_reducible apply aA|with_reducible apply bO|with_reducible apply bK)
   refine cE (Le.cut (i := 0) (i * 2) rfl) ?_
   have hje : j = xs.length := by omega
   have hLt : L.take i = shr xs := by rw [ht, hje, List.take_length]
   have hil : (shr xs).length = i := by rw [← hLt, List.length_take]; omega
   (refine aO rfl ?_; refine bW () trivial ?_ ⟨.inr (Eq.trans (b := some _) rfl ?_), trivial⟩)
   ·show AV.own 0 (0 + 0 * 2) (i - 0) 2 = _
    rw [hil]; rfl
   ·rw [Hg (by omega), fA dN (e := 2), hLt]
theorem iO {m : List Cl} {N : Nat} {Q : Exit → AS → Prop} {all : Array Oper} {rest : List Oper} {tsl : List (Nat × AV)} {hsl : List (Nat × Option (List AV))} {nidl : Nat} {z0 : Lo} {md : Md} {d : Nat} {ty : TypeId} {pos : String} {af : Array Edge} {tys : Array TypeId} {x0 : Operand} (ha0 : ev (lk tsl) x0 = some (sl c8 m)) (hmc : MC Tryz.prog 186 [sl c8 m] [] 0 (fun _ : Unit => True) (fun _ => .own 1 0 m.length 4) (fun _ => [(1, some (aJ c8 m))])) (hM : Nat.ble (nidl + 2) eX = true) (hN : Nat.blt d N = true) {md' : Md} [hmd : MdA md (gJ [x0] ++ []) (List.map Sum.inr (List.map Prod.fst ([((nidl + 1), some (aJ c8 m))] : List (Nat × Option (List AV)))) ++ [.inl d]) md'] (kk : RW Tryz.prog N all Q md' rest ⟨(d, .own (nidl + 1) 0 m.length 4) :: tsl, iJ hsl [((nidl + 1), some (aJ c8 m))], nidl + 2, z0⟩) : RW Tryz.prog N all Q md (⟨some d, .call ⟨.value (.func 186), #[x0], tys⟩, ty, pos, af, none⟩ :: rest) ⟨tsl, hsl, nidl, z0⟩ := by
 refine cJ [] 2 [((nidl + 1), some (aJ c8 m))] hmc (avs := [sl c8 m]) ?_ rfl ?_ rfl ?_ (by simpa using hM) ?_ ?_ ?_ hN (md' := md') (hmd := hmd) kk
 ·show evL (lk tsl) [x0] = _
  simp only [evL, ha0]
 ·exact trivial
 ·(repeat' (exact RnL.purI inferInstance))
 ·(repeat' (exact RnV.own rfl))
 ·simp [dJ]
 ·(repeat' (first|exact trivial|(refine And.intro ⟨1, _, rfl, rfl, ?_⟩ ?_)|exact RnL.purI inferInstance))
theorem oM {m : List Cl} {j : Nat} {N : Nat} {Q : Exit → AS → Prop} {all : Array Oper} {rest : List Oper} {tsl : List (Nat × AV)} {hsl : List (Nat × Option (List AV))} {nidl : Nat} {z0 : Lo} {md : Md} {d : Nat} {ty : TypeId} {pos : String} {af : Array Edge} {tys : Array TypeId} {x0 : Operand} (ha0 : ev (lk tsl) x0 = some (sl c8 m)) (hmc : MC Tryz.prog 186 [sl c8 m] [] 0 (fun _ : Unit => True) (fun _ => .own 1 0 m.length 4) (fun _ => [(1, some (aJ fR (eF m j (.own 2 0 m[j]!.stk.length 2)))), (2, some (aJ dN m[j]!.stk))])) (hM : Nat.ble (nidl + 3) eX = true) (hN : Nat.blt d N = true) {md' : Md} [hmd : MdA md (gJ [x0] ++ []) (List.map Sum.inr (List.map Prod.fst ([((nidl + 1), some (aJ fR (eF m j (.own (nidl + 2) 0 m[j]!.stk.length 2)))), ((nidl + 2), some (aJ dN m[j]!.stk))] : List (Nat × Option (List AV)))) ++ [.inl d]) md'] (kk : RW Tryz.prog N all Q md' rest ⟨(d, .own (nidl + 1) 0 m.length 4) :: tsl, iJ hsl [((nidl + 1), some (aJ fR (eF m j (.own (nidl + 2) 0 m[j]!.stk.length 2)))), ((nidl + 2), some (aJ dN m[j]!.stk))], nidl + 3, z0⟩) : RW Tryz.prog N all Q md (⟨some d, .call ⟨.value (.func 186), #[x0], tys⟩, ty, pos, af, none⟩ :: rest) ⟨tsl, hsl, nidl, z0⟩ := by
 refine cJ [] 3 [((nidl + 1), some (aJ fR (eF m j (.own (nidl + 2) 0 m[j]!.stk.length 2)))), ((nidl + 2), some (aJ dN m[j]!.stk))] hmc (avs := [sl c8 m]) ?_ rfl ?_ rfl ?_ (by simpa using hM) ?_ ?_ ?_ hN (md' := md') (hmd := hmd) kk
 ·show evL (lk tsl) [x0] = _
  simp only [evL, ha0]
 ·exact trivial
 ·(repeat' (exact RnL.purI inferInstance))
 ·(repeat' (exact RnV.own rfl))
 ·simp [dJ]
 ·(repeat' (first|exact trivial|(refine And.intro ⟨1, _, rfl, rfl, ?_⟩ ?_)|(refine And.intro ⟨2, _, rfl, rfl, ?_⟩ ?_)|exact RnL.purI inferInstance|exact kL rfl))
theorem mB {α : Type} [Inhabited α] (l : List α) (k : Nat) : l.set k l[k]! = l := by
 rcases Nat.lt_or_ge k l.length with h|h
 ·rw [cT _ _ h]; simp
 ·exact List.set_eq_of_length_le h
theorem CO {m : List Cl} {i : Nat} (hi : i < m.length) : iR (aJ c8 m) (0 + i * 4 + 3) [sl dN m[i]!.stk] = aJ c8 m := by
 have h := BM (xs := m) (k := i) (s := m[i]!.stk) hi
 rw [show m.set i { m[i]! with stk := m[i]!.stk } = m from mB m i] at h
 exact h
theorem BY {m : List Cl} {i j : Nat} {X : AV} (hi : i < m.length) (h : i ≠ j) : (eF m j X)[i]! = qS m[i]! := by
 unfold eF
 rw [cT _ _ (by rw [List.length_set, List.length_map]; exact hi), List.getElem_set_ne (fun e => h e.symm), List.getElem_map, cT _ _ hi]
theorem Jn {m : List Cl} {i j : Nat} {X : AV} (h : i < m.length ∧ i ≠ j) : iR (aJ fR (eF m j X)) (0 + i * 4 + 3) [sl dN m[i]!.stk] = aJ fR (eF m j X) := by
 have hl := eB (m := m) (j := j) (X := X)
 have e : (eF m j X).set i { (eF m j X)[i]! with av := sl dN m[i]!.stk } = eF m j X := by
  rw [BY h.1 h.2]
  have : ({ qS m[i]! with av := sl dN m[i]!.stk } : Co) = (eF m j X)[i]! := by rw [BY h.1 h.2]; rfl
  rw [this]; exact mB _ _
 rw [← e]
 have := fG (f := fR) (xs := eF m j X) (k := i) (j := 3) (new := [sl dN m[i]!.stk]) (y := { (eF m j X)[i]! with av := sl dN m[i]!.stk }) (by rw [hl]; exact h.1) (by simp) rfl
 rw [e] at this ⊢
 exact this
theorem oL {mp : List (Nat × Nat)} {lo : Lo} : ∀ {cs : List AV}, dC cs = true → All2 (D4 mp lo) cs cs
 | [], _ => .nil
 | c :: cs, h => by
  simp only [dC, Bool.and_eq_true] at h
  exact .cons (.inl ⟨rfl, h.1⟩) (oL h.2)
theorem sD {α β : Type} {R : α → β → Prop} : ∀ {a : List α} {b : List β} {c : List α} {d : List β}, All2 R a b → All2 R c d → All2 R (a ++ c) (b ++ d)
 | _, _, _, _, .nil, h => h
 | _, _, _, _, .cons h1 h2, h => .cons h1 (sD h2 h)
theorem CE {mp : List (Nat × Nat)} {lo : Lo} {m : List Cl} {j k i i' : Nat} (h : j < m.length) (hr : KX mp lo (.own i 0 k 2) = some (.own i' 0 k 2)) : All2 (D4 mp lo) (aJ fR (eF m j (.own i 0 k 2))) (aJ fR (eF m j (.own i' 0 k 2))) := by
 rw [jU h, jU h]
 exact sD (oL (inferInstance : Pur (aJ c8 _)).pf) (sD (oL (inferInstance : Pur [iv _, bv _, iv _]).pf) (.cons (.inr hr) (oL (inferInstance : Pur (aJ c8 _)).pf)))
theorem kN (m : List Cl) (hm : OkM m) : MC Tryz.prog 186 [sl c8 m] [] 0 (fun _ : Unit => True) (fun _ => .own 1 0 m.length 4) (fun _ => [(1, some (aJ c8 m))]) := by
 have hml := hm.l
 have hcc := AG m (by omega)
 (refine cA Tryz.func186 rfl (by simp [Tryz.ntmps186]) ?_; rw [Tryz.ntmps186])
 repeat' (first|(apply aL;first|(apply wF;rfl;exact hcc;rfl;rfl)|(apply aE;rfl;rfl)|(apply aC;rfl;rfl)|(apply bF;rfl;rfl;rfl)|(apply aF;kernel_rfl))|(apply aM;first|apply aH|apply aB|apply aK)|with_reducible apply aA)
 refine bB (σ := Nat) [3, 8, 9] [(3, _), (8, _), (9, _)] [] [] (fun k => [(10, iv (k : Int))]) (fun k => [(1, some (aJ c8 m))]) (fun k => k ≤ m.length) (fun k => m.length - k) (0) (Nat.zero_le _) rfl rfl (by repeat' (first|exact trivial|refine And.intro rfl ?_)) (by repeat' (first|exact trivial|refine And.intro (.inr rfl) ?_)) ?_
 rintro i hi
 by_cases hin : i < m.length
 ·have hst : m[i]!.stk.length ≤ 200 := (((dX m).1 hm).2 i hin).l.2
  have hct := zK m[i]!.stk (by omega)
  repeat' (first|(apply aL;first|(apply pI;rfl;exact hct;rfl;rfl)|(with_reducible apply cS (d := 20))|(apply aE;rfl;rfl)|(first|(apply gR;(case hx|hH => rfl);(case hf|hg|hα => infer_instance);(case hk => omega);(case h0|hN => rfl))|(apply aN;rfl;rfl;rfl;rfl))|(apply aD;rfl;rfl;rfl)|(apply aT;rfl;rfl;rfl;rfl)|(apply aC;rfl;rfl)|(apply cP;rfl;rfl;(assumption);rfl)|(apply aF;kernel_rfl)|(apply bE;rfl;rfl)|(apply aW;rfl;rfl;rfl;rfl;rfl;(case hl => (simp;done));(exact (rfl:_=[_, _, _, _]))))|(apply aM;first|apply aH|apply aB|(apply aP;rfl;all_goals intro hc;have hq:=hc;(try simp only [cH] at hq);try exfalso;omega)|apply aK|apply aR)|with_reducible apply aA)
  refine dP (jH ?_ (Le.frzD (d := 19) (i := 4) rfl rfl))
  repeat' (first|(apply aL;first|(apply aE;rfl;rfl)|(apply aD;rfl;rfl;rfl)|(apply bS;rfl;rfl;omega;rfl)|(apply cP;rfl;rfl;(assumption);rfl)|(apply aF;kernel_rfl)|(apply aW;rfl;rfl;rfl;rfl;rfl;(rw [aU]; simp only [fY] <;> omega);(exact CO (by (assumption)))))|(apply aM;(apply aB))|with_reducible apply aA|with_reducible apply aX)
  (apply dK (i + 1);focus (refine Le.ren [(1, 1)] rfl (by decide) ?_ ?_ <;> repeat' (first|exact trivial|refine And.intro ⟨_, rfl, ?_⟩ ?_|refine And.intro ⟨_, _, rfl, rfl, ?_⟩ ?_|exact Or.inr rfl|refine Or.inl ⟨?_, (by first|rfl|exact aY _ _)⟩|rfl)))
  ·omega
  ·omega
 ·repeat' (first | (apply aL; first | (apply aE;rfl;rfl) | (apply aT;rfl;rfl;rfl;rfl) | (apply aC;rfl;rfl) | (apply aF;kernel_rfl)) | (apply aM; first | apply aH | apply aB | (apply aP;rfl;all_goals intro hc;have hq:=hc;(try simp only [cH] at hq);try exfalso;omega) | apply bJ | apply aQ) | with_reducible apply aA | with_reducible apply bO | with_reducible apply bK)
  (refine aO rfl ?_; refine bW () trivial ?_ ⟨.inr (Eq.trans (b := some _) rfl ?_), trivial⟩)
  ·rfl
  ·rfl
theorem uG (m : List Cl) (j : Nat) (hm : OkM m) (hj : j < m.length) : MC Tryz.prog 186 [sl c8 m] [] 0 (fun _ : Unit => True) (fun _ => .own 1 0 m.length 4) (fun _ => [(1, some (aJ fR (eF m j (.own 2 0 m[j]!.stk.length 2)))), (2, some (aJ dN m[j]!.stk))]) := by
 have hml := hm.l
 have hcc := AG m (by omega)
 (refine cA Tryz.func186 rfl (by simp [Tryz.ntmps186]) ?_; rw [Tryz.ntmps186])
 repeat' (first|(apply aL;first|(apply wF;rfl;exact hcc;rfl;rfl)|(apply aE;rfl;rfl)|(apply aC;rfl;rfl)|(apply bF;rfl;rfl;rfl)|(apply aF;kernel_rfl))|(apply aM;first|apply aH|apply aB|apply aK)|with_reducible apply aA)
 refine AW.le ?_ (Le.bump 1)
 refine bB (σ := Nat × Bool) [3, 8, 9] [(3, _), (8, _), (9, _)] [] [] (fun k => [(10, iv (k.1 : Int))]) (fun k => [(1, some (cond k.2 (aJ fR (eF m j (.own 2 0 m[j]!.stk.length 2))) (aJ c8 m))), (2, cond k.2 (some (aJ dN m[j]!.stk)) none)]) (fun k => k.1 ≤ m.length ∧ k.2 = decide (j < k.1)) (fun k => m.length - k.1) (0, false) ⟨Nat.zero_le _, by simp⟩ rfl rfl (by repeat' (first|exact trivial|refine And.intro rfl ?_)) (by repeat' (first|exact trivial|refine And.intro (.inr rfl) ?_)) ?_
 rintro ⟨i, b⟩ ⟨hi, hb⟩
 dsimp only at hi hb ⊢
 by_cases hin : i < m.length
 ·have hst : m[i]!.stk.length ≤ 200 := (((dX m).1 hm).2 i hin).l.2
  have hct := zK m[i]!.stk (by omega)
  by_cases hij : j < i
  ·rw [decide_eq_true hij] at hb; subst hb
   simp only [cond_true]
   have hol := eB (m := m) (j := j) (X := .own 2 0 m[j]!.stk.length 2)
   have hon := BY (m := m) (i := i) (j := j) (X := .own 2 0 m[j]!.stk.length 2) hin (by omega)
   repeat' (first|(apply aL;first|(with_reducible apply cS (d := 5))|(apply aE;rfl;rfl)|(apply gR;(case hx|hH => rfl);(case hf|hg|hα => infer_instance);(case hk => omega);(case h0|hN => rfl))|(apply aT;rfl;rfl;rfl;rfl)|(apply cP;rfl;rfl;(assumption);rfl)|(apply aF;kernel_rfl))|(apply aM;first|apply aH|apply aB|(apply aP;rfl;all_goals intro hc;have hq:=hc;(try simp only [cH] at hq);try exfalso;omega)|apply aK|apply aR)|with_reducible apply aA)
   refine dP ?_
   rw [hon]
   dsimp only [qS]
   repeat' (first|(apply aL;first|(apply pI;rfl;exact hct;rfl;rfl)|(with_reducible apply cS (d := 20))|(apply aE;rfl;rfl)|(apply aN;rfl;rfl;rfl;rfl)|(apply aD;rfl;rfl;rfl)|(apply aC;rfl;rfl)|(apply aF;kernel_rfl)|(apply bE;rfl;rfl)|(apply aW;rfl;rfl;rfl;rfl;rfl;(case hl => (simp;done));(exact (rfl:_=[_, _, _, _]))))|(apply aM;(apply aB))|with_reducible apply aA)
   refine dP (jH ?_ (Le.frzD (d := 19) (i := 5) rfl rfl))
   repeat' (first|(apply aL;first|(apply aE;rfl;rfl)|(apply aD;rfl;rfl;rfl)|(apply bS;rfl;rfl;omega;rfl)|(apply cP;rfl;rfl;(assumption);rfl)|(apply aF;kernel_rfl)|(apply aW;rfl;rfl;rfl;rfl;rfl;(rw [aU]; simp only [fY] <;> omega);(exact Jn (by (omega)))))|(apply aM;(apply aB))|with_reducible apply aA|with_reducible apply aX)
   (apply dK (i + 1, true);focus (refine Le.ren [(1, 1), (2, 2)] rfl (by decide) ?_ ?_ <;> repeat' (first|exact trivial|refine And.intro ⟨_, rfl, ?_⟩ ?_|refine And.intro ⟨_, _, rfl, rfl, ?_⟩ ?_|exact Or.inr rfl|refine Or.inl ⟨?_, (by first|rfl|exact aY _ _)⟩|rfl)))
   ·exact Or.inr (CE hj rfl)
   ·exact ⟨by dsimp only;omega, by dsimp only;rw [decide_eq_true (by omega)]⟩
   ·dsimp only;omega
  ·rw [decide_eq_false hij] at hb; subst hb
   simp only [cond_false]
   repeat' (first|(apply aL;first|(apply pI;rfl;exact hct;rfl;rfl)|(with_reducible apply cS (d := 20))|(apply aE;rfl;rfl)|(first|(apply gR;(case hx|hH => rfl);(case hf|hg|hα => infer_instance);(case hk => omega);(case h0|hN => rfl))|(apply aN;rfl;rfl;rfl;rfl))|(apply aD;rfl;rfl;rfl)|(apply aT;rfl;rfl;rfl;rfl)|(apply aC;rfl;rfl)|(apply cP;rfl;rfl;(assumption);rfl)|(apply aF;kernel_rfl)|(apply bE;rfl;rfl)|(apply aW;rfl;rfl;rfl;rfl;rfl;(case hl => (simp;done));(exact (rfl:_=[_, _, _, _]))))|(apply aM;first|apply aH|apply aB|(apply aP;rfl;all_goals intro hc;have hq:=hc;(try simp only [cH] at hq);try exfalso;omega)|apply aK|apply aR)|with_reducible apply aA)
   by_cases hie : i = j
   ·subst hie
    refine dP ?_
    repeat' (first|(apply aL;first|(apply aE;rfl;rfl)|(apply aD;rfl;rfl;rfl)|(apply bS;rfl;rfl;omega;rfl)|(apply cP;rfl;rfl;(assumption);rfl)|(apply aF;kernel_rfl)|(apply aW;rfl;rfl;rfl;rfl;rfl;(rw [aU]; simp only [fY] <;> omega);(exact xG (by (assumption)))))|(apply aM;(apply aB))|with_reducible apply aA|with_reducible apply aX)
    (apply dK (i + 1, true);focus (refine Le.ren [(1, 1), (2, 5)] rfl (by decide) ?_ ?_ <;> repeat' (first|exact trivial|refine And.intro ⟨_, rfl, ?_⟩ ?_|refine And.intro ⟨_, _, rfl, rfl, ?_⟩ ?_|exact Or.inr rfl|refine Or.inl ⟨?_, (by first|rfl|exact aY _ _)⟩|rfl)))
    ·exact Or.inr (CE hin rfl)
    ·exact ⟨by dsimp only;omega, by dsimp only;rw [decide_eq_true (by omega)]⟩
    ·dsimp only;omega
   ·refine dP (jH ?_ (Le.frzD (d := 19) (i := 5) rfl rfl))
    repeat' (first|(apply aL;first|(apply aE;rfl;rfl)|(apply aD;rfl;rfl;rfl)|(apply bS;rfl;rfl;omega;rfl)|(apply cP;rfl;rfl;(assumption);rfl)|(apply aF;kernel_rfl)|(apply aW;rfl;rfl;rfl;rfl;rfl;(rw [aU]; simp only [fY] <;> omega);(exact CO (by (assumption)))))|(apply aM;(apply aB))|with_reducible apply aA|with_reducible apply aX)
    (apply dK (i + 1, false);focus (refine Le.ren [(1, 1)] rfl (by decide) ?_ ?_ <;> repeat' (first|exact trivial|refine And.intro ⟨_, rfl, ?_⟩ ?_|refine And.intro ⟨_, _, rfl, rfl, ?_⟩ ?_|exact Or.inr rfl|refine Or.inl ⟨?_, (by first|rfl|exact aY _ _)⟩|rfl)))
    ·exact ⟨by dsimp only;omega, by dsimp only;rw [decide_eq_false (by omega)]⟩
    ·dsimp only;omega
 ·rw [decide_eq_true (by omega)] at hb; subst hb
  simp only [cond_true]
  repeat' (first|(apply aL;first|(apply aE;rfl;rfl)|(apply aT;rfl;rfl;rfl;rfl)|(apply aC;rfl;rfl)|(apply aF;kernel_rfl))|(apply aM;first|apply aH|apply aB|(apply aP;rfl;all_goals intro hc;have hq:=hc;(try simp only [cH] at hq);try exfalso;omega)|apply bJ|apply aQ)|with_reducible apply aA|with_reducible apply bO|with_reducible apply bK)
  (refine aO rfl ?_; refine bW () trivial ?_ ⟨.inr (Eq.trans (b := some _) rfl ?_), ⟨.inr (Eq.trans (b := some _) rfl ?_), trivial⟩⟩)
  ·rfl
  ·rfl
  ·rfl
theorem mU {m : List Cl} {x : Pt} {wr : Bool} {n : Nat} {N : Nat} {Q : Exit → AS → Prop} {all : Array Oper} {rest : List Oper} {tsl : List (Nat × AV)} {hsl : List (Nat × Option (List AV))} {nidl : Nat} {z0 : Lo} {md : Md} {d : Nat} {ty : TypeId} {pos : String} {af : Array Edge} {tys : Array TypeId} {x0 x1 x2 : Operand} {i0 : Nat} (ha0 : ev (lk tsl) x0 = some (.own i0 0 n 4)) (ha1 : ev (lk tsl) x1 = some (m3 x)) (ha2 : ev (lk tsl) x2 = some (bv wr)) (hH0 : cQ hsl i0 = some (aJ c8 m)) (hmc : MC Tryz.prog 187 [.own 0 0 n 4, m3 x, bv wr] [(0, some (aJ c8 m))] 1 (fun _ : Unit => True) (fun _ => iv (cM m x wr)) (fun _ => [(0, some (aJ c8 m))])) (hM : Nat.ble (nidl + 0) eX = true) (hN : Nat.blt d N = true) {md' : Md} [hmd : MdA md (gJ [x0, x1, x2] ++ [.inr i0]) (List.map Sum.inr (List.map Prod.fst ([(i0, some (aJ c8 m))] : List (Nat × Option (List AV)))) ++ [.inl d]) md'] (kk : RW Tryz.prog N all Q md' rest ⟨(d, iv (cM m x wr)) :: tsl, iJ hsl [(i0, some (aJ c8 m))], nidl + 0, z0⟩) : RW Tryz.prog N all Q md (⟨some d, .call ⟨.value (.func 187), #[x0, x1, x2], tys⟩, ty, pos, af, none⟩ :: rest) ⟨tsl, hsl, nidl, z0⟩ := by
 refine cJ [i0] 1 [(i0, some (aJ c8 m))] hmc (avs := [.own i0 0 n 4, m3 x, bv wr]) ?_ rfl ?_ rfl ?_ (by simpa using hM) ?_ ?_ ?_ hN (md' := md') (hmd := hmd) kk
 ·show evL (lk tsl) [x0, x1, x2] = _
  simp only [evL, ha0, ha1, ha2]
 ·exact ⟨⟨_, _, rfl, hH0, by (repeat' (exact RnL.purI inferInstance))⟩, trivial⟩
 ·(repeat' (first|exact RnL.purI inferInstance|exact RnV.own rfl|refine RnL.cons ?_ ?_))
 ·(repeat' (exact RnV.purI inferInstance))
 ·simp [dJ]
 ·(repeat' (first|exact trivial|(refine And.intro ⟨0, _, rfl, rfl, ?_⟩ ?_)|exact RnL.purI inferInstance))
theorem vF {m : List Cl} {j : Nat} {t : Int} {k n : Nat} {N : Nat} {Q : Exit → AS → Prop} {all : Array Oper} {rest : List Oper} {tsl : List (Nat × AV)} {hsl : List (Nat × Option (List AV))} {nidl : Nat} {z0 : Lo} {md : Md} {d : Nat} {ty : TypeId} {pos : String} {af : Array Edge} {tys : Array TypeId} {x0 x1 x2 : Operand} {i0 i1 : Nat} (ha0 : ev (lk tsl) x0 = some (.own i0 0 n 4)) (ha1 : ev (lk tsl) x1 = some (.agg [iv (j : Int), iv t])) (ha2 : ev (lk tsl) x2 = some (bv true)) (hH0 : cQ hsl i0 = some (aJ fR (eF m j (.own i1 0 m[j]!.stk.length 2)))) (hH1 : cQ hsl i1 = some (aJ dN m[j]!.stk)) (hdd : Go.AL.distinct [i0, i1] = true) (hmc : MC Tryz.prog 187 [.own 0 0 n 4, .agg [iv (j : Int), iv t], bv true] [(0, some (aJ fR (eF m j (.own 1 0 m[j]!.stk.length 2)))), (1, some (aJ dN m[j]!.stk))] 2 (fun _ : Unit => True) (fun _ => iv 0) (fun _ => [(0, some (aJ fR (eF m j (.own 1 0 (k + 1) 2)))), (1, some (aJ dN (m[j]!.stk.take (k + 1))))])) (hM : Nat.ble (nidl + 0) eX = true) (hN : Nat.blt d N = true) {md' : Md} [hmd : MdA md (gJ [x0, x1, x2] ++ [.inr i0, .inr i1]) (List.map Sum.inr (List.map Prod.fst ([(i0, some (aJ fR (eF m j (.own i1 0 (k + 1) 2)))), (i1, some (aJ dN (m[j]!.stk.take (k + 1))))] : List (Nat × Option (List AV)))) ++ [.inl d]) md'] (kk : RW Tryz.prog N all Q md' rest ⟨(d, iv 0) :: tsl, iJ hsl [(i0, some (aJ fR (eF m j (.own i1 0 (k + 1) 2)))), (i1, some (aJ dN (m[j]!.stk.take (k + 1))))], nidl + 0, z0⟩) : RW Tryz.prog N all Q md (⟨some d, .call ⟨.value (.func 187), #[x0, x1, x2], tys⟩, ty, pos, af, none⟩ :: rest) ⟨tsl, hsl, nidl, z0⟩ := by
 refine cJ [i0, i1] 2 [(i0, some (aJ fR (eF m j (.own i1 0 (k + 1) 2)))), (i1, some (aJ dN (m[j]!.stk.take (k + 1))))] hmc (avs := [.own i0 0 n 4, .agg [iv (j : Int), iv t], bv true]) ?_ hdd ?_ rfl ?_ (by simpa using hM) ?_ ?_ ?_ hN (md' := md') (hmd := hmd) kk
 ·show evL (lk tsl) [x0, x1, x2] = _
  simp only [evL, ha0, ha1, ha2]
 ·exact ⟨⟨_, _, rfl, hH0, by (repeat' (exact kL rfl))⟩, ⟨⟨_, _, rfl, hH1, by (repeat' (exact RnL.purI inferInstance))⟩, trivial⟩⟩
 ·(repeat' (first|exact RnL.purI inferInstance|exact RnV.own rfl|refine RnL.cons ?_ ?_))
 ·(repeat' (exact RnV.purI inferInstance))
 ·simp [dJ]
 ·(repeat' (first|exact trivial|(refine And.intro ⟨0, _, rfl, rfl, ?_⟩ ?_)|(refine And.intro ⟨1, _, rfl, rfl, ?_⟩ ?_)|exact RnL.purI inferInstance|exact kL rfl))
theorem LdL.app {D : List Nat} {H : Nat → Option (List AV)} : ∀ {a b c d : List AV}, LdL D H a b → LdL D H c d → dC a = true → LdL D H (a ++ c) (a ++ d)
 | [], _, _, _, _, h, _ => h
 | x :: a, b, c, d, h1, h, hp => by
  simp only [dC, Bool.and_eq_true] at hp
  exact .cons (.pur hp.1) (LdL.app (a := a) (b := a) (.pur hp.2) h hp.2)
theorem Ke {D : List Nat} {H : Nat → Option (List AV)} {m : List Cl} {j i k : Nat} {r : List Tg} (hi : i ∈ D) (hH : H i = some (aJ dN r)) (hk : k = r.length) (hj : j < m.length) : LdL D H (aJ fR (eF m j (.own i 0 k 2))) (aJ c8 (m.set j { m[j]! with stk := r })) := by
 subst hk
 rw [← AX, jU hj, jU hj]
 have p1 : dC (aJ c8 (m.take j)) = true := (inferInstance : Pur (aJ c8 _)).pf
 have p2 : dC [iv m[j]!.val, bv m[j]!.alive, iv m[j]!.next] = true := rfl
 exact LdL.app (.pur p1) (LdL.app (.pur p2) (.cons (.own hi hH (.pur (inferInstance : Pur (aJ dN r)).pf)) (.pur (inferInstance : Pur (aJ c8 _)).pf)) p2) p1
theorem CM {D : List Nat} {H : Nat → Option (List AV)} {m : List Cl} {j i : Nat} (hi : i ∈ D) (hH : H i = some (aJ dN m[j]!.stk)) (hj : j < m.length) : LdL D H (aJ fR (eF m j (.own i 0 m[j]!.stk.length 2))) (aJ c8 m) := by
 have h := Ke (m := m) (r := m[j]!.stk) hi hH rfl hj
 rwa [show m.set j { m[j]! with stk := m[j]!.stk } = m from mB m j] at h
theorem J5 {m : List Cl} {x : Pt} {wr : Bool} (h : 0 ≤ x.cell) (h2 : x.cell < m.length) (h3 : m[x.cell.toNat]!.alive = true) (h4 : 0 ≤ dE m[x.cell.toNat]!.stk x.tag) (hw : wr = true) (h5 : m[x.cell.toNat]!.stk[(dE m[x.cell.toNat]!.stk x.tag).toNat]!.uq = false) : cM m x wr = 3 := by
 unfold cM;rw [if_neg (by omega), if_neg (by rw [h3]; decide), if_neg (by omega), if_pos ⟨hw, h5⟩]
theorem oU (m : List Cl) (x : Pt) (wr : Bool) (n : Nat) (hm : OkM m) (hn : n = m.length) (hk : cM m x wr ≠ 0) : MC Tryz.prog 187 [.own 0 0 n 4, m3 x, bv wr] [(0, some (aJ c8 m))] 1 (fun _ : Unit => True) (fun _ => iv (cM m x wr)) (fun _ => [(0, some (aJ c8 m))]) := by
 subst hn
 have hml := hm.l
 have hcv := iT m hm
 have hst : 0 ≤ x.cell → x.cell < m.length → m[x.cell.toNat]!.stk.length ≤ 200 := fun h1 h2 => (((dX m).1 hm).2 x.cell.toNat (by omega)).l.2
 have hbd := eZ m[x.cell.toNat]!.stk x.tag
 have hidx := fun h => xF m[x.cell.toNat]!.stk x.cell x.tag h
 (refine cA Tryz.func187 rfl (by simp [Tryz.ntmps187]) ?_; rw [Tryz.ntmps187])
 repeat' (first|(apply aL;first|((with_reducible apply o4 (k := 184));(case ha => rfl);(case hl => (repeat' (first|exact m7|apply lE|exact mV rfl inferInstance)));(case h => exact hcv);(case hfr|hN => rfl);(case hmd => infer_instance))|((apply jG 4);(case hx|hH|hc|hN => rfl))|((with_reducible apply aI (k := 230));(case ha => rfl);(case h => exact (hidx (by have := hst (by omega) (by omega);omega)));(case hp => (exact Pur.pf));(case hN => rfl))|(with_reducible apply cS (d := 75))|(apply aE;rfl;rfl)|(first|(apply cY;(case hx|hH => rfl);(case hf|hg|hα => infer_instance);(case hk => omega);(case hc|hN => rfl))|(apply aN;rfl;rfl;rfl;rfl))|(apply aD;rfl;rfl;rfl)|(first|(apply a6;rfl;rfl;rfl;(first|rfl|assumption))|(apply a7;rfl;rfl;rfl;(assumption))|(apply bI;(case hj|hb|hN => rfl);all_goals (intro hg;have hq := hg;(try simp only [cH] at hq);(try (exfalso;omega)))))|(first|(apply fU;rfl;rfl;omega;rfl)|(apply aT;rfl;rfl;rfl;rfl))|(apply aC;rfl;rfl)|(first|(apply bT;rfl;(assumption);rfl;rfl)|(apply bH;rfl;(first|rfl|assumption);rfl;rfl))|(first|(apply cK;(case hx|hi => rfl);(case hm => (omega));(case hml => (rfl));(case hα | hf|hg => infer_instance);(case hN => rfl))|(apply cR;rfl;rfl;(omega);rfl))|((with_reducible apply aI (k := 84));(case ha => rfl);(case h => (apply eA <;> (fail)));(case hp => (rfl));(case hN => rfl))|(apply bF;rfl;rfl;rfl)|(apply aF;kernel_rfl)|(apply cG;rfl;rfl)|(apply bZ;rfl;rfl;rfl)|(apply bQ;rfl;rfl;rfl;rfl))|(apply aM;first|apply aH|apply aB|(apply cF;rfl;(rfl))|(apply aP;rfl;all_goals intro hc;have hq:=hc;(try simp only [cH] at hq);try exfalso;omega)|apply aK|apply aR|apply aQ)|with_reducible apply aA|with_reducible apply bD|with_reducible apply cL)
 ·(refine aO rfl ?_; refine bW () trivial ?_ ⟨.inr (Eq.trans (b := some _) rfl ?_), trivial⟩)
  ·rw [Cr (by omega)]; rfl
  ·rfl
 ·(refine aO rfl ?_; refine bW () trivial ?_ ⟨.inr (Eq.trans (b := some _) rfl ?_), trivial⟩)
  ·rw [GL (by omega) (by omega) (by assumption)]; rfl
  ·rfl
 ·(refine aO rfl ?_; refine bW () trivial ?_ ⟨.inr (Eq.trans (b := some _) rfl ?_), trivial⟩)
  ·rw [Gh (by omega) (by omega) (by assumption) (by assumption)]; rfl
  ·rfl
 ·(refine aO rfl ?_; refine bW () trivial ?_ ⟨.inr (Eq.trans (b := some _) rfl ?_), trivial⟩)
  ·rw [J5 (by omega) (by omega) (by assumption) (by assumption) (by assumption) (by assumption)]; rfl
  ·rfl
 ·exfalso
  have hw : wr = true := by assumption
  have hu : m[x.cell.toNat]!.stk[(dE m[x.cell.toNat]!.stk x.tag).toNat]!.uq = true := by assumption
  subst hw
  refine hk ?_
  rw [yS, if_pos (rC (by omega) (by omega) (by assumption) (by assumption)), if_neg (by rw [hu]; decide)]
 ·exfalso
  have hw : wr = false := by assumption
  subst hw
  exact hk (rC (by omega) (by omega) (by assumption) (by assumption))
theorem sY (m : List Cl) (j : Nat) (t : Int) (k n : Nat) (hm : OkM m) (hn : n = m.length) (hj : j < m.length) (hk : dE m[j]!.stk t = (k : Int)) (hal : m[j]!.alive = true) (hu : m[j]!.stk[k]!.uq = true) : MC Tryz.prog 187 [.own 0 0 n 4, .agg [iv (j : Int), iv t], bv true] [(0, some (aJ fR (eF m j (.own 1 0 m[j]!.stk.length 2)))), (1, some (aJ dN m[j]!.stk))] 2 (fun _ : Unit => True) (fun _ => iv 0) (fun _ => [(0, some (aJ fR (eF m j (.own 1 0 (k + 1) 2)))), (1, some (aJ dN (m[j]!.stk.take (k + 1))))]) := by
 subst hn
 have hml := hm.l
 have hcv := iT m hm
 have hst : m[j]!.stk.length ≤ 200 := (((dX m).1 hm).2 j hj).l.2
 have hbd := eZ m[j]!.stk t
 rw [hk] at hbd
 have hidx := xF m[j]!.stk (j : Int) t (by omega)
 rw [hk] at hidx
 have hog := iQ (m := m) (j := j) (X := .own 1 0 m[j]!.stk.length 2) hj
 have hol := eB (m := m) (j := j) (X := .own 1 0 m[j]!.stk.length 2)
 (refine cA Tryz.func187 rfl (by simp [Tryz.ntmps187]) ?_; rw [Tryz.ntmps187])
 repeat' (first|(apply aL;first|((with_reducible apply oA (k := 184) (D := [0, 1]) (h := hcv));(case ha => rfl);(case hl => exact .cons (.own (by simp) rfl (CM (by simp) rfl hj)) .nil);(case hfr|hN => rfl))|(with_reducible apply cS (d := 35))|(apply aE;rfl;rfl)|(first|(apply cY;(case hx|hH => rfl);(case hf|hg|hα => infer_instance);(case hk => omega);(case hc|hN => rfl))|(apply aN;rfl;rfl;rfl;rfl))|(apply aD;rfl;rfl;rfl)|(apply a6;rfl;rfl;rfl;(rfl))|(apply fU;rfl;rfl;omega;rfl)|(apply aC;rfl;rfl)|(apply bH;rfl;(rfl);rfl;rfl)|(apply cP;rfl;rfl;(assumption);rfl)|((with_reducible apply aI (k := 84));(case ha => rfl);(case h => (apply eA <;> (fail)));(case hp => (rfl));(case hN => rfl))|(apply bF;rfl;rfl;rfl)|(apply aF;kernel_rfl)|(apply cG;rfl;rfl)|(apply bZ;rfl;rfl;rfl)|(apply bQ;rfl;rfl;rfl;rfl))|(apply aM;first|apply aH|apply aB|(apply aP;rfl;all_goals intro hc;have hq:=hc;(try simp only [cH] at hq);try exfalso;omega)|apply aR|apply aQ)|with_reducible apply aA|with_reducible apply bD)
 all_goals (try (exfalso;omega))
 ·exfalso
  have h : (eF m j (.own 1 0 m[j]!.stk.length 2))[j]!.alive = false := by assumption
  rw [hog] at h;simp only [hal] at h;cases h
 refine dP ?_
 rw [hog]
 dsimp only
 repeat' (first|(apply aL;first|((apply jG 4);(case hx|hH|hc|hN => rfl))|((with_reducible apply oA (k := 230) (D := [1]) (h := hidx));(case ha => rfl);(case hl => exact .cons (.own (by simp) rfl (.pur (inferInstance : Pur (aJ dN _)).pf)) (.cons (.pur rfl) .nil));(case hfr|hN => rfl))|(with_reducible apply cS (d := 68))|(apply aE;rfl;rfl)|(apply cY;(case hx|hH => rfl);(case hf|hg|hα => infer_instance);(case hk => omega);(case hc|hN => rfl))|(apply aD;rfl;rfl;rfl)|(apply a6;rfl;rfl;rfl;(rfl))|(apply aT;rfl;rfl;rfl;rfl)|(apply aC;rfl;rfl)|(apply aF;kernel_rfl)|(apply bZ;rfl;rfl;rfl))|(apply aM;first|apply aH|apply aB|(apply cF;rfl;(rfl))|apply aK)|with_reducible apply aA)
 refine dP ?_
 rw [hog]
 dsimp only
 repeat' (first|(apply aL;first|(with_reducible apply cS (d := 81))|(apply aE;rfl;rfl)|(apply cY;(case hx|hH => rfl);(case hf|hg|hα => infer_instance);(case hk => omega);(case hc|hN => rfl))|(apply aD;rfl;rfl;rfl)|(apply a6;rfl;rfl;rfl;(rfl))|(apply aC;rfl;rfl)|(apply bT;rfl;(rfl);rfl;rfl)|(apply cP;rfl;rfl;(omega);rfl)|(apply aF;kernel_rfl)|(apply cG;rfl;rfl)|(apply bZ;rfl;rfl;rfl))|(apply aM;first|apply aH|apply aB|(apply b8;rfl;(rfl))|(apply aP;rfl;all_goals intro hc;have hq:=hc;(try simp only [cH] at hq);try exfalso;omega)|apply aQ)|with_reducible apply aA|with_reducible apply bD|with_reducible apply cL)
 ·exfalso
  have h : m[j]!.stk[k]!.uq = false := by assumption
  rw [hu] at h;cases h
 refine dP ?_
 rw [hog]
 dsimp only
 repeat' (first|(apply aL;first|((apply hG (d := 83) (l := 0) (h := k + 1));(case hx|hn|hl => rfl);(case hh => exact pP rfl (by omega));(case hp => exact if_pos (by omega));(case hN => rfl))|(apply aE;rfl;rfl)|(apply aD;rfl;rfl;rfl)|(apply bS;rfl;rfl;omega;rfl)|(apply aC;rfl;rfl)|(apply aF;kernel_rfl)|(apply bZ;rfl;rfl;rfl)|(apply aW;rfl;rfl;rfl;rfl;rfl;(rw [aU]; simp only [fY] <;> omega);(exact rY (by (assumption)))))|(apply aM;first|apply aH|apply aB|apply aQ)|with_reducible apply aA|with_reducible apply aX)
 refine cE (Le.cut (i := 1) ((k + 1) * 2) rfl) ?_
 (refine aO rfl ?_; refine bW () trivial ?_ ⟨.inr (Eq.trans (b := some _) rfl ?_), ⟨.inr (Eq.trans (b := some _) rfl ?_), trivial⟩⟩)
 ·rfl
 ·rfl
 ·rw [fA dN (e := 2)]
theorem En {xs : List Tg} {k n : Nat} {N : Nat} {Q : Exit → AS → Prop} {all : Array Oper} {rest : List Oper} {tsl : List (Nat × AV)} {hsl : List (Nat × Option (List AV))} {nidl : Nat} {z0 : Lo} {md : Md} {d : Nat} {ty : TypeId} {pos : String} {af : Array Edge} {tys : Array TypeId} {x0 : Operand} {i0 : Nat} (ha0 : ev (lk tsl) x0 = some (.own i0 (0 + k * 2) n 2)) (hH0 : cQ hsl i0 = some (aJ dN xs)) (hmc : MC Tryz.prog 229 [.own 0 (0 + k * 2) n 2] [(0, some (aJ dN xs))] 1 (fun _ : Unit => True) (fun _ => .own 2 0 n 2) (fun _ => [(0, some (aJ dN xs)), (2, some (aJ dN (xs.drop k)))])) (hM : Nat.ble (nidl + 2) eX = true) (hN : Nat.blt d N = true) {md' : Md} [hmd : MdA md (gJ [x0] ++ [.inr i0]) (List.map Sum.inr (List.map Prod.fst ([(i0, some (aJ dN xs)), ((nidl + 1), some (aJ dN (xs.drop k)))] : List (Nat × Option (List AV)))) ++ [.inl d]) md'] (kk : RW Tryz.prog N all Q md' rest ⟨(d, .own (nidl + 1) 0 n 2) :: tsl, iJ hsl [(i0, some (aJ dN xs)), ((nidl + 1), some (aJ dN (xs.drop k)))], nidl + 2, z0⟩) : RW Tryz.prog N all Q md (⟨some d, .call ⟨.value (.func 229), #[x0], tys⟩, ty, pos, af, none⟩ :: rest) ⟨tsl, hsl, nidl, z0⟩ := by
 refine cJ [i0] 3 [(i0, some (aJ dN xs)), ((nidl + 1), some (aJ dN (xs.drop k)))] hmc (avs := [.own i0 (0 + k * 2) n 2]) ?_ rfl ?_ rfl ?_ (by simpa using hM) ?_ ?_ ?_ hN (md' := md') (hmd := hmd) kk
 ·show evL (lk tsl) [x0] = _
  simp only [evL, ha0]
 ·exact ⟨⟨_, _, rfl, hH0, by (repeat' (exact RnL.purI inferInstance))⟩, trivial⟩
 ·(repeat' (first|exact RnL.purI inferInstance|exact RnV.own rfl|refine RnL.cons ?_ ?_))
 ·(repeat' (exact RnV.own rfl))
 ·simp [dJ]
 ·(repeat' (first|exact trivial|(refine And.intro ⟨0, _, rfl, rfl, ?_⟩ ?_)|(refine And.intro ⟨2, _, rfl, rfl, ?_⟩ ?_)|exact RnL.purI inferInstance))
theorem Fg (xs : List Tg) (k n : Nat) (hn : n = xs.length - k) (hl : xs.length ≤ 1000000) : MC Tryz.prog 229 [.own 0 (0 + k * 2) n 2] [(0, some (aJ dN xs))] 1 (fun _ : Unit => True) (fun _ => .own 2 0 n 2) (fun _ => [(0, some (aJ dN xs)), (2, some (aJ dN (xs.drop k)))]) := by
 subst hn
 (refine cA Tryz.func229 rfl (by simp [Tryz.ntmps229]) ?_; rw [Tryz.ntmps229])
 repeat' (first|(apply aL;first|(apply DK;rfl;rfl;(intro b hb))|(apply bY;rfl;rfl;rfl;rfl;rfl;(decide);exact CS rfl rfl;omega;omega;(exact e7 rfl);rfl;rfl)|(apply aE;rfl;rfl)|(apply aC;rfl;rfl)|(apply aF;kernel_rfl)|(apply bX;rfl;rfl;rfl;(rfl);rfl;rfl))|(apply aM;first|apply aH|apply aB|(apply aP;rfl;all_goals intro hc;have hq:=hc;(try simp only [cH] at hq);try exfalso;omega)|apply aR|apply aQ)|with_reducible apply aA|with_reducible apply bD)
 ·have h0 : xs.length - k = 0 := hb (by assumption)
  have h1 : xs.drop k = [] := List.drop_eq_nil_of_le (by omega)
  refine cE (Le.bump 1) ?_
  refine cE (Le.nilOwn (d := 2) 2 rfl (by decide)) ?_
  (refine aO rfl ?_; refine bW () trivial ?_ ⟨.inr (Eq.trans (b := some _) rfl ?_), ⟨.inr (Eq.trans (b := some _) rfl ?_), trivial⟩⟩)
  ·show AV.own 2 0 0 2 = _; rw [h0]
  ·rfl
  ·rw [h1]; rfl
 ·(refine aO rfl ?_; refine bW () trivial ?_ ⟨.inr (Eq.trans (b := some _) rfl ?_), ⟨.inr (Eq.trans (b := some _) rfl ?_), trivial⟩⟩)
  ·show AV.own 2 0 (0 + (xs.length - k)) 2 = _
   rw [Nat.zero_add]
  ·rfl
  ·rfl
theorem vX {m : List Cl} {j : Nat} {t : Int} {r : List Tg} {n : Nat} {N : Nat} {Q : Exit → AS → Prop} {all : Array Oper} {rest : List Oper} {tsl : List (Nat × AV)} {hsl : List (Nat × Option (List AV))} {nidl : Nat} {z0 : Lo} {md : Md} {d : Nat} {ty : TypeId} {pos : String} {af : Array Edge} {tys : Array TypeId} {x0 x1 x2 : Operand} {i0 i1 : Nat} (ha0 : ev (lk tsl) x0 = some (.own i0 0 n 4)) (ha1 : ev (lk tsl) x1 = some (.agg [iv (j : Int), iv t])) (ha2 : ev (lk tsl) x2 = some (bv false)) (hH0 : cQ hsl i0 = some (aJ fR (eF m j (.own i1 0 m[j]!.stk.length 2)))) (hH1 : cQ hsl i1 = some (aJ dN m[j]!.stk)) (hdd : Go.AL.distinct [i0, i1] = true) (hmc : MC Tryz.prog 187 [.own 0 0 n 4, .agg [iv (j : Int), iv t], bv false] [(0, some (aJ fR (eF m j (.own 1 0 m[j]!.stk.length 2)))), (1, some (aJ dN m[j]!.stk))] 2 (fun _ : Unit => True) (fun _ => iv 0) (fun _ => [(0, some (aJ fR (eF m j (.own 5 0 r.length 2)))), (5, some (aJ dN r))])) (hM : Nat.ble (nidl + 4) eX = true) (hN : Nat.blt d N = true) {md' : Md} [hmd : MdA md (gJ [x0, x1, x2] ++ [.inr i0, .inr i1]) (List.map Sum.inr (List.map Prod.fst ([(i0, some (aJ fR (eF m j (.own (nidl + 3) 0 r.length 2)))), ((nidl + 3), some (aJ dN r)), (i1, none)] : List (Nat × Option (List AV)))) ++ [.inl d]) md'] (kk : RW Tryz.prog N all Q md' rest ⟨(d, iv 0) :: tsl, iJ hsl [(i0, some (aJ fR (eF m j (.own (nidl + 3) 0 r.length 2)))), ((nidl + 3), some (aJ dN r)), (i1, none)], nidl + 4, z0⟩) : RW Tryz.prog N all Q md (⟨some d, .call ⟨.value (.func 187), #[x0, x1, x2], tys⟩, ty, pos, af, none⟩ :: rest) ⟨tsl, hsl, nidl, z0⟩ := by
 refine cJ [i0, i1] 6 [(i0, some (aJ fR (eF m j (.own (nidl + 3) 0 r.length 2)))), ((nidl + 3), some (aJ dN r)), (i1, none)] hmc (avs := [.own i0 0 n 4, .agg [iv (j : Int), iv t], bv false]) ?_ hdd ?_ rfl ?_ (by simpa using hM) ?_ ?_ ?_ hN (md' := md') (hmd := hmd) kk
 ·show evL (lk tsl) [x0, x1, x2] = _
  simp only [evL, ha0, ha1, ha2]
 ·exact ⟨⟨_, _, rfl, hH0, by (repeat' (exact kL rfl))⟩, ⟨⟨_, _, rfl, hH1, by (repeat' (exact RnL.purI inferInstance))⟩, trivial⟩⟩
 ·(repeat' (first|exact RnL.purI inferInstance|exact RnV.own rfl|refine RnL.cons ?_ ?_))
 ·(repeat' (exact RnV.purI inferInstance))
 ·simp [dJ]
 ·(repeat' (first|exact trivial|(refine And.intro ⟨0, _, rfl, rfl, ?_⟩ ?_)|(refine And.intro ⟨5, _, rfl, rfl, ?_⟩ ?_)|exact RnL.purI inferInstance|exact kL rfl))
theorem zR (m : List Cl) (j : Nat) (t : Int) (r : List Tg) (k n : Nat) (hm : OkM m) (hn : n = m.length) (hj : j < m.length) (hk : dE m[j]!.stk t = (k : Int)) (hal : m[j]!.alive = true) (hr : r = fO m[j]!.stk k false) : MC Tryz.prog 187 [.own 0 0 n 4, .agg [iv (j : Int), iv t], bv false] [(0, some (aJ fR (eF m j (.own 1 0 m[j]!.stk.length 2)))), (1, some (aJ dN m[j]!.stk))] 2 (fun _ : Unit => True) (fun _ => iv 0) (fun _ => [(0, some (aJ fR (eF m j (.own 5 0 r.length 2)))), (5, some (aJ dN r))]) := by
 subst hn
 have hml := hm.l
 have hcv := iT m hm
 have hst : m[j]!.stk.length ≤ 200 := (((dX m).1 hm).2 j hj).l.2
 have hbd := eZ m[j]!.stk t
 rw [hk] at hbd
 have hidx := xF m[j]!.stk (j : Int) t (by omega)
 rw [hk] at hidx
 have hog := iQ (m := m) (j := j) (X := .own 1 0 m[j]!.stk.length 2) hj
 have hol := eB (m := m) (j := j) (X := .own 1 0 m[j]!.stk.length 2)
 (refine cA Tryz.func187 rfl (by simp [Tryz.ntmps187]) ?_; rw [Tryz.ntmps187])
 repeat' (first|(apply aL;first|((with_reducible apply oA (k := 184) (D := [0, 1]) (h := hcv));(case ha => rfl);(case hl => exact .cons (.own (by simp) rfl (CM (by simp) rfl hj)) .nil);(case hfr|hN => rfl))|(with_reducible apply cS (d := 35))|(apply aE;rfl;rfl)|(first|(apply cY;(case hx|hH => rfl);(case hf|hg|hα => infer_instance);(case hk => omega);(case hc|hN => rfl))|(apply aN;rfl;rfl;rfl;rfl))|(apply aD;rfl;rfl;rfl)|(apply a6;rfl;rfl;rfl;(rfl))|(apply fU;rfl;rfl;omega;rfl)|(apply aC;rfl;rfl)|(apply bH;rfl;(rfl);rfl;rfl)|(apply cP;rfl;rfl;(assumption);rfl)|((with_reducible apply aI (k := 84));(case ha => rfl);(case h => (apply eA <;> (fail)));(case hp => (rfl));(case hN => rfl))|(apply bF;rfl;rfl;rfl)|(apply aF;kernel_rfl)|(apply cG;rfl;rfl)|(apply bZ;rfl;rfl;rfl)|(apply bQ;rfl;rfl;rfl;rfl))|(apply aM;first|apply aH|apply aB|(apply aP;rfl;all_goals intro hc;have hq:=hc;(try simp only [cH] at hq);try exfalso;omega)|apply aR|apply aQ)|with_reducible apply aA|with_reducible apply bD)
 all_goals (try (exfalso;omega))
 ·exfalso
  have h : (eF m j (.own 1 0 m[j]!.stk.length 2))[j]!.alive = false := by assumption
  rw [hog] at h;simp only [hal] at h;cases h
 refine dP ?_
 rw [hog]
 dsimp only
 repeat' (first|(apply aL;first|((apply jG 4);(case hx|hH|hc|hN => rfl))|((with_reducible apply oA (k := 230) (D := [1]) (h := hidx));(case ha => rfl);(case hl => exact .cons (.own (by simp) rfl (.pur (inferInstance : Pur (aJ dN _)).pf)) (.cons (.pur rfl) .nil));(case hfr|hN => rfl))|(with_reducible apply cS (d := 41))|(apply aE;rfl;rfl)|(apply cY;(case hx|hH => rfl);(case hf|hg|hα => infer_instance);(case hk => omega);(case hc|hN => rfl))|(apply aD;rfl;rfl;rfl)|(apply a7;rfl;rfl;rfl;(rfl))|(apply aT;rfl;rfl;rfl;rfl)|(apply aC;rfl;rfl)|(apply bH;rfl;(rfl);rfl;rfl)|(apply aF;kernel_rfl)|(apply bZ;rfl;rfl;rfl))|(apply aM;first|apply aH|apply aB|(apply cF;rfl;(rfl))|apply aK)|with_reducible apply aA)
 refine dP ?_
 rw [hog]
 dsimp only
 repeat' (first|(apply aL;first|((apply hG (d := 43) (l := k + 1) (h := m[j]!.stk.length));(case hx|hn => rfl);(case hl => exact pP rfl (by omega));(case hh => rfl);(case hp => exact if_pos (by omega));(case hN => rfl))|(apply En;rfl;rfl;exact Fg _ _ _ rfl (by omega);rfl;rfl)|(apply I1;rfl;rfl;rfl;exact Ko _ _ (by rw [List.length_drop]) (by omega);rfl;rfl)|(with_reducible apply cS (d := 51))|(apply aE;rfl;rfl)|(apply cY;(case hx|hH => rfl);(case hf|hg|hα => infer_instance);(case hk => omega);(case hc|hN => rfl))|(apply aD;rfl;rfl;rfl)|(apply bS;rfl;rfl;omega;rfl)|(apply aC;rfl;rfl)|(apply aF;kernel_rfl)|(apply bZ;rfl;rfl;rfl))|(apply aM;(apply aB))|with_reducible apply aA)
 refine dP ?_
 rw [hog]
 dsimp only
 have hfl : (aJ dN m[j]!.stk).length = m[j]!.stk.length * 2 := aU dN _
 have hsl : (shr (List.drop (k + 1) m[j]!.stk)).length ≤ 200 := Nat.le_trans (List.length_filter_le _ _) (by rw [List.length_drop]; omega)
 repeat' (first|(apply aL;first|((apply hG (d := 53) (l := 0) (h := k + 1));(case hx|hn|hl => rfl);(case hh => exact pP rfl (by omega));(case hp => exact if_pos (by omega));(case hN => rfl))|(apply bY;rfl;rfl;rfl;rfl;rfl;(rw [hfl]; omega);exact CS (k := 0) rfl rfl;omega;omega;rfl;rfl;rfl)|(apply aE;rfl;rfl)|(apply aD;rfl;rfl;rfl)|(apply bS;rfl;rfl;omega;rfl)|(apply aC;rfl;rfl)|(apply aF;kernel_rfl)|(apply bZ;rfl;rfl;rfl)|(apply aW;rfl;rfl;rfl;rfl;rfl;(rw [aU]; simp only [fY] <;> omega);(exact rY (by (assumption)))))|(apply aM;first|apply aH|apply aB|apply aQ)|with_reducible apply aA|with_reducible apply aX)
 have hre : r = m[j]!.stk.take (k + 1) ++ shr (m[j]!.stk.drop (k + 1)) := by rw [hr]; rfl
 have hrl : r.length = k + 1 + (shr (List.drop (k + 1) m[j]!.stk)).length := by rw [hre, List.length_append, List.length_take]; omega
 (refine aO rfl ?_; refine bW () trivial ?_ ⟨.inr (Eq.trans (b := some _) rfl ?_), ⟨.inr (Eq.trans (b := some _) rfl ?_), trivial⟩⟩)
 ·rfl
 ·refine congrArg some ?_
  show aJ fR (eF m j (AV.own 5 0 (k + 1 - 0 + (shr (List.drop (k + 1) m[j]!.stk)).length) 2)) = _
  rw [hrl]; rfl
 ·refine congrArg some ?_
  show (List.drop 0 (aJ dN m[j]!.stk)).take ((k + 1) * 2) ++ aJ dN (List.drop 0 (shr (List.drop (k + 1) m[j]!.stk))) = _
  rw [List.drop_zero, List.drop_zero, fA dN (e := 2), eD, ← hre]
theorem Ji {m : List Cl} {j : Nat} {X : AV} {v : Int} (h : j < m.length) : iR (aJ fR (eF m j X)) (0 + j * 4 + 0) [iv v] = aJ fR (eF (m.set j { m[j]! with val := v }) j X) := by
 have e : eF (m.set j { m[j]! with val := v }) j X = (eF m j X).set j ⟨v, m[j]!.alive, m[j]!.next, X⟩ := by
  have e2 : (m.set j { m[j]! with val := v })[j]! = { m[j]! with val := v } := by rw [cT _ _ (by rw [List.length_set]; exact h), List.getElem_set_self]
  unfold eF
  rw [e2, List.map_set, List.set_set, List.set_set]; rfl
 rw [e]
 exact fG (by rw [eB]; exact h) (by simp) (by rw [iQ h]; rfl)
theorem Iy {m : List Cl} {j : Nat} {X : AV} {b : Bool} (h : j < m.length) : iR (aJ fR (eF m j X)) (0 + j * 4 + 1) [.v (.bool b)] = aJ fR (eF (m.set j { m[j]! with alive := b }) j X) := by
 have e : eF (m.set j { m[j]! with alive := b }) j X = (eF m j X).set j ⟨m[j]!.val, b, m[j]!.next, X⟩ := by
  have e2 : (m.set j { m[j]! with alive := b })[j]! = { m[j]! with alive := b } := by rw [cT _ _ (by rw [List.length_set]; exact h), List.getElem_set_self]
  unfold eF
  rw [e2, List.map_set, List.set_set, List.set_set]; rfl
 rw [e]
 exact fG (by rw [eB]; exact h) (by simp) (by rw [iQ h]; rfl)
theorem p9 (m : List Cl) (hm : OkM m) (x : Pt) : PC Tryz.prog 134 [sl c8 m, m3 x] (fun r => r = .tup [sl c8 (dS m x false), iv (nH m x), iv (cM m x false)]) := by
 have hml := hm.l
 by_cases hk : cM m x false = 0
 ·obtain ⟨c, t⟩ := x
  obtain ⟨h1, h2, h3, h4, _⟩ := eT hk
  obtain ⟨j, rfl⟩ := Int.eq_ofNat_of_zero_le (show 0 ≤ c from h1)
  have hj : j < m.length := by have : (j : Int) < m.length := h2;omega
  obtain ⟨k, hkk⟩ := Int.eq_ofNat_of_zero_le (show 0 ≤ dE m[j]!.stk t from h4)
  obtain ⟨r, hr⟩ : ∃ r, r = fO m[j]!.stk k false := ⟨_, rfl⟩
  have hto := zR m j t r k m.length hm rfl hj hkk h3 hr
  have hog := iQ (m := m) (j := j) (X := .own (0 + 1 + 3 + 3) 0 r.length 2) hj
  have hol := eB (m := m) (j := j) (X := .own (0 + 1 + 3 + 3) 0 r.length 2)
  (refine aS Tryz.func134 rfl (by simp [Tryz.ntmps134]) ?_; rw [Tryz.ntmps134])
  repeat' (first|(apply aL;first|((apply oM (j := j));(case ha0 => rfl);(case hmc => exact uG m j hm hj);(case hM|hN => rfl))|((apply vX (m := m) (j := j) (t := t) (r := r) (n := m.length));(case ha0|ha1|ha2|hH0|hH1|hdd => rfl);(case hmc => exact hto);(case hM|hN => rfl))|(apply aE;rfl;rfl)|(first|(apply cY;(case hx|hH => rfl);(case hf|hg|hα => infer_instance);(case hk => omega);(case hc|hN => rfl))|(apply aN;rfl;rfl;rfl;rfl)|(apply aV;rfl;rfl;(exact (rfl:_=[_, _]));rfl;rfl;rfl))|(apply aD;rfl;rfl;rfl)|(apply aT;rfl;rfl;rfl;rfl)|(apply aC;rfl;rfl)|(apply cP;rfl;rfl;(assumption);rfl)|(apply aF;kernel_rfl)|(apply bQ;rfl;rfl;rfl;rfl))|(apply aM;first|apply aH|apply aB|(apply b0;kernel_rfl)|(apply cF;rfl;(rfl))|apply aR|apply aQ)|with_reducible apply aA)
  refine cE (Le.cls (o := 2) (q := 7) (j := j) (k := r.length) (m := m) (r := r) rfl rfl rfl hj (by decide)) ?_
  refine cE (Le.frzD (d := 4) (i := 2) rfl rfl) ?_
  rw [hog]
  refine aO (l := [.imm m.length (aJ c8 (m.set j { m[j]! with stk := r })), iv m[j]!.val, iv 0]) rfl ?_
  have eM : dS m ⟨j, t⟩ false = m.set j { m[j]! with stk := r } := by
   unfold dS iY;rw [if_pos hk]; dsimp only
   rw [Int.toNat_natCast, hkk, Int.toNat_natCast, hr]
  have eN : nH m ⟨j, t⟩ = m[j]!.val := by unfold nH;rw [if_pos hk]; rfl
  rw [eM, eN, hk, fP (by rw [List.length_set])]
  exact ⟨rfl, by (exact Pur.pf)⟩
 ·(refine aS Tryz.func134 rfl (by simp [Tryz.ntmps134]) ?_; rw [Tryz.ntmps134])
  repeat' (first|(apply aL;first|(apply iO;rfl;exact kN m hm;rfl;rfl)|((apply mU (m := m) (x := x) (wr := false) (n := m.length));(case ha0|ha1|ha2|hH0 => rfl);(case hmc => exact oU m x false _ hm rfl hk);(case hM|hN => rfl))|(apply aE;rfl;rfl)|(apply aV;rfl;rfl;(exact (rfl:_=[_, _]));rfl;rfl;rfl)|(apply aT;rfl;rfl;rfl;rfl)|(apply aC;rfl;rfl)|(apply aF;kernel_rfl)|(apply bQ;rfl;rfl;rfl;rfl))|(apply aM;first|apply aH|apply aB|(apply aP;rfl;all_goals intro hc;have hq:=hc;(try simp only [cH] at hq);try exfalso;omega)|apply aQ)|with_reducible apply aA|with_reducible apply bD)
  (refine cE (Le.frzD (d := 4) (i := 2) rfl rfl) ?_; refine aO rfl ?_)
  refine ⟨?_, by (exact Pur.pf)⟩
  simp only [bV]
  unfold dS nH;rw [if_neg hk, if_neg hk]
theorem Ao (m : List Cl) (hm : OkM m) (x : Pt) : PC Tryz.prog 188 [sl c8 m, m3 x] (fun r => r = .tup [sl c8 (iF m x), iv (cM m x true)]) := by
 have hml := hm.l
 by_cases hk : cM m x true = 0
 ·obtain ⟨c, t⟩ := x
  obtain ⟨h1, h2, h3, h4, hu⟩ := eT hk
  obtain ⟨j, rfl⟩ := Int.eq_ofNat_of_zero_le (show 0 ≤ c from h1)
  have hj : j < m.length := by have : (j : Int) < m.length := h2;omega
  obtain ⟨k, hkk⟩ := Int.eq_ofNat_of_zero_le (show 0 ≤ dE m[j]!.stk t from h4)
  have huk : m[j]!.stk[k]!.uq = true := by
   have h : m[j]!.stk[(dE m[j]!.stk t).toNat]!.uq = true := hu rfl
   rwa [hkk, Int.toNat_natCast] at h
  have htw := sY m j t k m.length hm rfl hj hkk h3 huk
  have hrl : (m[j]!.stk.take (k + 1)).length = k + 1 := by
   have hb := eZ m[j]!.stk t
   rw [List.length_take]; omega
  have hol := eB (m := m) (j := j) (X := .own (0 + 1 + 2) 0 (k + 1) 2)
  have hls : (m.set j { m[j]! with alive := false }).length = m.length := List.length_set
  (refine aS Tryz.func188 rfl (by simp [Tryz.ntmps188]) ?_; rw [Tryz.ntmps188])
  repeat' (first|(apply aL;first|((apply oM (j := j));(case ha0 => rfl);(case hmc => exact uG m j hm hj);(case hM|hN => rfl))|((apply vF (m := m) (j := j) (t := t) (k := k) (n := m.length));(case ha0|ha1|ha2|hH0|hH1|hdd => rfl);(case hmc => exact htw);(case hM|hN => rfl))|(apply aW;rfl;rfl;rfl;rfl;rfl;(rw [aU]; simp only [List.length_append, List.length_cons, List.length_nil]; omega);exact Iy hj)|(apply aE;rfl;rfl)|(first|(apply aN;rfl;rfl;rfl;rfl)|(apply aV;rfl;rfl;(exact (rfl:_=[_, _]));rfl;rfl;rfl))|(apply aD;rfl;rfl;rfl)|(apply aT;rfl;rfl;rfl;rfl)|(apply aC;rfl;rfl)|(apply cP;rfl;rfl;(assumption);rfl)|(apply aF;kernel_rfl)|(apply bQ;rfl;rfl;rfl;rfl))|(apply aM;first|apply aH|apply aB|(apply b8;rfl;(rfl))|apply aQ)|with_reducible apply aA)
  refine cE (Le.cls (o := 2) (q := 3) (j := j) (k := k + 1) (m := m.set j { m[j]! with alive := false }) (r := m[j]!.stk.take (k + 1)) rfl rfl hrl.symm (by rw [hls]; exact hj) (by decide)) ?_
  refine cE (Le.frzD (d := 4) (i := 2) rfl rfl) ?_
  rw [lJ hj, set_set]
  refine aO (l := [.imm m.length (aJ c8 (m.set j { m[j]! with alive := false, stk := m[j]!.stk.take (k + 1) })), iv 0]) rfl ?_
  have eM : iF m ⟨j, t⟩ = m.set j { m[j]! with alive := false, stk := m[j]!.stk.take (k + 1) } := by
   unfold iF iY;rw [if_pos hk]; dsimp only
   rw [Int.toNat_natCast, hkk, Int.toNat_natCast]; unfold fO;rw [if_pos rfl]
  rw [eM, hk, fP (by rw [List.length_set])]
  exact ⟨rfl, by (exact Pur.pf)⟩
 ·(refine aS Tryz.func188 rfl (by simp [Tryz.ntmps188]) ?_; rw [Tryz.ntmps188])
  repeat' (first|(apply aL;first|(apply iO;rfl;exact kN m hm;rfl;rfl)|((apply mU (m := m) (x := x) (wr := true) (n := m.length));(case ha0|ha1|ha2|hH0 => rfl);(case hmc => exact oU m x true _ hm rfl hk);(case hM|hN => rfl))|(apply aE;rfl;rfl)|(apply aV;rfl;rfl;(exact (rfl:_=[_, _]));rfl;rfl;rfl)|(apply aT;rfl;rfl;rfl;rfl)|(apply aC;rfl;rfl)|(apply aF;kernel_rfl)|(apply bQ;rfl;rfl;rfl;rfl))|(apply aM;first|apply aH|apply aB|(apply aP;rfl;all_goals intro hc;have hq:=hc;(try simp only [cH] at hq);try exfalso;omega)|apply aR|apply aQ)|with_reducible apply aA)
  (refine cE (Le.frzD (d := 4) (i := 2) rfl rfl) ?_; refine aO rfl ?_)
  refine ⟨?_, by (exact Pur.pf)⟩
  simp only [bV]
  unfold iF;rw [if_neg hk]
theorem xE (m : List Cl) (hm : OkM m) (x : Pt) (v : Int) : PC Tryz.prog 135 [sl c8 m, m3 x, iv v] (fun r => r = .tup [sl c8 (nY m x v), iv (oB m x v)]) := by
 have hml := hm.l
 by_cases hv : 0 ≤ v ∧ v ≤ 9
 case neg =>
  have hwk : oB m x v = 4 := by unfold oB;rw [if_neg hv]
  have e : nY m x v = m := by unfold nY;rw [if_neg (by rw [hwk]; decide)]
  (refine aS Tryz.func135 rfl (by simp [Tryz.ntmps135]) ?_; rw [Tryz.ntmps135])
  repeat' (first|(apply aL;first|(apply iO;rfl;exact kN m hm;rfl;rfl)|(apply aE;rfl;rfl)|(apply aC;rfl;rfl)|((with_reducible apply aI (k := 84));(case ha => rfl);(case h => (apply eA <;> (fail)));(case hp => (rfl));(case hN => rfl))|(apply aF;kernel_rfl)|(apply cG;rfl;rfl)|(apply bQ;rfl;rfl;rfl;rfl))|(apply aM;first|apply aH|apply aB|(apply aP;rfl;all_goals intro hc;have hq:=hc;(try simp only [cH] at hq);try exfalso;omega)|apply aQ)|with_reducible apply aA|with_reducible apply bD)
  all_goals (try (exfalso;omega))
  all_goals (
   (refine cE (Le.frzD (d := 6) (i := 2) rfl rfl) ?_; refine aO rfl ?_)
   refine ⟨?_, by (exact Pur.pf)⟩
   simp only [bV]
   rw [e, hwk])
 case pos =>
 have hwk : oB m x v = cM m x true := by unfold oB;rw [if_pos hv]
 by_cases hk : cM m x true = 0
 ·obtain ⟨c, t⟩ := x
  obtain ⟨h1, h2, h3, h4, hu⟩ := eT hk
  obtain ⟨j, rfl⟩ := Int.eq_ofNat_of_zero_le (show 0 ≤ c from h1)
  have hj : j < m.length := by have : (j : Int) < m.length := h2;omega
  obtain ⟨k, hkk⟩ := Int.eq_ofNat_of_zero_le (show 0 ≤ dE m[j]!.stk t from h4)
  have huk : m[j]!.stk[k]!.uq = true := by
   have h : m[j]!.stk[(dE m[j]!.stk t).toNat]!.uq = true := hu rfl
   rwa [hkk, Int.toNat_natCast] at h
  have htw := sY m j t k m.length hm rfl hj hkk h3 huk
  have hrl : (m[j]!.stk.take (k + 1)).length = k + 1 := by
   have hb := eZ m[j]!.stk t
   rw [List.length_take]; omega
  have hol := eB (m := m) (j := j) (X := .own (0 + 1 + 2) 0 (k + 1) 2)
  have hls : (m.set j { m[j]! with val := v }).length = m.length := List.length_set
  (refine aS Tryz.func135 rfl (by simp [Tryz.ntmps135]) ?_; rw [Tryz.ntmps135])
  repeat' (first|(apply aL;first|((apply oM (j := j));(case ha0 => rfl);(case hmc => exact uG m j hm hj);(case hM|hN => rfl))|((apply vF (m := m) (j := j) (t := t) (k := k) (n := m.length));(case ha0|ha1|ha2|hH0|hH1|hdd => rfl);(case hmc => exact htw);(case hM|hN => rfl))|(apply aW;rfl;rfl;rfl;rfl;rfl;(rw [aU]; simp only [List.length_append, List.length_cons, List.length_nil]; omega);exact Ji hj)|(apply aE;rfl;rfl)|(first|(apply aN;rfl;rfl;rfl;rfl)|(apply aV;rfl;rfl;(exact (rfl:_=[_, _]));rfl;rfl;rfl))|(apply aD;rfl;rfl;rfl)|(apply aT;rfl;rfl;rfl;rfl)|(apply aC;rfl;rfl)|(apply cP;rfl;rfl;(assumption);rfl)|((with_reducible apply aI (k := 84));(case ha => rfl);(case h => (apply eA <;> (fail)));(case hp => (rfl));(case hN => rfl))|(apply aF;kernel_rfl)|(apply cG;rfl;rfl)|(apply bQ;rfl;rfl;rfl;rfl))|(apply aM;first|apply aH|apply aB|(apply b8;rfl;(rfl))|(apply aP;rfl;all_goals intro hc;have hq:=hc;(try simp only [cH] at hq);try exfalso;omega)|apply aR|apply aQ)|with_reducible apply aA)
  refine cE (Le.cls (o := 2) (q := 3) (j := j) (k := k + 1) (m := m.set j { m[j]! with val := v }) (r := m[j]!.stk.take (k + 1)) rfl rfl hrl.symm (by rw [hls]; exact hj) (by decide)) ?_
  refine cE (Le.frzD (d := 6) (i := 2) rfl rfl) ?_
  rw [lJ hj, set_set]
  refine aO (l := [.imm m.length (aJ c8 (m.set j { m[j]! with val := v, stk := m[j]!.stk.take (k + 1) })), iv 0]) rfl ?_
  have eM : nY m ⟨j, t⟩ v = m.set j { m[j]! with val := v, stk := m[j]!.stk.take (k + 1) } := by
   unfold nY iY;rw [hwk, if_pos hk]; dsimp only
   rw [Int.toNat_natCast, hkk, Int.toNat_natCast]; unfold fO;rw [if_pos rfl]
  rw [eM, hwk, hk, fP (by rw [List.length_set])]
  exact ⟨rfl, by (exact Pur.pf)⟩
 ·(refine aS Tryz.func135 rfl (by simp [Tryz.ntmps135]) ?_; rw [Tryz.ntmps135])
  repeat' (first|(apply aL;first|(apply iO;rfl;exact kN m hm;rfl;rfl)|((apply mU (m := m) (x := x) (wr := true) (n := m.length));(case ha0|ha1|ha2|hH0 => rfl);(case hmc => exact oU m x true _ hm rfl hk);(case hM|hN => rfl))|(apply aE;rfl;rfl)|(apply aV;rfl;rfl;(exact (rfl:_=[_, _]));rfl;rfl;rfl)|(apply aT;rfl;rfl;rfl;rfl)|(apply aC;rfl;rfl)|((with_reducible apply aI (k := 84));(case ha => rfl);(case h => (apply eA <;> (fail)));(case hp => (rfl));(case hN => rfl))|(apply aF;kernel_rfl)|(apply cG;rfl;rfl)|(apply bQ;rfl;rfl;rfl;rfl))|(apply aM;first|apply aH|apply aB|(apply aP;rfl;all_goals intro hc;have hq:=hc;(try simp only [cH] at hq);try exfalso;omega)|apply aR|apply aQ)|with_reducible apply aA)
  (refine cE (Le.frzD (d := 6) (i := 2) rfl rfl) ?_; refine aO rfl ?_)
  refine ⟨?_, by (exact Pur.pf)⟩
  simp only [bV]
  unfold nY;rw [hwk, if_neg hk]
theorem Bk (m : List Cl) (hm : OkM m) (v : Int) : PC Tryz.prog 185 [sl c8 m, iv v] (fun r => r = .tup [sl c8 (m ++ [nV v]), .agg [iv m.length, iv 0]]) := by
 have hml := hm.l
 (refine aS Tryz.func185 rfl (by simp [Tryz.ntmps185]) ?_; rw [Tryz.ntmps185])
 repeat' (first|(apply aL;first|(apply iO;rfl;exact kN m hm;rfl;rfl)|(apply aE;rfl;rfl)|(apply aC;rfl;rfl)|(first|(apply bF;rfl;rfl;rfl)|(apply bY;rfl;rfl;rfl;rfl;rfl;(rw [aU]; omega);(rfl);omega;omega;(rfl);rfl;rfl))|(apply aF;kernel_rfl)|(apply cC;rfl;(first|exact (rfl:_=some [_, _])|exact (rfl:_=some [_, _, _, _]));(first|exact (rfl:_=[_, _])|exact (rfl:_=[_, _, _, _]));rfl)|(apply bE;rfl;rfl)|((apply bC (t := _));(case hze|hsm|hl => rfl);(case hfl => (first|exact (rfl:_=some [_, _])|exact (rfl:_=some [_, _, _, _])));(case hM|hN => rfl))|(apply aW;rfl;rfl;rfl;rfl;rfl;(case hl => (simp;done));(exact (rfl:_=[_, _]))))|(apply aM;first|apply aH|apply aB|apply aQ)|with_reducible apply aA)
 have e2 : AV.imm (m.length + 1) (((aJ c8 m).drop 0).take (m.length * 4) ++ [iv v, bv true, iv 1, .imm 1 [iv 0, bv true]]) = sl c8 (m ++ [nV v]) := by
  have e : ((aJ c8 m).drop 0).take (m.length * 4) ++ [iv v, bv true, iv 1, .imm 1 [iv 0, bv true]] = aJ c8 (m ++ [nV v]) := gE rfl rfl
  rw [e]; exact fP (by rw [List.length_append]; rfl)
 refine cE (Le.frzD (d := 4) (i := 5) rfl rfl) ?_
 refine aO (l := [AV.imm (m.length + 1) (((aJ c8 m).drop 0).take (m.length * 4) ++ [iv v, bv true, iv 1, .imm 1 [iv 0, bv true]]), .agg [iv m.length, iv 0]]) rfl ?_
 rw [e2]
 exact ⟨rfl, by (exact Pur.pf)⟩
theorem BX (m : List Cl) (hm : OkM m) (v : Int) : PC Tryz.prog 130 [sl c8 m, iv v] (fun r => r = .tup (if 0 ≤ v ∧ v ≤ 9 ∧ m.length < 200 then [sl c8 (m ++ [nV v]), .agg [iv m.length, iv 0], bv true] else [sl c8 [], .agg [iv 0, iv 0], bv false])) := by
 have hml := hm.l
 have hcv := iT m hm
 have hnc := Bk m hm v
 (refine aS Tryz.func130 rfl (by simp [Tryz.ntmps130]) ?_; rw [Tryz.ntmps130])
 repeat' (first|(apply aL;first|((with_reducible apply aI (k := 184));(case ha => rfl);(case h => exact hcv);(case hp => (exact Pur.pf));(case hN => rfl))|((with_reducible apply aI (k := 185));(case ha => rfl);(case h => exact hnc);(case hp => (exact Pur.pf));(case hN => rfl))|(apply aE;rfl;rfl)|(apply aV;rfl;rfl;(exact (rfl:_=[_, _]));rfl;rfl;rfl)|(first|(apply a6;rfl;rfl;rfl;(first|rfl|assumption))|(apply a7;rfl;rfl;rfl;(assumption))|(apply bI;(case hj|hb|hN => rfl);all_goals (intro hg;have hq := hg;(try simp only [cH] at hq);(try (exfalso;omega)))))|(apply aT;rfl;rfl;rfl;rfl)|(apply aC;rfl;rfl)|(first|(apply bT;rfl;(assumption);rfl;rfl)|(apply bH;rfl;(first|rfl|assumption);rfl;rfl))|((with_reducible apply aI (k := 84));(case ha => rfl);(case h => (apply eA <;> (fail)));(case hp => (rfl));(case hN => rfl))|(apply bF;rfl;rfl;rfl)|(apply aF;kernel_rfl)|(apply cC;rfl;(exact (rfl:_=some [_, _]));(exact (rfl:_=[_, _]));rfl)|(apply cG;rfl;rfl)|(apply bE;rfl;rfl)|(apply a8;rfl;rfl;rfl)|(apply aW;rfl;rfl;rfl;rfl;rfl;(case hl => (first|decide|(simp;done)));(exact (rfl:_=[_, _]))))|(apply aM;first|apply aH|apply aB|(apply b0;kernel_rfl)|(apply b8;rfl;(rfl))|(apply aP;rfl;all_goals intro hc;have hq:=hc;(try simp only [cH] at hq);try exfalso;omega)|apply aR|apply aQ)|with_reducible apply aA|with_reducible apply bD)
 ·refine cE (Le.nilImm (d := 4) rfl) ?_
  exact aO (l := [sl c8 [], .agg [iv 0, iv 0], bv false]) rfl ⟨by rw [if_neg (by omega)]; rfl, rfl⟩
 ·exact aO (l := [sl c8 (m ++ [nV v]), .agg [iv m.length, iv 0], bv true]) rfl ⟨by rw [if_pos (by omega)]; rfl, by (exact Pur.pf)⟩
 ·refine cE (Le.nilImm (d := 4) rfl) ?_
  exact aO (l := [sl c8 [], .agg [iv 0, iv 0], bv false]) rfl ⟨by rw [if_neg (by omega)]; rfl, rfl⟩
theorem DG {m : List Cl} {j : Nat} {t : Int} {r : List Tg} {n : Nat} {N : Nat} {Q : Exit → AS → Prop} {all : Array Oper} {rest : List Oper} {tsl : List (Nat × AV)} {hsl : List (Nat × Option (List AV))} {nidl : Nat} {z0 : Lo} {md : Md} {d : Nat} {ty : TypeId} {pos : String} {af : Array Edge} {tys : Array TypeId} {x0 x1 x2 : Operand} {i0 i1 : Nat} (ha0 : ev (lk tsl) x0 = some (.own i0 0 n 4)) (ha1 : ev (lk tsl) x1 = some (.agg [iv (j : Int), iv t])) (ha2 : ev (lk tsl) x2 = some (bv true)) (hH0 : cQ hsl i0 = some (aJ fR (eF m j (.own i1 0 m[j]!.stk.length 2)))) (hH1 : cQ hsl i1 = some (aJ dN m[j]!.stk)) (hdd : Go.AL.distinct [i0, i1] = true) (hmc : MC Tryz.prog 187 [.own 0 0 n 4, .agg [iv (j : Int), iv t], bv true] [(0, some (aJ fR (eF m j (.own 1 0 m[j]!.stk.length 2)))), (1, some (aJ dN m[j]!.stk))] 2 (fun _ : Unit => True) (fun _ => iv 0) (fun _ => [(0, some (aJ fR (eF m j (.own 1 0 r.length 2)))), (1, some (aJ dN r))])) (hM : Nat.ble (nidl + 0) eX = true) (hN : Nat.blt d N = true) {md' : Md} [hmd : MdA md (gJ [x0, x1, x2] ++ [.inr i0, .inr i1]) (List.map Sum.inr (List.map Prod.fst ([(i0, some (aJ fR (eF m j (.own i1 0 r.length 2)))), (i1, some (aJ dN r))] : List (Nat × Option (List AV)))) ++ [.inl d]) md'] (kk : RW Tryz.prog N all Q md' rest ⟨(d, iv 0) :: tsl, iJ hsl [(i0, some (aJ fR (eF m j (.own i1 0 r.length 2)))), (i1, some (aJ dN r))], nidl + 0, z0⟩) : RW Tryz.prog N all Q md (⟨some d, .call ⟨.value (.func 187), #[x0, x1, x2], tys⟩, ty, pos, af, none⟩ :: rest) ⟨tsl, hsl, nidl, z0⟩ := by
 refine cJ [i0, i1] 2 [(i0, some (aJ fR (eF m j (.own i1 0 r.length 2)))), (i1, some (aJ dN r))] hmc (avs := [.own i0 0 n 4, .agg [iv (j : Int), iv t], bv true]) ?_ hdd ?_ rfl ?_ (by simpa using hM) ?_ ?_ ?_ hN (md' := md') (hmd := hmd) kk
 ·show evL (lk tsl) [x0, x1, x2] = _
  simp only [evL, ha0, ha1, ha2]
 ·exact ⟨⟨_, _, rfl, hH0, by (repeat' (exact kL rfl))⟩, ⟨⟨_, _, rfl, hH1, by (repeat' (exact RnL.purI inferInstance))⟩, trivial⟩⟩
 ·(repeat' (first|exact RnL.purI inferInstance|exact RnV.own rfl|refine RnL.cons ?_ ?_))
 ·(repeat' (exact RnV.purI inferInstance))
 ·simp [dJ]
 ·(repeat' (first|exact trivial|(refine And.intro ⟨0, _, rfl, rfl, ?_⟩ ?_)|(refine And.intro ⟨1, _, rfl, rfl, ?_⟩ ?_)|exact RnL.purI inferInstance|exact kL rfl))
theorem Gd (m : List Cl) (j : Nat) (t : Int) (r : List Tg) (k n : Nat) (hm : OkM m) (hn : n = m.length) (hj : j < m.length) (hk : dE m[j]!.stk t = (k : Int)) (hal : m[j]!.alive = true) (hu : m[j]!.stk[k]!.uq = true) (hre : m[j]!.stk.take (k + 1) = r) (hrk : k + 1 = r.length) : MC Tryz.prog 187 [.own 0 0 n 4, .agg [iv (j : Int), iv t], bv true] [(0, some (aJ fR (eF m j (.own 1 0 m[j]!.stk.length 2)))), (1, some (aJ dN m[j]!.stk))] 2 (fun _ : Unit => True) (fun _ => iv 0) (fun _ => [(0, some (aJ fR (eF m j (.own 1 0 r.length 2)))), (1, some (aJ dN r))]) := by
 have h := sY m j t k n hm hn hj hk hal hu
 rw [hre, hrk] at h
 exact h
theorem I2 (m : List Cl) (hm : OkM m) (j k : Nat) (t : Int) (r : List Tg) (hj : j < m.length) (hkk : dE m[j]!.stk t = (k : Int)) (hk : cM m ⟨(j : Int), t⟩ false = 0) (hr : r = fO m[j]!.stk k false) : PC Tryz.prog 132 [sl c8 m, .agg [iv (j : Int), iv t], bv false] (fun z => z = .tup [sl c8 (j6 m m j false r), m3 (j8 m j r), iv (j7 m j r)]) := by
 have hml := hm.l
 obtain ⟨h1, h2, h3, h4, hu⟩ := eT hk
 have hc := ((dX m).1 hm).2 j hj
 have hb := eZ m[j]!.stk t
 have hrl : r.length ≤ 200 := by rw [hr]; exact Nat.le_trans tchS_sub.length_le hc.l.2
 have hnx := hc.n
 obtain ⟨_, e2, _⟩ := lV hk (r := r) (by rw [hr]; show _ = fO m[j]!.stk (dE m[j]!.stk t).toNat false;rw [hkk]; rfl)
 have e2' : j4 m ⟨(j : Int), t⟩ false = j6 m m j false r := e2
 have hok := hm.ln ⟨(j : Int), t⟩ false
 rw [e2'] at hok
 have hto := zR m j t r k m.length hm rfl hj hkk h3 hr
 have hog := iQ (m := m) (j := j) (X := .own (0 + 1 + 1 + 3 + 3) 0 r.length 2) hj
 have hol := eB (m := m) (j := j) (X := .own (0 + 1 + 1 + 3 + 3) 0 r.length 2)
 have hol2 := eB (m := m) (j := j) (X := .own (0 + 1 + 1 + 3 + 4 + 1) 0 (r.length + 1) 2)
 have hm2 : (m.set j { m[j]! with next := m[j]!.next + 1 }).length = m.length := List.length_set
 (refine aS Tryz.func132 rfl (by simp [Tryz.ntmps132]) ?_; rw [Tryz.ntmps132])
 repeat' (first|(apply aL;first|((apply oM (j := j));(case ha0 => rfl);(case hmc => exact uG m j hm hj);(case hM|hN => rfl))|((apply vX (m := m) (j := j) (t := t) (r := r) (n := m.length));(case ha0|ha1|ha2|hH0|hH1|hdd => rfl);(case hmc => exact hto);(case hM|hN => rfl))|(with_reducible apply cS (d := 32))|(apply aE;rfl;rfl)|(first|(apply cY;(case hx|hH => rfl);(case hf|hg|hα => infer_instance);(case hk => omega);(case hc|hN => rfl))|(apply aN;rfl;rfl;rfl;rfl)|(apply aV;rfl;rfl;(exact (rfl:_=[_, _]));rfl;rfl;rfl))|(apply aD;rfl;rfl;rfl)|(apply aT;rfl;rfl;rfl;rfl)|(apply aC;rfl;rfl)|(apply cP;rfl;rfl;(assumption);rfl)|(apply aF;kernel_rfl)|(apply bZ;rfl;rfl;rfl)|(apply bQ;rfl;rfl;rfl;rfl)|(apply bE;rfl;rfl))|(apply aM;first|apply aH|apply aB|(apply cF;rfl;(rfl))|apply aR)|with_reducible apply aA)
 refine dP ?_
 rw [hog]
 dsimp only
 by_cases hf : nX m j r
 ·have eM : j6 m m j false r = m := by unfold j6; rw [if_pos hf]
  have eP : j8 m j r = ⟨0, 0⟩ := by unfold j8;rw [if_pos hf]
  have eK : j7 m j r = 4 := by unfold j7;rw [if_pos hf]
  rw [eM, eP, eK]
  unfold nX at hf
  repeat' (first|(apply aL;first|(apply iO;rfl;exact kN m hm;rfl;rfl)|(with_reducible apply cS (d := 44))|(apply aE;rfl;rfl)|(apply cY;(case hx|hH => rfl);(case hf|hg|hα => infer_instance);(case hk => omega);(case hc|hN => rfl))|(apply aD;rfl;rfl;rfl)|(first|(apply a6;rfl;rfl;rfl;(assumption))|(apply a7;rfl;rfl;rfl;(assumption))|(apply bI;(case hj|hb|hN => rfl);all_goals (intro hg;have hq := hg;(try simp only [cH] at hq);(try (exfalso;omega)))))|(apply aT;rfl;rfl;rfl;rfl)|(apply aC;rfl;rfl)|(first|(apply bT;rfl;(assumption);rfl;rfl)|(apply bH;rfl;(assumption);rfl;rfl))|(apply bF;rfl;rfl;rfl)|(apply aF;kernel_rfl)|(apply cC;rfl;(exact (rfl:_=some [_, _]));(exact (rfl:_=[_, _]));rfl)|(apply bZ;rfl;rfl;rfl)|(apply aW;rfl;rfl;rfl;rfl;rfl;(decide);(exact (rfl:_=[_, _]))))|(apply aM;first|apply aH|apply aB|(apply b8;rfl;(rfl))|(apply aP;rfl;all_goals intro hc;have hq:=hc;(try simp only [cH] at hq);try exfalso;omega)|apply aR|apply aQ)|with_reducible apply aA|with_reducible apply bD)
  ·refine cE (Le.frzD (d := 6) (i := 10) rfl rfl) ?_
   exact aO (l := [sl c8 m, .agg [iv 0, iv 0], iv 4]) rfl ⟨rfl, by (exact Pur.pf)⟩
  ·exfalso
   have h : ¬ (eF m j (.own (0 + 1 + 1 + 3 + 3) 0 r.length 2))[j]!.next = 1000 := by assumption
   rw [hog] at h
   dsimp only at h
   omega
  ·refine cE (Le.frzD (d := 6) (i := 10) rfl rfl) ?_
   exact aO (l := [sl c8 m, .agg [iv 0, iv 0], iv 4]) rfl ⟨rfl, by (exact Pur.pf)⟩
 ·have eM : j6 m m j false r = m.set j (psh { m[j]! with stk := r } false) := by unfold j6; rw [if_neg hf]
  have eP : j8 m j r = ⟨j, m[j]!.next⟩ := by unfold j8;rw [if_neg hf]
  have eK : j7 m j r = 0 := by unfold j7;rw [if_neg hf]
  rw [eM] at hok
  rw [eM, eP, eK]
  unfold nX at hf
  have hown := kN _ hok
  repeat' (first|(apply aL;first|(with_reducible apply cS (d := 41))|(with_reducible apply cS (d := 54))|(apply aE;rfl;rfl)|(apply cY;(case hx|hH => rfl);(case hf|hg|hα => infer_instance);(case hk => omega);(case hc|hN => rfl))|(apply aD;rfl;rfl;rfl)|(first|(apply a6;rfl;rfl;rfl;(assumption))|(apply bI;(case hj|hb|hN => rfl);all_goals (intro hg;have hq := hg;(try simp only [cH] at hq);(try (exfalso;omega)))))|(apply aT;rfl;rfl;rfl;rfl)|(apply aC;rfl;rfl)|(apply bH;rfl;(assumption);rfl;rfl)|(apply bF;rfl;rfl;rfl)|(apply aF;kernel_rfl)|(apply bZ;rfl;rfl;rfl))|(apply aM;first|apply aH|apply aB|(apply aP;rfl;all_goals intro hc;have hq:=hc;(try simp only [cH] at hq);try exfalso;omega)|apply aR)|with_reducible apply aA)
  ·exfalso
   have h : (eF m j (.own (0 + 1 + 1 + 3 + 3) 0 r.length 2))[j]!.next = 1000 := by assumption
   rw [hog] at h
   dsimp only at h
   omega
  ·refine dP ?_
   rw [hog]
   dsimp only
   repeat' (first|(apply aL;first|(apply aW;rfl;rfl;rfl;rfl;rfl;(rw [aU, eB]; simp only [List.length_append, List.length_cons, List.length_nil]; omega);(first|exact rY hj|exact xW hj))|(apply aE;rfl;rfl)|(apply aD;rfl;rfl;rfl)|(apply bS;rfl;rfl;omega;rfl)|(apply bY;rfl;rfl;rfl;rfl;rfl;(rw [aU]; omega);(rfl);omega;omega;(exact uJ (by (omega)));rfl;rfl)|(apply aF;kernel_rfl)|(apply cC;rfl;(exact (rfl:_=some [_, _]));(exact (rfl:_=[_, _]));rfl)|(apply bZ;rfl;rfl;rfl)|((apply bC (t := _));(case hze|hsm|hl => rfl);(case hfl => (exact (rfl:_=some [_, _])));(case hM|hN => rfl)))|(apply aM;(apply aH))|with_reducible apply aA)
   refine AW.le ?_ (Le.cls (o := 3) (q := 0 + 1 + 1 + 3 + 4 + 1) (j := j) (k := r.length + 1) (m := m.set j { m[j]! with next := m[j]!.next + 1 }) (r := r ++ [⟨m[j]!.next, false⟩]) rfl rfl (by (rw [List.length_append]; rfl)) (by omega) (by decide))
   refine AW.le ?_ (Le.frzD (d := 9) (i := 3) rfl rfl)
   have e : (m.set j { m[j]! with next := m[j]!.next + 1 }).set j { (m.set j { m[j]! with next := m[j]!.next + 1 })[j]! with stk := r ++ [⟨m[j]!.next, false⟩] } = m.set j (psh { m[j]! with stk := r } false) := by
    rw [lJ hj, set_set]; rfl
   rw [e, fP (f := c8) (xs := m.set j (psh { m[j]! with stk := r } false)) (by rw [List.length_set])]
   repeat' (first|(apply aL;first|(apply iO;rfl;exact hown;rfl;rfl)|(apply aE;rfl;rfl)|(apply aN;rfl;rfl;rfl;rfl)|(apply aD;rfl;rfl;rfl)|(apply aC;rfl;rfl)|(apply aF;kernel_rfl)|(apply cC;rfl;(exact (rfl:_=some [_, _]));(exact (rfl:_=[_, _]));rfl)|(apply aW;rfl;rfl;rfl;rfl;rfl;(case hl => (simp;done));(exact (rfl:_=[_, _]))))|(apply aM;first|(apply b0;kernel_rfl)|apply aQ)|with_reducible apply aA)
   refine cE (Le.frzD (d := 6) (i := 12) rfl rfl) ?_
   exact aO (l := [sl c8 (m.set j (psh { m[j]! with stk := r } false)), .agg [iv (j : Int), iv m[j]!.next], iv 0]) rfl ⟨rfl, by (exact Pur.pf)⟩
  all_goals (exfalso;omega)
theorem Ia (m : List Cl) (hm : OkM m) (j k : Nat) (t : Int) (r : List Tg) (hj : j < m.length) (hkk : dE m[j]!.stk t = (k : Int)) (hk : cM m ⟨(j : Int), t⟩ true = 0) (hr : r = fO m[j]!.stk k true) : PC Tryz.prog 132 [sl c8 m, .agg [iv (j : Int), iv t], bv true] (fun z => z = .tup [sl c8 (j6 m m j true r), m3 (j8 m j r), iv (j7 m j r)]) := by
 have hml := hm.l
 obtain ⟨h1, h2, h3, h4, hu⟩ := eT hk
 have hc := ((dX m).1 hm).2 j hj
 have hb := eZ m[j]!.stk t
 have hrl : r.length ≤ 200 := by rw [hr]; exact Nat.le_trans tchS_sub.length_le hc.l.2
 have hnx := hc.n
 obtain ⟨_, e2, _⟩ := lV hk (r := r) (by rw [hr]; show _ = fO m[j]!.stk (dE m[j]!.stk t).toNat true;rw [hkk]; rfl)
 have e2' : j4 m ⟨(j : Int), t⟩ true = j6 m m j true r := e2
 have hok := hm.ln ⟨(j : Int), t⟩ true
 rw [e2'] at hok
 have huk : m[j]!.stk[k]!.uq = true := by
  have h : m[j]!.stk[(dE m[j]!.stk t).toNat]!.uq = true := hu rfl
  rwa [hkk, Int.toNat_natCast] at h
 have hre : m[j]!.stk.take (k + 1) = r := by rw [hr]; unfold fO;rw [if_pos rfl]
 have hrk : k + 1 = r.length := by rw [← hre, List.length_take]; omega
 have hto := Gd m j t r k m.length hm rfl hj hkk h3 huk hre hrk
 clear hre hrk huk hu hr hkk
 have hog := iQ (m := m) (j := j) (X := .own (0 + 1 + 1 + 2) 0 r.length 2) hj
 have hol := eB (m := m) (j := j) (X := .own (0 + 1 + 1 + 2) 0 r.length 2)
 have hol2 := eB (m := m) (j := j) (X := .own (0 + 1 + 1 + 3 + 0 + 1) 0 (r.length + 1) 2)
 have hm2 : (m.set j { m[j]! with next := m[j]!.next + 1 }).length = m.length := List.length_set
 (refine aS Tryz.func132 rfl (by simp [Tryz.ntmps132]) ?_; rw [Tryz.ntmps132])
 repeat' (first|(apply aL;first|((apply oM (j := j));(case ha0 => rfl);(case hmc => exact uG m j hm hj);(case hM|hN => rfl))|((apply DG (m := m) (j := j) (t := t) (r := r) (n := m.length));(case ha0|ha1|ha2|hH0|hH1|hdd => rfl);(case hmc => exact hto);(case hM|hN => rfl))|(with_reducible apply cS (d := 32))|(apply aE;rfl;rfl)|(first|(apply cY;(case hx|hH => rfl);(case hf|hg|hα => infer_instance);(case hk => omega);(case hc|hN => rfl))|(apply aN;rfl;rfl;rfl;rfl)|(apply aV;rfl;rfl;(exact (rfl:_=[_, _]));rfl;rfl;rfl))|(apply aD;rfl;rfl;rfl)|(apply aT;rfl;rfl;rfl;rfl)|(apply aC;rfl;rfl)|(apply cP;rfl;rfl;(assumption);rfl)|(apply aF;kernel_rfl)|(apply bZ;rfl;rfl;rfl)|(apply bQ;rfl;rfl;rfl;rfl)|(apply bE;rfl;rfl))|(apply aM;first|apply aH|apply aB|(apply cF;rfl;(rfl))|apply aR)|with_reducible apply aA)
 refine dP ?_
 rw [hog]
 dsimp only
 by_cases hf : nX m j r
 ·have eM : j6 m m j true r = m := by unfold j6; rw [if_pos hf]
  have eP : j8 m j r = ⟨0, 0⟩ := by unfold j8;rw [if_pos hf]
  have eK : j7 m j r = 4 := by unfold j7;rw [if_pos hf]
  rw [eM, eP, eK]
  unfold nX at hf
  repeat' (first|(apply aL;first|(apply iO;rfl;exact kN m hm;rfl;rfl)|(with_reducible apply cS (d := 44))|(apply aE;rfl;rfl)|(apply cY;(case hx|hH => rfl);(case hf|hg|hα => infer_instance);(case hk => omega);(case hc|hN => rfl))|(apply aD;rfl;rfl;rfl)|(first|(apply a6;rfl;rfl;rfl;(assumption))|(apply a7;rfl;rfl;rfl;(assumption))|(apply bI;(case hj|hb|hN => rfl);all_goals (intro hg;have hq := hg;(try simp only [cH] at hq);(try (exfalso;omega)))))|(apply aT;rfl;rfl;rfl;rfl)|(apply aC;rfl;rfl)|(first|(apply bT;rfl;(assumption);rfl;rfl)|(apply bH;rfl;(assumption);rfl;rfl))|(apply bF;rfl;rfl;rfl)|(apply aF;kernel_rfl)|(apply cC;rfl;(exact (rfl:_=some [_, _]));(exact (rfl:_=[_, _]));rfl)|(apply bZ;rfl;rfl;rfl)|(apply aW;rfl;rfl;rfl;rfl;rfl;(decide);(exact (rfl:_=[_, _]))))|(apply aM;first|apply aH|apply aB|(apply b8;rfl;(rfl))|(apply aP;rfl;all_goals intro hc;have hq:=hc;(try simp only [cH] at hq);try exfalso;omega)|apply aR|apply aQ)|with_reducible apply aA|with_reducible apply bD)
  ·refine cE (Le.frzD (d := 6) (i := 6) rfl rfl) ?_
   exact aO (l := [sl c8 m, .agg [iv 0, iv 0], iv 4]) rfl ⟨rfl, by (exact Pur.pf)⟩
  ·exfalso
   have h : ¬ (eF m j (.own (0 + 1 + 1 + 2) 0 r.length 2))[j]!.next = 1000 := by assumption
   rw [hog] at h
   dsimp only at h
   omega
  ·refine cE (Le.frzD (d := 6) (i := 6) rfl rfl) ?_
   exact aO (l := [sl c8 m, .agg [iv 0, iv 0], iv 4]) rfl ⟨rfl, by (exact Pur.pf)⟩
 ·have eM : j6 m m j true r = m.set j (psh { m[j]! with stk := r } true) := by unfold j6; rw [if_neg hf]
  have eP : j8 m j r = ⟨j, m[j]!.next⟩ := by unfold j8;rw [if_neg hf]
  have eK : j7 m j r = 0 := by unfold j7;rw [if_neg hf]
  rw [eM] at hok
  rw [eM, eP, eK]
  unfold nX at hf
  have hown := kN _ hok
  repeat' (first|(apply aL;first|(with_reducible apply cS (d := 41))|(with_reducible apply cS (d := 54))|(apply aE;rfl;rfl)|(apply cY;(case hx|hH => rfl);(case hf|hg|hα => infer_instance);(case hk => omega);(case hc|hN => rfl))|(apply aD;rfl;rfl;rfl)|(first|(apply a6;rfl;rfl;rfl;(assumption))|(apply bI;(case hj|hb|hN => rfl);all_goals (intro hg;have hq := hg;(try simp only [cH] at hq);(try (exfalso;omega)))))|(apply aT;rfl;rfl;rfl;rfl)|(apply aC;rfl;rfl)|(apply bH;rfl;(assumption);rfl;rfl)|(apply bF;rfl;rfl;rfl)|(apply aF;kernel_rfl)|(apply bZ;rfl;rfl;rfl))|(apply aM;first|apply aH|apply aB|(apply aP;rfl;all_goals intro hc;have hq:=hc;(try simp only [cH] at hq);try exfalso;omega)|apply aR)|with_reducible apply aA)
  ·exfalso
   have h : (eF m j (.own (0 + 1 + 1 + 2) 0 r.length 2))[j]!.next = 1000 := by assumption
   rw [hog] at h
   dsimp only at h
   omega
  ·refine dP ?_
   rw [hog]
   dsimp only
   repeat' (first|(apply aL;first|(apply aW;rfl;rfl;rfl;rfl;rfl;(rw [aU, eB]; simp only [List.length_append, List.length_cons, List.length_nil]; omega);(first|exact rY hj|exact xW hj))|(apply aE;rfl;rfl)|(apply aD;rfl;rfl;rfl)|(apply bS;rfl;rfl;omega;rfl)|(apply bY;rfl;rfl;rfl;rfl;rfl;(rw [aU]; omega);(rfl);omega;omega;(exact uJ (by (omega)));rfl;rfl)|(apply aF;kernel_rfl)|(apply cC;rfl;(exact (rfl:_=some [_, _]));(exact (rfl:_=[_, _]));rfl)|(apply bZ;rfl;rfl;rfl)|((apply bC (t := _));(case hze|hsm|hl => rfl);(case hfl => (exact (rfl:_=some [_, _])));(case hM|hN => rfl)))|(apply aM;(apply aH))|with_reducible apply aA)
   refine AW.le ?_ (Le.cls (o := 3) (q := 0 + 1 + 1 + 3 + 0 + 1) (j := j) (k := r.length + 1) (m := m.set j { m[j]! with next := m[j]!.next + 1 }) (r := r ++ [⟨m[j]!.next, true⟩]) rfl rfl (by (rw [List.length_append]; rfl)) (by omega) (by decide))
   refine AW.le ?_ (Le.frzD (d := 9) (i := 3) rfl rfl)
   have e : (m.set j { m[j]! with next := m[j]!.next + 1 }).set j { (m.set j { m[j]! with next := m[j]!.next + 1 })[j]! with stk := r ++ [⟨m[j]!.next, true⟩] } = m.set j (psh { m[j]! with stk := r } true) := by
    rw [lJ hj, set_set]; rfl
   rw [e, fP (f := c8) (xs := m.set j (psh { m[j]! with stk := r } true)) (by rw [List.length_set])]
   repeat' (first|(apply aL;first|(apply iO;rfl;exact hown;rfl;rfl)|(apply aE;rfl;rfl)|(apply aN;rfl;rfl;rfl;rfl)|(apply aD;rfl;rfl;rfl)|(apply aC;rfl;rfl)|(apply aF;kernel_rfl)|(apply cC;rfl;(exact (rfl:_=some [_, _]));(exact (rfl:_=[_, _]));rfl)|(apply aW;rfl;rfl;rfl;rfl;rfl;(case hl => (simp;done));(exact (rfl:_=[_, _]))))|(apply aM;first|(apply b0;kernel_rfl)|apply aQ)|with_reducible apply aA)
   refine cE (Le.frzD (d := 6) (i := 8) rfl rfl) ?_
   exact aO (l := [sl c8 (m.set j (psh { m[j]! with stk := r } true)), .agg [iv (j : Int), iv m[j]!.next], iv 0]) rfl ⟨rfl, by (exact Pur.pf)⟩
  all_goals (exfalso;omega)
theorem Jc (m : List Cl) (hm : OkM m) (x : Pt) (u : Bool) : PC Tryz.prog 132 [sl c8 m, m3 x, bv u] (fun r => r = .tup [sl c8 (j4 m x u), m3 (n7 m x u), iv (kQ m x u)]) := by
 have hml := hm.l
 by_cases hk : cM m x u = 0
 ·obtain ⟨c, t⟩ := x
  obtain ⟨h1, h2, h3, h4, hu⟩ := eT hk
  obtain ⟨j, rfl⟩ := Int.eq_ofNat_of_zero_le (show 0 ≤ c from h1)
  have hj : j < m.length := by have : (j : Int) < m.length := h2;omega
  obtain ⟨k, hkk⟩ := Int.eq_ofNat_of_zero_le (show 0 ≤ dE m[j]!.stk t from h4)
  obtain ⟨r, hr⟩ : ∃ r, r = fO m[j]!.stk k u := ⟨_, rfl⟩
  obtain ⟨e1, e2, e3⟩ := lV hk (r := r) (by rw [hr]; show _ = fO m[j]!.stk (dE m[j]!.stk t).toNat u;rw [hkk]; rfl)
  rw [e1, e2, e3]
  cases u
  ·exact I2 m hm j k t r hj hkk hk hr
  ·exact Ia m hm j k t r hj hkk hk hr
 ·obtain ⟨e1, e2, e3⟩ := Hj hk
  rw [e1, e2, e3]
  (refine aS Tryz.func132 rfl (by simp [Tryz.ntmps132]) ?_; rw [Tryz.ntmps132])
  repeat' (first|(apply aL;first|(apply iO;rfl;exact kN m hm;rfl;rfl)|((apply mU (m := m) (x := x) (wr := u) (n := m.length));(case ha0|ha1|ha2|hH0 => rfl);(case hmc => exact oU m x u _ hm rfl hk);(case hM|hN => rfl))|(apply aE;rfl;rfl)|(apply aV;rfl;rfl;(exact (rfl:_=[_, _]));rfl;rfl;rfl)|(apply aT;rfl;rfl;rfl;rfl)|(apply aC;rfl;rfl)|(apply aF;kernel_rfl)|(apply cC;rfl;(exact (rfl:_=some [_, _]));(exact (rfl:_=[_, _]));rfl)|(apply bQ;rfl;rfl;rfl;rfl)|(apply bE;rfl;rfl)|(apply aW;rfl;rfl;rfl;rfl;rfl;(decide);(exact (rfl:_=[_, _]))))|(apply aM;first|apply aH|apply aB|(apply aP;rfl;all_goals intro hc;have hq:=hc;(try simp only [cH] at hq);try exfalso;omega)|apply aQ)|with_reducible apply aA|with_reducible apply bD)
  refine cE (Le.frzD (d := 6) (i := 3) rfl rfl) ?_
  exact aO (l := [sl c8 m, .agg [iv 0, iv 0], iv (cM m x u)]) rfl ⟨rfl, by (exact Pur.pf)⟩
end Go.Proofs.YtckihjkcgfphmaaGreat
