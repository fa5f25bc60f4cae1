/-
 A part of the proofs over this program: rules and contracts of its functions (the contracts).
-/
import Derived.Test.YtckihjkcgfphmaaGreatP5B05
set_option linter.unusedVariables false
set_option linter.unusedSimpArgs false
set_option maxHeartbeats 8000000
set_option maxRecDepth 4000
attribute [local irreducible] Go.AL.RW Go.AL.AW Go.AL.Stop
namespace Go.Proofs.YtckihjkcgfphmaaGreat
open Go.AL Go.RowKit
theorem Le.bump {ts : List (Nat × AV)} {hs : List (Nat × Option (List AV))} {n : Nat} {z0 : Lo} (k : Nat) : Le ⟨ts, hs, n, z0⟩ ⟨ts, hs, n + k, z0⟩ := Le.of (fun _ _ h => h) (fun _ _ h => h) (Nat.le_add_right _ _) rfl
theorem wM {m : List Cl} {N : Nat} {Q : Exit → AS → Prop} {all : Array Oper} {rest : List Oper} {tsl : List (Nat × AV)} {hsl : List (Nat × Option (List AV))} {nidl : Nat} {z0 : Lo} {md : Md} {d : Nat} {ty : TypeId} {pos : String} {af : Array Edge} {tys : Array TypeId} {x0 : Operand} (ha0 : ev (lk tsl) x0 = some (sl c7 m)) (hmc : MC Tryz.prog 228 [sl c7 m] [] 0 (fun _ : Unit => True) (fun _ => .own 1 0 m.length 4) (fun _ => [(1, some (aI c7 m))])) (hM : Nat.ble (nidl + 2) eS = true) (hN : Nat.blt d N = true) {md' : Md} [hmd : MdA md (gL [x0] ++ []) (List.map Sum.inr (List.map Prod.fst ([((nidl + 1), some (aI c7 m))] : List (Nat × Option (List AV)))) ++ [.inl d]) md'] (kk : RW Tryz.prog N all Q md' rest ⟨(d, .own (nidl + 1) 0 m.length 4) :: tsl, iH hsl [((nidl + 1), some (aI c7 m))], nidl + 2, z0⟩) : RW Tryz.prog N all Q md (⟨some d, .call ⟨.value (.func 228), #[x0], tys⟩, ty, pos, af, none⟩ :: rest) ⟨tsl, hsl, nidl, z0⟩ := by
 refine cE [] 2 [((nidl + 1), some (aI c7 m))] hmc (avs := [sl c7 m]) ?_ rfl ?_ rfl ?_ (by simpa using hM) ?_ ?_ ?_ hN (md' := md') (hmd := hmd) kk
 ·show evL (lk tsl) [x0] = _
  simp only [evL, ha0]
 ·exact trivial
 ·(repeat' (exact RnL.purI inferInstance))
 ·(repeat' (exact RnV.own rfl))
 ·simp [dL]
 ·(repeat' (first|exact trivial|(refine And.intro ⟨1, _, rfl, rfl, ?_⟩ ?_)|exact RnL.purI inferInstance))
theorem zD (m : List Cl) (hl : m.length ≤ 1000000) : MC Tryz.prog 228 [sl c7 m] [] 0 (fun _ : Unit => True) (fun _ => .own 1 0 m.length 4) (fun _ => [(1, some (aI c7 m))]) := by
 (refine cC Tryz.func228 rfl (by simp [Tryz.ntmps228]) ?_; rw [Tryz.ntmps228])
 repeat' (first|(apply aL;first|(apply Ak;rfl;rfl;(intro b hb))|(apply aE;rfl;rfl)|(apply aC;rfl;rfl)|(apply bW;rfl;rfl;rfl;rfl;rfl;(case hl => (simp [aQ]; done));(exact iJ (by (rfl)));omega;omega;(exact e9 (by (omega)));rfl;rfl)|(apply aF;kernel_rfl)|(apply bZ;rfl;rfl;rfl;(rfl);rfl;rfl))|(apply aM;first|apply aH|apply aB|(apply aO;rfl;all_goals intro hc;have hq:=hc;(try simp only [cJ] at hq);try exfalso;omega)|apply aS|apply aR)|with_reducible apply aA|with_reducible apply bJ)
 ·have h0 : m = [] := List.eq_nil_of_length_eq_zero (hb (by assumption))
  subst h0
  refine cD (Le.bump 1) ?_
  refine cD (Le.nilOwn (d := 2) 4 rfl (by decide)) ?_
  (refine aP rfl ?_; refine bU () trivial ?_ ⟨.inr (Eq.trans (b := some _) rfl ?_), trivial⟩)
  ·rfl
  ·rfl
 ·(refine aP rfl ?_; refine bU () trivial ?_ ⟨.inr (Eq.trans (b := some _) rfl ?_), trivial⟩)
  ·show AV.own 1 0 (0 + m.length) 4 = _; rw [Nat.zero_add]
  ·rfl
theorem pR {m : List Tg} {N : Nat} {Q : Exit → AS → Prop} {all : Array Oper} {rest : List Oper} {tsl : List (Nat × AV)} {hsl : List (Nat × Option (List AV))} {nidl : Nat} {z0 : Lo} {md : Md} {d : Nat} {ty : TypeId} {pos : String} {af : Array Edge} {tys : Array TypeId} {x0 : Operand} (ha0 : ev (lk tsl) x0 = some (sl dM m)) (hmc : MC Tryz.prog 229 [sl dM m] [] 0 (fun _ : Unit => True) (fun _ => .own 1 0 m.length 2) (fun _ => [(1, some (aI dM m))])) (hM : Nat.ble (nidl + 2) eS = true) (hN : Nat.blt d N = true) {md' : Md} [hmd : MdA md (gL [x0] ++ []) (List.map Sum.inr (List.map Prod.fst ([((nidl + 1), some (aI dM m))] : List (Nat × Option (List AV)))) ++ [.inl d]) md'] (kk : RW Tryz.prog N all Q md' rest ⟨(d, .own (nidl + 1) 0 m.length 2) :: tsl, iH hsl [((nidl + 1), some (aI dM m))], nidl + 2, z0⟩) : RW Tryz.prog N all Q md (⟨some d, .call ⟨.value (.func 229), #[x0], tys⟩, ty, pos, af, none⟩ :: rest) ⟨tsl, hsl, nidl, z0⟩ := by
 refine cE [] 2 [((nidl + 1), some (aI dM m))] hmc (avs := [sl dM m]) ?_ rfl ?_ rfl ?_ (by simpa using hM) ?_ ?_ ?_ hN (md' := md') (hmd := hmd) kk
 ·show evL (lk tsl) [x0] = _
  simp only [evL, ha0]
 ·exact trivial
 ·(repeat' (exact RnL.purI inferInstance))
 ·(repeat' (exact RnV.own rfl))
 ·simp [dL]
 ·(repeat' (first|exact trivial|(refine And.intro ⟨1, _, rfl, rfl, ?_⟩ ?_)|exact RnL.purI inferInstance))
theorem zF (m : List Tg) (hl : m.length ≤ 1000000) : MC Tryz.prog 229 [sl dM m] [] 0 (fun _ : Unit => True) (fun _ => .own 1 0 m.length 2) (fun _ => [(1, some (aI dM m))]) := by
 (refine cC Tryz.func229 rfl (by simp [Tryz.ntmps229]) ?_; rw [Tryz.ntmps229])
 repeat' (first|(apply aL;first|(apply Ak;rfl;rfl;(intro b hb))|(apply aE;rfl;rfl)|(apply aC;rfl;rfl)|(apply bW;rfl;rfl;rfl;rfl;rfl;(case hl => (simp [aQ]; done));(exact iJ (by (rfl)));omega;omega;(exact e9 (by (omega)));rfl;rfl)|(apply aF;kernel_rfl)|(apply bZ;rfl;rfl;rfl;(rfl);rfl;rfl))|(apply aM;first|apply aH|apply aB|(apply aO;rfl;all_goals intro hc;have hq:=hc;(try simp only [cJ] at hq);try exfalso;omega)|apply aS|apply aR)|with_reducible apply aA|with_reducible apply bJ)
 ·have h0 : m = [] := List.eq_nil_of_length_eq_zero (hb (by assumption))
  subst h0
  refine cD (Le.bump 1) ?_
  refine cD (Le.nilOwn (d := 2) 2 rfl (by decide)) ?_
  (refine aP rfl ?_; refine bU () trivial ?_ ⟨.inr (Eq.trans (b := some _) rfl ?_), trivial⟩)
  ·rfl
  ·rfl
 ·(refine aP rfl ?_; refine bU () trivial ?_ ⟨.inr (Eq.trans (b := some _) rfl ?_), trivial⟩)
  ·show AV.own 1 0 (0 + m.length) 2 = _; rw [Nat.zero_add]
  ·rfl
theorem FL (t : Tg) (c g : Int) : PC Tryz.prog 231 [MK t, .iptr [iv c, iv g]] (fun r => r = bv (decide (t.id = g))) := by
 (refine aU Tryz.func231 rfl (by simp [Tryz.ntmps231]) ?_; rw [Tryz.ntmps231])
 repeat' (first|(apply aL;first|(apply aN;rfl;rfl;rfl;rfl)|(apply aD;rfl;rfl;rfl)|(apply aT;rfl;rfl;rfl;rfl)|(apply aC;rfl;rfl)|(apply aF;kernel_rfl)|(apply bK;rfl;rfl;rfl;rfl))|(apply aM;first|apply aH|apply aB|apply aR)|with_reducible apply aA)
 exact aP rfl ⟨rfl, rfl⟩
theorem Ba (t : Tg) : PC Tryz.prog 233 [MK t] (fun r => r = bv t.uq) := by
 (refine aU Tryz.func233 rfl (by simp [Tryz.ntmps233]) ?_; rw [Tryz.ntmps233])
 repeat' (first|(apply aL;first|(apply aN;rfl;rfl;rfl;rfl)|(apply aD;rfl;rfl;rfl)|(apply aC;rfl;rfl)|(apply aF;kernel_rfl)|(apply bK;rfl;rfl;rfl;rfl))|(apply aM;first|apply aH|apply aB|apply aR)|with_reducible apply aA)
 exact aP rfl ⟨rfl, rfl⟩
theorem yV (stk : List Tg) (c g : Int) (hl : stk.length ≤ 1000000) : PC Tryz.prog 230 [sl dM stk, .clos (.func 231) [] [.iptr [iv c, iv g]]] (fun r => r = iv (dE stk g)) := by
 (refine aU Tryz.func230 rfl (by simp [Tryz.ntmps230]) ?_; rw [Tryz.ntmps230])
 repeat' (first|(apply aL;first|(apply aE;rfl;rfl)|(apply aC;rfl;rfl)|(apply bC;rfl;rfl;rfl)|(apply aF;kernel_rfl))|(apply aM;first|apply aH|apply aB|apply aK)|with_reducible apply aA)
 refine a6 (σ := Nat) [0, 1, 7] [(0, _), (1, _), (7, _)] [] [] (fun k => [(8, iv (k : Int))]) (fun k => []) (fun k => k ≤ stk.length ∧ ∀ j, j < k → stk[j]!.id ≠ g) (fun k => stk.length - k) (0) ⟨by omega, by omega⟩ rfl rfl (by repeat' (first|exact trivial|refine And.intro rfl ?_)) (by repeat' (exact trivial)) ?_
 rintro k ⟨hk, hall⟩
 by_cases hkn : k < stk.length
 ·have hcl := FL stk[k]! c g
  repeat' (first|(apply aL;first|(apply aE;rfl;rfl)|(apply aV;rfl;rfl;(exact (rfl:_=[_, _]));rfl;rfl;rfl)|(first|(apply bR;rfl;rfl;omega;rfl)|(apply aT;rfl;rfl;rfl;rfl))|(apply aC;rfl;rfl)|(apply aZ;(case hx|hi => rfl);(case hm => (assumption));(case hml => (rfl));(case hα | hf|hg => infer_instance);(case hN => rfl))|((with_reducible apply jW);(case hx|hcl => rfl);(case hc => infer_instance);(case ha => rfl);(case h => (apply hcl <;> (fail)));(case hp => (rfl));(case hN => rfl))|(apply aF;kernel_rfl))|(apply aM;first|apply aH|apply aB|(apply aO;rfl;all_goals intro hc;have hq:=hc;(try simp only [cJ] at hq);try exfalso;omega)|apply aK|apply aS|apply aR)|with_reducible apply aA|with_reducible apply bJ|with_reducible apply aW|with_reducible apply cQ)
  ·refine aP rfl ⟨?_, rfl⟩
   simp only [bX]; rw [xT hkn (by assumption) hall]
  ·(apply dJ (k + 1); focus (refine Le.ren [] rfl (by decide) ?_ ?_ <;> repeat' (first | exact trivial | refine And.intro ⟨_, rfl, ?_⟩ ?_ | refine Or.inl ⟨?_, (by first | rfl | exact aY _ _)⟩ | rfl)))
   ·refine ⟨by omega, fun j hj => ?_⟩
    by_cases e : j = k
    ·subst e;assumption
    ·exact hall j (by omega)
   ·omega
 ·repeat' (first | (apply aL; first | (apply aT;rfl;rfl;rfl;rfl) | (apply aC;rfl;rfl) | (apply aF;kernel_rfl)) | (apply aM; first | apply aH | apply aB | (apply aO;rfl;all_goals intro hc;have hq:=hc;(try simp only [cJ] at hq);try exfalso;omega) | apply bG | apply aR) | with_reducible apply aA | with_reducible apply bH | with_reducible apply bF)
  refine aP rfl ⟨?_, rfl⟩
  have h2 : dE stk g < 0 := m9.2 (fun t ht => by obtain ⟨j, hj, rfl⟩ := List.getElem_of_mem ht;have := hall j (by omega);rwa [cV _ _ hj] at this)
  have hb := eZ stk g
  simp only [bX]; rw [show dE stk g = -1 by omega]
def rD (xs : List Tg) : Int := match xs.findIdx? (fun t => t.uq) with | some i => i | none => -1
theorem IC (stk : List Tg) (hl : stk.length ≤ 1000000) : PC Tryz.prog 230 [sl dM stk, .v (.func (.func 233) #[] #[])] (fun r => r = iv (rD stk)) := by
 (refine aU Tryz.func230 rfl (by simp [Tryz.ntmps230]) ?_; rw [Tryz.ntmps230])
 repeat' (first|(apply aL;first|(apply aE;rfl;rfl)|(apply aC;rfl;rfl)|(apply bC;rfl;rfl;rfl)|(apply aF;kernel_rfl))|(apply aM;first|apply aH|apply aB|apply aK)|with_reducible apply aA)
 refine a6 (σ := Nat) [0, 1, 7] [(0, _), (1, _), (7, _)] [] [] (fun k => [(8, iv (k : Int))]) (fun k => []) (fun k => k ≤ stk.length ∧ ∀ j, j < k → stk[j]!.uq = false) (fun k => stk.length - k) (0) ⟨by omega, by omega⟩ rfl rfl (by repeat' (first|exact trivial|refine And.intro rfl ?_)) (by repeat' (exact trivial)) ?_
 rintro k ⟨hk, hall⟩
 by_cases hkn : k < stk.length
 ·have hcl := Ba stk[k]!
  repeat' (first|(apply aL;first|(apply aE;rfl;rfl)|(apply aV;rfl;rfl;(exact (rfl:_=[_, _]));rfl;rfl;rfl)|(first|(apply bR;rfl;rfl;omega;rfl)|(apply aT;rfl;rfl;rfl;rfl))|(apply aC;rfl;rfl)|(apply aZ;(case hx|hi => rfl);(case hm => (assumption));(case hml => (rfl));(case hα | hf|hg => infer_instance);(case hN => rfl))|((with_reducible apply jW);(case hx|hcl => rfl);(case hc => infer_instance);(case ha => rfl);(case h => (apply hcl <;> (fail)));(case hp => (rfl));(case hN => rfl))|(apply aF;kernel_rfl))|(apply aM;first|apply aH|apply aB|(apply aO;rfl;all_goals intro hc;have hq:=hc;(try simp only [cJ] at hq);try exfalso;omega)|apply aK|apply aS|apply aR)|with_reducible apply aA|with_reducible apply bJ|with_reducible apply aW|with_reducible apply cQ)
  ·refine aP rfl ⟨?_, rfl⟩
   have hu : stk[k]!.uq = true := by assumption
   have : stk.findIdx? (fun t => t.uq) = some k := by
    rw [List.findIdx?_eq_some_iff_getElem]
    refine ⟨hkn, by rw [← cV stk k hkn]; exact hu, fun j hj => ?_⟩
    have := hall j hj;rw [cV stk j (by omega)] at this;rw [this]; decide
   simp only [bX, rD, this]
  ·have hu : stk[k]!.uq = false := by assumption
   (apply dJ (k + 1);focus (refine Le.ren [] rfl (by decide) ?_ ?_ <;> repeat' (first|exact trivial|refine And.intro ⟨_, rfl, ?_⟩ ?_|refine Or.inl ⟨?_, (by first|rfl|exact aY _ _)⟩|rfl)))
   ·refine ⟨by omega, fun j hj => ?_⟩
    by_cases e : j = k
    ·subst e;exact hu
    ·exact hall j (by omega)
   ·omega
 ·repeat' (first | (apply aL; first | (apply aT;rfl;rfl;rfl;rfl) | (apply aC;rfl;rfl) | (apply aF;kernel_rfl)) | (apply aM; first | apply aH | apply aB | (apply aO;rfl;all_goals intro hc;have hq:=hc;(try simp only [cJ] at hq);try exfalso;omega) | apply bG | apply aR) | with_reducible apply aA | with_reducible apply bH | with_reducible apply bF)
  refine aP rfl ⟨?_, rfl⟩
  have : stk.findIdx? (fun t => t.uq) = none := by
   rw [List.findIdx?_eq_none_iff]
   intro x hx
   obtain ⟨j, hj, rfl⟩ := List.getElem_of_mem hx
   have := hall j (by omega);rw [cV stk j hj] at this;exact this
  simp only [bX, rD, this]
theorem Ms {xs : List Tg} {k : Nat} {a : Int} {b : Bool} (hk : k < xs.length) : iN (aI dM xs) (0 + k * 2) [iv a, bv b] = aI dM (xs.set k ⟨a, b⟩) := mS hk rfl
theorem GK {cs new : List AV} {k : Nat} (h : k ≤ cs.length) : (iN cs (0 + k) new).take k = cs.take k := by
 unfold iN
 rw [Nat.zero_add, List.append_assoc, List.take_left' (by rw [List.length_take]; omega)]
def shr (xs : List Tg) : List Tg := xs.filter (fun t => !t.uq)
theorem DD {xs : List Tg} (h : rD xs = -1) : shr xs = xs := by
 unfold rD at h
 split at h
 ·omega
 ·rename_i hn
  rw [List.findIdx?_eq_none_iff] at hn
  unfold shr
  rw [List.filter_eq_self]
  intro t ht
  have := hn t ht
  simp [this]
theorem En {xs : List Tg} {i : Nat} (h : rD xs = (i : Int)) : i < xs.length ∧ xs[i]!.uq = true ∧ shr (xs.take (i + 1)) = xs.take i := by
 unfold rD at h
 split at h
 ·rename_i k hk
  obtain ⟨h1, h2, h3⟩ := List.findIdx?_eq_some_iff_getElem.1 hk
  have e : k = i := by omega
  subst e
  have hs : shr (xs.take k) = xs.take k := by
   unfold shr
   rw [List.filter_eq_self]
   intro t ht
   obtain ⟨j, hj, rfl⟩ := List.getElem_of_mem ht
   rw [List.length_take] at hj
   have := h3 j (by omega)
   rw [List.getElem_take]; simpa using this
  refine ⟨h1, by rw [cV _ _ h1]; exact h2, ?_⟩
  rw [c5 xs k h1]
  unfold shr at hs ⊢
  rw [List.filter_append, hs, m8 (by rw [cV _ _ h1, h2]; rfl), List.append_nil]
 ·omega
theorem Jj (xs : List Tg) : -1 ≤ rD xs ∧ rD xs < xs.length := by
 unfold rD
 split
 ·rename_i k hk
  obtain ⟨h1, _⟩ := List.findIdx?_eq_some_iff_getElem.1 hk
  omega
 ·omega
theorem JA {xs : List Tg} {j : Nat} (hj : j < xs.length) (h : xs[j]!.uq = false) : shr (xs.take (j + 1)) = shr (xs.take j) ++ [xs[j]!] := by
 rw [c5 xs j hj]; unfold shr
 rw [List.filter_append, qD (by rw [h]; rfl)]
theorem Fu {xs : List Tg} {j : Nat} (hj : j < xs.length) (h : xs[j]!.uq = true) : shr (xs.take (j + 1)) = shr (xs.take j) := by
 rw [c5 xs j hj]; unfold shr
 rw [List.filter_append, m8 (by rw [h]; rfl), List.append_nil]
theorem G2 {α : Type} [Inhabited α] {L : List α} {i : Nat} {x : α} (h : i < L.length) : (L.set i x).take (i + 1) = L.take i ++ [x] := by
 rw [List.set_eq_take_append_cons_drop, if_pos h]
 have h1 : (L.take i).length = i := by rw [List.length_take]; omega
 rw [List.take_append, h1, show i + 1 - i = 1 by omega, List.take_of_length_le (by omega)]
 rfl
theorem E2 {α : Type} [Inhabited α] {L M : List α} {j : Nat} (h : L.drop j = M.drop j) (hl : L.length = M.length) (hj : j < M.length) : L[j]! = M[j]! := by
 rw [cV _ _ (by omega), cV _ _ hj]
 rw [List.drop_eq_getElem_cons (by omega : j < L.length), List.drop_eq_getElem_cons hj] at h
 exact (List.cons.inj h).1
theorem tJ {α : Type} {L M : List α} {j : Nat} (h : L.drop j = M.drop j) : L.drop (j + 1) = M.drop (j + 1) := by
 rw [← List.drop_drop, h, List.drop_drop]
theorem IF {xs : List Tg} {m : Nat} {N : Nat} {Q : Exit → AS → Prop} {all : Array Oper} {rest : List Oper} {tsl : List (Nat × AV)} {hsl : List (Nat × Option (List AV))} {nidl : Nat} {z0 : Lo} {md : Md} {d : Nat} {ty : TypeId} {pos : String} {af : Array Edge} {tys : Array TypeId} {x0 x1 : Operand} {i0 : Nat} (ha0 : ev (lk tsl) x0 = some (.own i0 0 m 2)) (ha1 : ev (lk tsl) x1 = some (.v (.func (.func 233) #[] #[]))) (hH0 : cO hsl i0 = some (aI dM xs)) (hmc : MC Tryz.prog 232 [.own 0 0 m 2, .v (.func (.func 233) #[] #[])] [(0, some (aI dM xs))] 1 (fun _ : Unit => True) (fun _ => .own 0 0 (shr xs).length 2) (fun _ => [(0, some (aI dM (shr xs)))])) (hM : Nat.ble (nidl + 0) eS = true) (hN : Nat.blt d N = true) {md' : Md} [hmd : MdA md (gL [x0, x1] ++ [.inr i0]) (List.map Sum.inr (List.map Prod.fst ([(i0, some (aI dM (shr xs)))] : List (Nat × Option (List AV)))) ++ [.inl d]) md'] (kk : RW Tryz.prog N all Q md' rest ⟨(d, .own i0 0 (shr xs).length 2) :: tsl, iH hsl [(i0, some (aI dM (shr xs)))], nidl + 0, z0⟩) : RW Tryz.prog N all Q md (⟨some d, .call ⟨.value (.func 232), #[x0, x1], tys⟩, ty, pos, af, none⟩ :: rest) ⟨tsl, hsl, nidl, z0⟩ := by
 refine cE [i0] 1 [(i0, some (aI dM (shr xs)))] hmc (avs := [.own i0 0 m 2, .v (.func (.func 233) #[] #[])]) ?_ rfl ?_ rfl ?_ (by simpa using hM) ?_ ?_ ?_ hN (md' := md') (hmd := hmd) kk
 ·show evL (lk tsl) [x0, x1] = _
  simp only [evL, ha0, ha1]
 ·exact ⟨⟨_, _, rfl, hH0, by (repeat' (exact RnL.purI inferInstance))⟩, trivial⟩
 ·(repeat' (first|exact RnL.purI inferInstance|exact RnV.own rfl|refine RnL.cons ?_ ?_))
 ·(repeat' (exact RnV.own rfl))
 ·simp [dL]
 ·(repeat' (first|exact trivial|(refine And.intro ⟨0, _, rfl, rfl, ?_⟩ ?_)|exact RnL.purI inferInstance))
theorem J6 (xs : List Tg) (m : Nat) (hm : m = xs.length) (hl : m ≤ 1000000) : MC Tryz.prog 232 [.own 0 0 m 2, .v (.func (.func 233) #[] #[])] [(0, some (aI dM xs))] 1 (fun _ : Unit => True) (fun _ => .own 0 0 (shr xs).length 2) (fun _ => [(0, some (aI dM (shr xs)))]) := by
 subst hm
 have hix := IC xs hl
 have hbd := Jj xs
 by_cases hn : rD xs = -1
 ·rw [hn] at hix
  have hs := DD hn
  (refine cC Tryz.func232 rfl (by simp [Tryz.ntmps232]) ?_; rw [Tryz.ntmps232])
  repeat' (first|(apply aL;first|((with_reducible apply o5 (k := 230));(case ha => rfl);(case hl => (repeat' (first|exact mW|apply lQ|exact xQ|exact nA rfl inferInstance)));(case h => exact hix);(case hfr|hN => rfl);(case hmd => infer_instance))|(apply aE;rfl;rfl)|(apply aT;rfl;rfl;rfl;rfl)|(apply aC;rfl;rfl)|(apply aF;kernel_rfl))|(apply aM;first|apply aH|apply aB|(apply cA;rfl;(rfl))|apply aR)|with_reducible apply aA|with_reducible apply bJ)
  all_goals (
   (refine aP rfl ?_; refine bU () trivial ?_ ⟨.inr (Eq.trans (b := some _) rfl ?_), trivial⟩)
   ·rw [hs]; rfl
   ·rw [hs])
 ·obtain ⟨i0, hi0⟩ := Int.eq_ofNat_of_zero_le (show 0 ≤ rD xs by omega)
  obtain ⟨g1, g2, g3⟩ := En hi0
  rw [hi0] at hix
  (refine cC Tryz.func232 rfl (by simp [Tryz.ntmps232]) ?_; rw [Tryz.ntmps232])
  repeat' (first|(apply aL;first|((with_reducible apply o5 (k := 230));(case ha => rfl);(case hl => (repeat' (first|exact mW|apply lQ|exact xQ|exact nA rfl inferInstance)));(case h => exact hix);(case hfr|hN => rfl);(case hmd => infer_instance))|(apply aE;rfl;rfl)|(first|(apply bR;rfl;rfl;omega;rfl)|(apply aT;rfl;rfl;rfl;rfl))|(apply aC;rfl;rfl)|(apply aF;kernel_rfl))|(apply aM;first|apply aH|apply aB|(apply cH;rfl;(rfl))|apply aK|apply aS)|with_reducible apply aA)
  all_goals (try (exfalso;omega))
  refine a6 (σ := List Tg × Nat × Nat) [0, 1] [(0, _), (1, _)] [] [] (fun s => [(5, iv (s.2.1 : Int)), (6, iv (s.2.2 : Int))]) (fun s => [(0, some (aI dM s.1))]) (fun s => s.1.length = xs.length ∧ s.1.take s.2.1 = shr (xs.take s.2.2) ∧ s.1.drop s.2.2 = xs.drop s.2.2 ∧ s.2.1 < s.2.2 ∧ s.2.2 ≤ xs.length) (fun s => xs.length - s.2.2) (xs, i0, i0 + 1) ⟨rfl, g3.symm, rfl, by dsimp only;omega, by dsimp only;omega⟩ rfl rfl (by repeat' (first|exact trivial|refine And.intro rfl ?_)) (by repeat' (first|exact trivial|refine And.intro (.inr rfl) ?_)) ?_
  rintro ⟨L, i, j⟩ ⟨hL, ht, hd, hij, hj⟩
  dsimp only at hL ht hd hij hj ⊢
  by_cases hjn : j < xs.length
  ·have hcl := Ba L[j]!
   have hg := E2 hd hL hjn
   repeat' (first|(apply aL;first|(apply aE;rfl;rfl)|(first|(apply gS;(case hx|hH => rfl);(case hf|hg|hα => infer_instance);(case hk => omega);(case h0|hN => rfl))|(apply aV;rfl;rfl;(exact (rfl:_=[_, _]));rfl;rfl;rfl))|(first|(apply bR;rfl;rfl;omega;rfl)|(apply aT;rfl;rfl;rfl;rfl))|(apply aC;rfl;rfl)|(apply cM;rfl;rfl;(first|assumption|omega);rfl)|(apply bC;rfl;rfl;rfl)|((with_reducible apply jW);(case hx|hcl => rfl);(case hc => infer_instance);(case ha => rfl);(case h => (apply hcl <;> (fail)));(case hp => (rfl));(case hN => rfl))|(apply aF;kernel_rfl)|(apply cG;rfl;rfl)|(apply bI;rfl;rfl)|(apply aX;rfl;rfl;rfl;rfl;rfl;(case hl => (first|(rw [aQ]; simp only [fY] <;> omega)|(simp;done)));(first|exact Ms (by (first|assumption|omega))|exact (rfl:_=[_, _]))))|(apply aM;first|apply aH|apply aB|(apply aO;rfl;all_goals intro hc;have hq:=hc;(try simp only [cJ] at hq);try exfalso;omega)|apply aK|apply aS)|with_reducible apply aA|with_reducible apply aW)
   ·have hu : L[j]!.uq = false := by assumption
    (apply dJ (_, i + 1, j + 1);focus (refine Le.ren [] rfl (by decide) ?_ ?_ <;> repeat' (first|exact trivial|refine And.intro ⟨_, rfl, ?_⟩ ?_|refine And.intro ⟨_, _, rfl, rfl, ?_⟩ ?_|exact Or.inr rfl|refine Or.inl ⟨?_, (by first|rfl|exact aY _ _)⟩|rfl)))
    ·refine ⟨by dsimp only; rw [List.length_set]; exact hL, ?_, ?_, by dsimp only; omega, by dsimp only; omega⟩
     ·dsimp only
      rw [G2 (by omega), ht, JA hjn (by rw [← hg]; exact hu), hg]
     ·dsimp only
      rw [List.drop_set_of_lt (by omega)]
      exact tJ hd
    ·dsimp only;omega
   ·have hu : L[j]!.uq = true := by assumption
    (apply dJ (L, i, j + 1);focus (refine Le.ren [] rfl (by decide) ?_ ?_ <;> repeat' (first|exact trivial|refine And.intro ⟨_, rfl, ?_⟩ ?_|refine And.intro ⟨_, _, rfl, rfl, ?_⟩ ?_|exact Or.inr rfl|refine Or.inl ⟨?_, (by first|rfl|exact aY _ _)⟩|rfl)))
    ·refine ⟨hL, ?_, tJ hd, by dsimp only; omega, by dsimp only; omega⟩
     dsimp only
     rw [ht, Fu hjn (by rw [← hg]; exact hu)]
    ·dsimp only;omega
  ·have hfl : (aI dM L).length = L.length * 2 := aQ dM L
   repeat' (first|(apply aL;first|((apply hG (d := 38) (l := i) (h := xs.length));(case hx|hn => rfl);(case hl => exact pT rfl (by omega));(case hh => rfl);(case hp => exact if_pos (by omega));(case hN => rfl))|((apply hG (d := 41) (l := 0) (h := i));(case hx|hn|hl => rfl);(case hh => exact pT rfl (by omega));(case hp => exact if_pos (by omega));(case hN => rfl))|(apply Hr;rfl;rfl;omega;rfl;(rw [hfl]; omega);rfl)|(apply aE;rfl;rfl)|(apply aT;rfl;rfl;rfl;rfl)|(apply aC;rfl;rfl)|(apply bC;rfl;rfl;rfl)|(apply aF;kernel_rfl))|(apply aM;first|apply aH|apply aB|(apply aO;rfl;all_goals intro hc;have hq:=hc;(try simp only [cJ] at hq);try exfalso;omega)|apply bG|apply aR)|with_reducible apply aA|with_reducible apply bH|with_reducible apply bF)
   refine cD (Le.cut (i := 0) (i * 2) rfl) ?_
   have hje : j = xs.length := by omega
   have hLt : L.take i = shr xs := by rw [ht, hje, List.take_length]
   have hil : (shr xs).length = i := by rw [← hLt, List.length_take]; omega
   (refine aP rfl ?_; refine bU () trivial ?_ ⟨.inr (Eq.trans (b := some _) rfl ?_), trivial⟩)
   ·show AV.own 0 (0 + 0 * 2) (i - 0) 2 = _
    rw [hil]; rfl
   ·rw [GK (by omega), fA dM (e := 2), hLt]
theorem iR {m : List Cl} {N : Nat} {Q : Exit → AS → Prop} {all : Array Oper} {rest : List Oper} {tsl : List (Nat × AV)} {hsl : List (Nat × Option (List AV))} {nidl : Nat} {z0 : Lo} {md : Md} {d : Nat} {ty : TypeId} {pos : String} {af : Array Edge} {tys : Array TypeId} {x0 : Operand} (ha0 : ev (lk tsl) x0 = some (sl c7 m)) (hmc : MC Tryz.prog 186 [sl c7 m] [] 0 (fun _ : Unit => True) (fun _ => .own 1 0 m.length 4) (fun _ => [(1, some (aI c7 m))])) (hM : Nat.ble (nidl + 2) eS = true) (hN : Nat.blt d N = true) {md' : Md} [hmd : MdA md (gL [x0] ++ []) (List.map Sum.inr (List.map Prod.fst ([((nidl + 1), some (aI c7 m))] : List (Nat × Option (List AV)))) ++ [.inl d]) md'] (kk : RW Tryz.prog N all Q md' rest ⟨(d, .own (nidl + 1) 0 m.length 4) :: tsl, iH hsl [((nidl + 1), some (aI c7 m))], nidl + 2, z0⟩) : RW Tryz.prog N all Q md (⟨some d, .call ⟨.value (.func 186), #[x0], tys⟩, ty, pos, af, none⟩ :: rest) ⟨tsl, hsl, nidl, z0⟩ := by
 refine cE [] 2 [((nidl + 1), some (aI c7 m))] hmc (avs := [sl c7 m]) ?_ rfl ?_ rfl ?_ (by simpa using hM) ?_ ?_ ?_ hN (md' := md') (hmd := hmd) kk
 ·show evL (lk tsl) [x0] = _
  simp only [evL, ha0]
 ·exact trivial
 ·(repeat' (exact RnL.purI inferInstance))
 ·(repeat' (exact RnV.own rfl))
 ·simp [dL]
 ·(repeat' (first|exact trivial|(refine And.intro ⟨1, _, rfl, rfl, ?_⟩ ?_)|exact RnL.purI inferInstance))
theorem oH {m : List Cl} {j : Nat} {N : Nat} {Q : Exit → AS → Prop} {all : Array Oper} {rest : List Oper} {tsl : List (Nat × AV)} {hsl : List (Nat × Option (List AV))} {nidl : Nat} {z0 : Lo} {md : Md} {d : Nat} {ty : TypeId} {pos : String} {af : Array Edge} {tys : Array TypeId} {x0 : Operand} (ha0 : ev (lk tsl) x0 = some (sl c7 m)) (hmc : MC Tryz.prog 186 [sl c7 m] [] 0 (fun _ : Unit => True) (fun _ => .own 1 0 m.length 4) (fun _ => [(1, some (aI fR (eE m j (.own 2 0 m[j]!.stk.length 2)))), (2, some (aI dM m[j]!.stk))])) (hM : Nat.ble (nidl + 3) eS = true) (hN : Nat.blt d N = true) {md' : Md} [hmd : MdA md (gL [x0] ++ []) (List.map Sum.inr (List.map Prod.fst ([((nidl + 1), some (aI fR (eE m j (.own (nidl + 2) 0 m[j]!.stk.length 2)))), ((nidl + 2), some (aI dM m[j]!.stk))] : List (Nat × Option (List AV)))) ++ [.inl d]) md'] (kk : RW Tryz.prog N all Q md' rest ⟨(d, .own (nidl + 1) 0 m.length 4) :: tsl, iH hsl [((nidl + 1), some (aI fR (eE m j (.own (nidl + 2) 0 m[j]!.stk.length 2)))), ((nidl + 2), some (aI dM m[j]!.stk))], nidl + 3, z0⟩) : RW Tryz.prog N all Q md (⟨some d, .call ⟨.value (.func 186), #[x0], tys⟩, ty, pos, af, none⟩ :: rest) ⟨tsl, hsl, nidl, z0⟩ := by
 refine cE [] 3 [((nidl + 1), some (aI fR (eE m j (.own (nidl + 2) 0 m[j]!.stk.length 2)))), ((nidl + 2), some (aI dM m[j]!.stk))] hmc (avs := [sl c7 m]) ?_ rfl ?_ rfl ?_ (by simpa using hM) ?_ ?_ ?_ hN (md' := md') (hmd := hmd) kk
 ·show evL (lk tsl) [x0] = _
  simp only [evL, ha0]
 ·exact trivial
 ·(repeat' (exact RnL.purI inferInstance))
 ·(repeat' (exact RnV.own rfl))
 ·simp [dL]
 ·(repeat' (first|exact trivial|(refine And.intro ⟨1, _, rfl, rfl, ?_⟩ ?_)|(refine And.intro ⟨2, _, rfl, rfl, ?_⟩ ?_)|exact RnL.purI inferInstance|exact kP rfl))
theorem mD {α : Type} [Inhabited α] (l : List α) (k : Nat) : l.set k l[k]! = l := by
 rcases Nat.lt_or_ge k l.length with h|h
 ·rw [cV _ _ h]; simp
 ·exact List.set_eq_of_length_le h
theorem CA {m : List Cl} {i : Nat} (hi : i < m.length) : iN (aI c7 m) (0 + i * 4 + 3) [sl dM m[i]!.stk] = aI c7 m := by
 have h := Ck (xs := m) (k := i) (s := m[i]!.stk) hi
 rw [show m.set i { m[i]! with stk := m[i]!.stk } = m from mD m i] at h
 exact h
theorem Cw {m : List Cl} {i j : Nat} {X : AV} (hi : i < m.length) (h : i ≠ j) : (eE m j X)[i]! = rE m[i]! := by
 unfold eE
 rw [cV _ _ (by rw [List.length_set, List.length_map]; exact hi), List.getElem_set_ne (fun e => h e.symm), List.getElem_map, cV _ _ hi]
theorem IM {m : List Cl} {i j : Nat} {X : AV} (h : i < m.length ∧ i ≠ j) : iN (aI fR (eE m j X)) (0 + i * 4 + 3) [sl dM m[i]!.stk] = aI fR (eE m j X) := by
 have hl := eD (m := m) (j := j) (X := X)
 have e : (eE m j X).set i { (eE m j X)[i]! with av := sl dM m[i]!.stk } = eE m j X := by
  rw [Cw h.1 h.2]
  have : ({ rE m[i]! with av := sl dM m[i]!.stk } : Co) = (eE m j X)[i]! := by rw [Cw h.1 h.2]; rfl
  rw [this]; exact mD _ _
 rw [← e]
 have := fF (f := fR) (xs := eE m j X) (k := i) (j := 3) (new := [sl dM m[i]!.stk]) (y := { (eE m j X)[i]! with av := sl dM m[i]!.stk }) (by rw [hl]; exact h.1) (by simp) rfl
 rw [e] at this ⊢
 exact this
theorem pE {mp : List (Nat × Nat)} {lo : Lo} : ∀ {cs : List AV}, dA cs = true → All2 (vH mp lo) cs cs
 | [], _ => .nil
 | c :: cs, h => by
  simp only [dA, Bool.and_eq_true] at h
  exact .cons (.inl ⟨rfl, h.1⟩) (pE h.2)
theorem sB {α β : Type} {R : α → β → Prop} : ∀ {a : List α} {b : List β} {c : List α} {d : List β}, All2 R a b → All2 R c d → All2 R (a ++ c) (b ++ d)
 | _, _, _, _, .nil, h => h
 | _, _, _, _, .cons h1 h2, h => .cons h1 (sB h2 h)
theorem CS {mp : List (Nat × Nat)} {lo : Lo} {m : List Cl} {j k i i' : Nat} (h : j < m.length) (hr : Ia mp lo (.own i 0 k 2) = some (.own i' 0 k 2)) : All2 (vH mp lo) (aI fR (eE m j (.own i 0 k 2))) (aI fR (eE m j (.own i' 0 k 2))) := by
 rw [j8 h, j8 h]
 exact sB (pE (inferInstance : Pur (aI c7 _)).pf) (sB (pE (inferInstance : Pur [iv _, bv _, iv _]).pf) (.cons (.inr hr) (pE (inferInstance : Pur (aI c7 _)).pf)))
theorem kR (m : List Cl) (hm : OkM m) : MC Tryz.prog 186 [sl c7 m] [] 0 (fun _ : Unit => True) (fun _ => .own 1 0 m.length 4) (fun _ => [(1, some (aI c7 m))]) := by
 have hml := hm.l
 have hcc := zD m (by omega)
 (refine cC Tryz.func186 rfl (by simp [Tryz.ntmps186]) ?_; rw [Tryz.ntmps186])
 repeat' (first|(apply aL;first|(apply wM;rfl;exact hcc;rfl;rfl)|(apply aE;rfl;rfl)|(apply aC;rfl;rfl)|(apply bC;rfl;rfl;rfl)|(apply aF;kernel_rfl))|(apply aM;first|apply aH|apply aB|apply aK)|with_reducible apply aA)
 refine a6 (σ := Nat) [3, 8, 9] [(3, _), (8, _), (9, _)] [] [] (fun k => [(10, iv (k : Int))]) (fun k => [(1, some (aI c7 m))]) (fun k => k ≤ m.length) (fun k => m.length - k) (0) (Nat.zero_le _) rfl rfl (by repeat' (first|exact trivial|refine And.intro rfl ?_)) (by repeat' (first|exact trivial|refine And.intro (.inr rfl) ?_)) ?_
 rintro i hi
 by_cases hin : i < m.length
 ·have hst : m[i]!.stk.length ≤ 200 := (((eA m).1 hm).2 i hin).l.2
  have hct := zF m[i]!.stk (by omega)
  repeat' (first|(apply aL;first|(apply pR;rfl;exact hct;rfl;rfl)|(with_reducible apply cS (d := 20))|(apply aE;rfl;rfl)|(first|(apply gS;(case hx|hH => rfl);(case hf|hg|hα => infer_instance);(case hk => omega);(case h0|hN => rfl))|(apply aN;rfl;rfl;rfl;rfl))|(apply aD;rfl;rfl;rfl)|(apply aT;rfl;rfl;rfl;rfl)|(apply aC;rfl;rfl)|(apply cM;rfl;rfl;(assumption);rfl)|(apply aF;kernel_rfl)|(apply bI;rfl;rfl)|(apply aX;rfl;rfl;rfl;rfl;rfl;(case hl => (simp;done));(exact (rfl:_=[_, _, _, _]))))|(apply aM;first|apply aH|apply aB|(apply aO;rfl;all_goals intro hc;have hq:=hc;(try simp only [cJ] at hq);try exfalso;omega)|apply aK|apply aS)|with_reducible apply aA)
  refine dO (hO ?_ (Le.frzD (d := 19) (i := 4) rfl rfl))
  repeat' (first|(apply aL;first|(apply aE;rfl;rfl)|(apply aD;rfl;rfl;rfl)|(apply bR;rfl;rfl;omega;rfl)|(apply cM;rfl;rfl;(assumption);rfl)|(apply aF;kernel_rfl)|(apply aX;rfl;rfl;rfl;rfl;rfl;(rw [aQ]; simp only [fY] <;> omega);(exact CA (by (assumption)))))|(apply aM;(apply aB))|with_reducible apply aA|with_reducible apply aW)
  (apply dJ (i + 1);focus (refine Le.ren [(1, 1)] rfl (by decide) ?_ ?_ <;> repeat' (first|exact trivial|refine And.intro ⟨_, rfl, ?_⟩ ?_|refine And.intro ⟨_, _, rfl, rfl, ?_⟩ ?_|exact Or.inr rfl|refine Or.inl ⟨?_, (by first|rfl|exact aY _ _)⟩|rfl)))
  ·omega
  ·omega
 ·repeat' (first | (apply aL; first | (apply aE;rfl;rfl) | (apply aT;rfl;rfl;rfl;rfl) | (apply aC;rfl;rfl) | (apply aF;kernel_rfl)) | (apply aM; first | apply aH | apply aB | (apply aO;rfl;all_goals intro hc;have hq:=hc;(try simp only [cJ] at hq);try exfalso;omega) | apply bG | apply aR) | with_reducible apply aA | with_reducible apply bH | with_reducible apply bF)
  (refine aP rfl ?_; refine bU () trivial ?_ ⟨.inr (Eq.trans (b := some _) rfl ?_), trivial⟩)
  ·rfl
  ·rfl
theorem uT (m : List Cl) (j : Nat) (hm : OkM m) (hj : j < m.length) : MC Tryz.prog 186 [sl c7 m] [] 0 (fun _ : Unit => True) (fun _ => .own 1 0 m.length 4) (fun _ => [(1, some (aI fR (eE m j (.own 2 0 m[j]!.stk.length 2)))), (2, some (aI dM m[j]!.stk))]) := by
 have hml := hm.l
 have hcc := zD m (by omega)
 (refine cC Tryz.func186 rfl (by simp [Tryz.ntmps186]) ?_; rw [Tryz.ntmps186])
 repeat' (first|(apply aL;first|(apply wM;rfl;exact hcc;rfl;rfl)|(apply aE;rfl;rfl)|(apply aC;rfl;rfl)|(apply bC;rfl;rfl;rfl)|(apply aF;kernel_rfl))|(apply aM;first|apply aH|apply aB|apply aK)|with_reducible apply aA)
 refine AW.le ?_ (Le.bump 1)
 refine a6 (σ := Nat × Bool) [3, 8, 9] [(3, _), (8, _), (9, _)] [] [] (fun k => [(10, iv (k.1 : Int))]) (fun k => [(1, some (cond k.2 (aI fR (eE m j (.own 2 0 m[j]!.stk.length 2))) (aI c7 m))), (2, cond k.2 (some (aI dM m[j]!.stk)) none)]) (fun k => k.1 ≤ m.length ∧ k.2 = decide (j < k.1)) (fun k => m.length - k.1) (0, false) ⟨Nat.zero_le _, by simp⟩ rfl rfl (by repeat' (first|exact trivial|refine And.intro rfl ?_)) (by repeat' (first|exact trivial|refine And.intro (.inr rfl) ?_)) ?_
 rintro ⟨i, b⟩ ⟨hi, hb⟩
 dsimp only at hi hb ⊢
 by_cases hin : i < m.length
 ·have hst : m[i]!.stk.length ≤ 200 := (((eA m).1 hm).2 i hin).l.2
  have hct := zF m[i]!.stk (by omega)
  by_cases hij : j < i
  ·rw [decide_eq_true hij] at hb; subst hb
   simp only [cond_true]
   have hol := eD (m := m) (j := j) (X := .own 2 0 m[j]!.stk.length 2)
   have hon := Cw (m := m) (i := i) (j := j) (X := .own 2 0 m[j]!.stk.length 2) hin (by omega)
   repeat' (first|(apply aL;first|(with_reducible apply cS (d := 5))|(apply aE;rfl;rfl)|(apply gS;(case hx|hH => rfl);(case hf|hg|hα => infer_instance);(case hk => omega);(case h0|hN => rfl))|(apply aT;rfl;rfl;rfl;rfl)|(apply cM;rfl;rfl;(assumption);rfl)|(apply aF;kernel_rfl))|(apply aM;first|apply aH|apply aB|(apply aO;rfl;all_goals intro hc;have hq:=hc;(try simp only [cJ] at hq);try exfalso;omega)|apply aK|apply aS)|with_reducible apply aA)
   refine dO ?_
   rw [hon]
   dsimp only [rE]
   repeat' (first|(apply aL;first|(apply pR;rfl;exact hct;rfl;rfl)|(with_reducible apply cS (d := 20))|(apply aE;rfl;rfl)|(apply aN;rfl;rfl;rfl;rfl)|(apply aD;rfl;rfl;rfl)|(apply aC;rfl;rfl)|(apply aF;kernel_rfl)|(apply bI;rfl;rfl)|(apply aX;rfl;rfl;rfl;rfl;rfl;(case hl => (simp;done));(exact (rfl:_=[_, _, _, _]))))|(apply aM;(apply aB))|with_reducible apply aA)
   refine dO (hO ?_ (Le.frzD (d := 19) (i := 5) rfl rfl))
   repeat' (first|(apply aL;first|(apply aE;rfl;rfl)|(apply aD;rfl;rfl;rfl)|(apply bR;rfl;rfl;omega;rfl)|(apply cM;rfl;rfl;(assumption);rfl)|(apply aF;kernel_rfl)|(apply aX;rfl;rfl;rfl;rfl;rfl;(rw [aQ]; simp only [fY] <;> omega);(exact IM (by (omega)))))|(apply aM;(apply aB))|with_reducible apply aA|with_reducible apply aW)
   (apply dJ (i + 1, true);focus (refine Le.ren [(1, 1), (2, 2)] rfl (by decide) ?_ ?_ <;> repeat' (first|exact trivial|refine And.intro ⟨_, rfl, ?_⟩ ?_|refine And.intro ⟨_, _, rfl, rfl, ?_⟩ ?_|exact Or.inr rfl|refine Or.inl ⟨?_, (by first|rfl|exact aY _ _)⟩|rfl)))
   ·exact Or.inr (CS hj rfl)
   ·exact ⟨by dsimp only;omega, by dsimp only;rw [decide_eq_true (by omega)]⟩
   ·dsimp only;omega
  ·rw [decide_eq_false hij] at hb; subst hb
   simp only [cond_false]
   repeat' (first|(apply aL;first|(apply pR;rfl;exact hct;rfl;rfl)|(with_reducible apply cS (d := 20))|(apply aE;rfl;rfl)|(first|(apply gS;(case hx|hH => rfl);(case hf|hg|hα => infer_instance);(case hk => omega);(case h0|hN => rfl))|(apply aN;rfl;rfl;rfl;rfl))|(apply aD;rfl;rfl;rfl)|(apply aT;rfl;rfl;rfl;rfl)|(apply aC;rfl;rfl)|(apply cM;rfl;rfl;(assumption);rfl)|(apply aF;kernel_rfl)|(apply bI;rfl;rfl)|(apply aX;rfl;rfl;rfl;rfl;rfl;(case hl => (simp;done));(exact (rfl:_=[_, _, _, _]))))|(apply aM;first|apply aH|apply aB|(apply aO;rfl;all_goals intro hc;have hq:=hc;(try simp only [cJ] at hq);try exfalso;omega)|apply aK|apply aS)|with_reducible apply aA)
   by_cases hie : i = j
   ·subst hie
    refine dO ?_
    repeat' (first|(apply aL;first|(apply aE;rfl;rfl)|(apply aD;rfl;rfl;rfl)|(apply bR;rfl;rfl;omega;rfl)|(apply cM;rfl;rfl;(assumption);rfl)|(apply aF;kernel_rfl)|(apply aX;rfl;rfl;rfl;rfl;rfl;(rw [aQ]; simp only [fY] <;> omega);(exact x7 (by (assumption)))))|(apply aM;(apply aB))|with_reducible apply aA|with_reducible apply aW)
    (apply dJ (i + 1, true);focus (refine Le.ren [(1, 1), (2, 5)] rfl (by decide) ?_ ?_ <;> repeat' (first|exact trivial|refine And.intro ⟨_, rfl, ?_⟩ ?_|refine And.intro ⟨_, _, rfl, rfl, ?_⟩ ?_|exact Or.inr rfl|refine Or.inl ⟨?_, (by first|rfl|exact aY _ _)⟩|rfl)))
    ·exact Or.inr (CS hin rfl)
    ·exact ⟨by dsimp only;omega, by dsimp only;rw [decide_eq_true (by omega)]⟩
    ·dsimp only;omega
   ·refine dO (hO ?_ (Le.frzD (d := 19) (i := 5) rfl rfl))
    repeat' (first|(apply aL;first|(apply aE;rfl;rfl)|(apply aD;rfl;rfl;rfl)|(apply bR;rfl;rfl;omega;rfl)|(apply cM;rfl;rfl;(assumption);rfl)|(apply aF;kernel_rfl)|(apply aX;rfl;rfl;rfl;rfl;rfl;(rw [aQ]; simp only [fY] <;> omega);(exact CA (by (assumption)))))|(apply aM;(apply aB))|with_reducible apply aA|with_reducible apply aW)
    (apply dJ (i + 1, false);focus (refine Le.ren [(1, 1)] rfl (by decide) ?_ ?_ <;> repeat' (first|exact trivial|refine And.intro ⟨_, rfl, ?_⟩ ?_|refine And.intro ⟨_, _, rfl, rfl, ?_⟩ ?_|exact Or.inr rfl|refine Or.inl ⟨?_, (by first|rfl|exact aY _ _)⟩|rfl)))
    ·exact ⟨by dsimp only;omega, by dsimp only;rw [decide_eq_false (by omega)]⟩
    ·dsimp only;omega
 ·rw [decide_eq_true (by omega)] at hb; subst hb
  simp only [cond_true]
  repeat' (first|(apply aL;first|(apply aE;rfl;rfl)|(apply aT;rfl;rfl;rfl;rfl)|(apply aC;rfl;rfl)|(apply aF;kernel_rfl))|(apply aM;first|apply aH|apply aB|(apply aO;rfl;all_goals intro hc;have hq:=hc;(try simp only [cJ] at hq);try exfalso;omega)|apply bG|apply aR)|with_reducible apply aA|with_reducible apply bH|with_reducible apply bF)
  (refine aP rfl ?_; refine bU () trivial ?_ ⟨.inr (Eq.trans (b := some _) rfl ?_), ⟨.inr (Eq.trans (b := some _) rfl ?_), trivial⟩⟩)
  ·rfl
  ·rfl
  ·rfl
theorem mY {m : List Cl} {x : Pt} {wr : Bool} {n : Nat} {N : Nat} {Q : Exit → AS → Prop} {all : Array Oper} {rest : List Oper} {tsl : List (Nat × AV)} {hsl : List (Nat × Option (List AV))} {nidl : Nat} {z0 : Lo} {md : Md} {d : Nat} {ty : TypeId} {pos : String} {af : Array Edge} {tys : Array TypeId} {x0 x1 x2 : Operand} {i0 : Nat} (ha0 : ev (lk tsl) x0 = some (.own i0 0 n 4)) (ha1 : ev (lk tsl) x1 = some (m5 x)) (ha2 : ev (lk tsl) x2 = some (bv wr)) (hH0 : cO hsl i0 = some (aI c7 m)) (hmc : MC Tryz.prog 187 [.own 0 0 n 4, m5 x, bv wr] [(0, some (aI c7 m))] 1 (fun _ : Unit => True) (fun _ => iv (cP m x wr)) (fun _ => [(0, some (aI c7 m))])) (hM : Nat.ble (nidl + 0) eS = true) (hN : Nat.blt d N = true) {md' : Md} [hmd : MdA md (gL [x0, x1, x2] ++ [.inr i0]) (List.map Sum.inr (List.map Prod.fst ([(i0, some (aI c7 m))] : List (Nat × Option (List AV)))) ++ [.inl d]) md'] (kk : RW Tryz.prog N all Q md' rest ⟨(d, iv (cP m x wr)) :: tsl, iH hsl [(i0, some (aI c7 m))], nidl + 0, z0⟩) : RW Tryz.prog N all Q md (⟨some d, .call ⟨.value (.func 187), #[x0, x1, x2], tys⟩, ty, pos, af, none⟩ :: rest) ⟨tsl, hsl, nidl, z0⟩ := by
 refine cE [i0] 1 [(i0, some (aI c7 m))] hmc (avs := [.own i0 0 n 4, m5 x, bv wr]) ?_ rfl ?_ rfl ?_ (by simpa using hM) ?_ ?_ ?_ hN (md' := md') (hmd := hmd) kk
 ·show evL (lk tsl) [x0, x1, x2] = _
  simp only [evL, ha0, ha1, ha2]
 ·exact ⟨⟨_, _, rfl, hH0, by (repeat' (exact RnL.purI inferInstance))⟩, trivial⟩
 ·(repeat' (first|exact RnL.purI inferInstance|exact RnV.own rfl|refine RnL.cons ?_ ?_))
 ·(repeat' (exact RnV.purI inferInstance))
 ·simp [dL]
 ·(repeat' (first|exact trivial|(refine And.intro ⟨0, _, rfl, rfl, ?_⟩ ?_)|exact RnL.purI inferInstance))
theorem wK {m : List Cl} {j : Nat} {t : Int} {k n : Nat} {N : Nat} {Q : Exit → AS → Prop} {all : Array Oper} {rest : List Oper} {tsl : List (Nat × AV)} {hsl : List (Nat × Option (List AV))} {nidl : Nat} {z0 : Lo} {md : Md} {d : Nat} {ty : TypeId} {pos : String} {af : Array Edge} {tys : Array TypeId} {x0 x1 x2 : Operand} {i0 i1 : Nat} (ha0 : ev (lk tsl) x0 = some (.own i0 0 n 4)) (ha1 : ev (lk tsl) x1 = some (.agg [iv (j : Int), iv t])) (ha2 : ev (lk tsl) x2 = some (bv true)) (hH0 : cO hsl i0 = some (aI fR (eE m j (.own i1 0 m[j]!.stk.length 2)))) (hH1 : cO hsl i1 = some (aI dM m[j]!.stk)) (hdd : Go.AL.distinct [i0, i1] = true) (hmc : MC Tryz.prog 187 [.own 0 0 n 4, .agg [iv (j : Int), iv t], bv true] [(0, some (aI fR (eE m j (.own 1 0 m[j]!.stk.length 2)))), (1, some (aI dM m[j]!.stk))] 2 (fun _ : Unit => True) (fun _ => iv 0) (fun _ => [(0, some (aI fR (eE m j (.own 1 0 (k + 1) 2)))), (1, some (aI dM (m[j]!.stk.take (k + 1))))])) (hM : Nat.ble (nidl + 0) eS = true) (hN : Nat.blt d N = true) {md' : Md} [hmd : MdA md (gL [x0, x1, x2] ++ [.inr i0, .inr i1]) (List.map Sum.inr (List.map Prod.fst ([(i0, some (aI fR (eE m j (.own i1 0 (k + 1) 2)))), (i1, some (aI dM (m[j]!.stk.take (k + 1))))] : List (Nat × Option (List AV)))) ++ [.inl d]) md'] (kk : RW Tryz.prog N all Q md' rest ⟨(d, iv 0) :: tsl, iH hsl [(i0, some (aI fR (eE m j (.own i1 0 (k + 1) 2)))), (i1, some (aI dM (m[j]!.stk.take (k + 1))))], nidl + 0, z0⟩) : RW Tryz.prog N all Q md (⟨some d, .call ⟨.value (.func 187), #[x0, x1, x2], tys⟩, ty, pos, af, none⟩ :: rest) ⟨tsl, hsl, nidl, z0⟩ := by
 refine cE [i0, i1] 2 [(i0, some (aI fR (eE m j (.own i1 0 (k + 1) 2)))), (i1, some (aI dM (m[j]!.stk.take (k + 1))))] hmc (avs := [.own i0 0 n 4, .agg [iv (j : Int), iv t], bv true]) ?_ hdd ?_ rfl ?_ (by simpa using hM) ?_ ?_ ?_ hN (md' := md') (hmd := hmd) kk
 ·show evL (lk tsl) [x0, x1, x2] = _
  simp only [evL, ha0, ha1, ha2]
 ·exact ⟨⟨_, _, rfl, hH0, by (repeat' (exact kP rfl))⟩, ⟨⟨_, _, rfl, hH1, by (repeat' (exact RnL.purI inferInstance))⟩, trivial⟩⟩
 ·(repeat' (first|exact RnL.purI inferInstance|exact RnV.own rfl|refine RnL.cons ?_ ?_))
 ·(repeat' (exact RnV.purI inferInstance))
 ·simp [dL]
 ·(repeat' (first|exact trivial|(refine And.intro ⟨0, _, rfl, rfl, ?_⟩ ?_)|(refine And.intro ⟨1, _, rfl, rfl, ?_⟩ ?_)|exact RnL.purI inferInstance|exact kP rfl))
theorem LdL.app {D : List Nat} {H : Nat → Option (List AV)} : ∀ {a b c d : List AV}, LdL D H a b → LdL D H c d → dA a = true → LdL D H (a ++ c) (a ++ d)
 | [], _, _, _, _, h, _ => h
 | x :: a, b, c, d, h1, h, hp => by
  simp only [dA, Bool.and_eq_true] at hp
  exact .cons (.pur hp.1) (LdL.app (a := a) (b := a) (.pur hp.2) h hp.2)
theorem Lw {D : List Nat} {H : Nat → Option (List AV)} {m : List Cl} {j i k : Nat} {r : List Tg} (hi : i ∈ D) (hH : H i = some (aI dM r)) (hk : k = r.length) (hj : j < m.length) : LdL D H (aI fR (eE m j (.own i 0 k 2))) (aI c7 (m.set j { m[j]! with stk := r })) := by
 subst hk
 rw [← zZ, j8 hj, j8 hj]
 have p1 : dA (aI c7 (m.take j)) = true := (inferInstance : Pur (aI c7 _)).pf
 have p2 : dA [iv m[j]!.val, bv m[j]!.alive, iv m[j]!.next] = true := rfl
 exact LdL.app (.pur p1) (LdL.app (.pur p2) (.cons (.own hi hH (.pur (inferInstance : Pur (aI dM r)).pf)) (.pur (inferInstance : Pur (aI c7 _)).pf)) p2) p1
theorem CZ {D : List Nat} {H : Nat → Option (List AV)} {m : List Cl} {j i : Nat} (hi : i ∈ D) (hH : H i = some (aI dM m[j]!.stk)) (hj : j < m.length) : LdL D H (aI fR (eE m j (.own i 0 m[j]!.stk.length 2))) (aI c7 m) := by
 have h := Lw (m := m) (r := m[j]!.stk) hi hH rfl hj
 rwa [show m.set j { m[j]! with stk := m[j]!.stk } = m from mD m j] at h
theorem KU {m : List Cl} {x : Pt} {wr : Bool} (h : 0 ≤ x.cell) (h2 : x.cell < m.length) (h3 : m[x.cell.toNat]!.alive = true) (h4 : 0 ≤ dE m[x.cell.toNat]!.stk x.tag) (hw : wr = true) (h5 : m[x.cell.toNat]!.stk[(dE m[x.cell.toNat]!.stk x.tag).toNat]!.uq = false) : cP m x wr = 3 := by
 unfold cP;rw [if_neg (by omega), if_neg (by rw [h3]; decide), if_neg (by omega), if_pos ⟨hw, h5⟩]
theorem oD (m : List Cl) (x : Pt) (wr : Bool) (n : Nat) (hm : OkM m) (hn : n = m.length) (hk : cP m x wr ≠ 0) : MC Tryz.prog 187 [.own 0 0 n 4, m5 x, bv wr] [(0, some (aI c7 m))] 1 (fun _ : Unit => True) (fun _ => iv (cP m x wr)) (fun _ => [(0, some (aI c7 m))]) := by
 subst hn
 have hml := hm.l
 have hcv := iO m hm
 have hst : 0 ≤ x.cell → x.cell < m.length → m[x.cell.toNat]!.stk.length ≤ 200 := fun h1 h2 => (((eA m).1 hm).2 x.cell.toNat (by omega)).l.2
 have hbd := eZ m[x.cell.toNat]!.stk x.tag
 have hidx := fun h => yV m[x.cell.toNat]!.stk x.cell x.tag h
 (refine cC Tryz.func187 rfl (by simp [Tryz.ntmps187]) ?_; rw [Tryz.ntmps187])
 repeat' (first|(apply aL;first|((with_reducible apply o5 (k := 184));(case ha => rfl);(case hl => (repeat' (first|exact mW|apply lQ|exact nA rfl inferInstance)));(case h => exact hcv);(case hfr|hN => rfl);(case hmd => infer_instance))|((apply jI 4);(case hx|hH|hc|hN => rfl))|((with_reducible apply aJ (k := 230));(case ha => rfl);(case h => exact (hidx (by have := hst (by omega) (by omega);omega)));(case hp => (exact Pur.pf));(case hN => rfl))|(with_reducible apply cS (d := 75))|(apply aE;rfl;rfl)|(first|(apply cY;(case hx|hH => rfl);(case hf|hg|hα => infer_instance);(case hk => omega);(case hc|hN => rfl))|(apply aN;rfl;rfl;rfl;rfl))|(apply aD;rfl;rfl;rfl)|(first|(apply bB;rfl;rfl;rfl;(first|rfl|assumption))|(apply bD;rfl;rfl;rfl;(assumption))|(apply bS;(case hj|hb|hN => rfl);all_goals (intro hg;have hq := hg;(try simp only [cJ] at hq);(try (exfalso;omega)))))|(first|(apply gF;rfl;rfl;omega;rfl)|(apply aT;rfl;rfl;rfl;rfl))|(apply aC;rfl;rfl)|(first|(apply bV;rfl;(assumption);rfl;rfl)|(apply bQ;rfl;(first|rfl|assumption);rfl;rfl))|(first|(apply cL;(case hx|hi => rfl);(case hm => (omega));(case hml => (rfl));(case hα | hf|hg => infer_instance);(case hN => rfl))|(apply cR;rfl;rfl;(omega);rfl))|((with_reducible apply aJ (k := 84));(case ha => rfl);(case h => (apply eC <;> (fail)));(case hp => (rfl));(case hN => rfl))|(apply bC;rfl;rfl;rfl)|(apply aF;kernel_rfl)|(apply cG;rfl;rfl)|(apply bY;rfl;rfl;rfl)|(apply bK;rfl;rfl;rfl;rfl))|(apply aM;first|apply aH|apply aB|(apply cH;rfl;(rfl))|(apply aO;rfl;all_goals intro hc;have hq:=hc;(try simp only [cJ] at hq);try exfalso;omega)|apply aK|apply aS|apply aR)|with_reducible apply aA|with_reducible apply bJ|with_reducible apply cQ)
 ·(refine aP rfl ?_; refine bU () trivial ?_ ⟨.inr (Eq.trans (b := some _) rfl ?_), trivial⟩)
  ·rw [Cb (by omega)]; rfl
  ·rfl
 ·(refine aP rfl ?_; refine bU () trivial ?_ ⟨.inr (Eq.trans (b := some _) rfl ?_), trivial⟩)
  ·rw [FG (by omega) (by omega) (by assumption)]; rfl
  ·rfl
 ·(refine aP rfl ?_; refine bU () trivial ?_ ⟨.inr (Eq.trans (b := some _) rfl ?_), trivial⟩)
  ·rw [Ge (by omega) (by omega) (by assumption) (by assumption)]; rfl
  ·rfl
 ·(refine aP rfl ?_; refine bU () trivial ?_ ⟨.inr (Eq.trans (b := some _) rfl ?_), trivial⟩)
  ·rw [KU (by omega) (by omega) (by assumption) (by assumption) (by assumption) (by assumption)]; rfl
  ·rfl
 ·exfalso
  have hw : wr = true := by assumption
  have hu : m[x.cell.toNat]!.stk[(dE m[x.cell.toNat]!.stk x.tag).toNat]!.uq = true := by assumption
  subst hw
  refine hk ?_
  rw [yZ, if_pos (rU (by omega) (by omega) (by assumption) (by assumption)), if_neg (by rw [hu]; decide)]
 ·exfalso
  have hw : wr = false := by assumption
  subst hw
  exact hk (rU (by omega) (by omega) (by assumption) (by assumption))
theorem tQ (m : List Cl) (j : Nat) (t : Int) (k n : Nat) (hm : OkM m) (hn : n = m.length) (hj : j < m.length) (hk : dE m[j]!.stk t = (k : Int)) (hal : m[j]!.alive = true) (hu : m[j]!.stk[k]!.uq = true) : MC Tryz.prog 187 [.own 0 0 n 4, .agg [iv (j : Int), iv t], bv true] [(0, some (aI fR (eE m j (.own 1 0 m[j]!.stk.length 2)))), (1, some (aI dM m[j]!.stk))] 2 (fun _ : Unit => True) (fun _ => iv 0) (fun _ => [(0, some (aI fR (eE m j (.own 1 0 (k + 1) 2)))), (1, some (aI dM (m[j]!.stk.take (k + 1))))]) := by
 subst hn
 have hml := hm.l
 have hcv := iO m hm
 have hst : m[j]!.stk.length ≤ 200 := (((eA m).1 hm).2 j hj).l.2
 have hbd := eZ m[j]!.stk t
 rw [hk] at hbd
 have hidx := yV m[j]!.stk (j : Int) t (by omega)
 rw [hk] at hidx
 have hog := iP (m := m) (j := j) (X := .own 1 0 m[j]!.stk.length 2) hj
 have hol := eD (m := m) (j := j) (X := .own 1 0 m[j]!.stk.length 2)
 (refine cC Tryz.func187 rfl (by simp [Tryz.ntmps187]) ?_; rw [Tryz.ntmps187])
 repeat' (first|(apply aL;first|((with_reducible apply oF (k := 184) (D := [0, 1]) (h := hcv));(case ha => rfl);(case hl => exact .cons (.own (by simp) rfl (CZ (by simp) rfl hj)) .nil);(case hfr|hN => rfl))|(with_reducible apply cS (d := 35))|(apply aE;rfl;rfl)|(first|(apply cY;(case hx|hH => rfl);(case hf|hg|hα => infer_instance);(case hk => omega);(case hc|hN => rfl))|(apply aN;rfl;rfl;rfl;rfl))|(apply aD;rfl;rfl;rfl)|(apply bB;rfl;rfl;rfl;(rfl))|(apply gF;rfl;rfl;omega;rfl)|(apply aC;rfl;rfl)|(apply bQ;rfl;(rfl);rfl;rfl)|(apply cM;rfl;rfl;(assumption);rfl)|((with_reducible apply aJ (k := 84));(case ha => rfl);(case h => (apply eC <;> (fail)));(case hp => (rfl));(case hN => rfl))|(apply bC;rfl;rfl;rfl)|(apply aF;kernel_rfl)|(apply cG;rfl;rfl)|(apply bY;rfl;rfl;rfl)|(apply bK;rfl;rfl;rfl;rfl))|(apply aM;first|apply aH|apply aB|(apply aO;rfl;all_goals intro hc;have hq:=hc;(try simp only [cJ] at hq);try exfalso;omega)|apply aS|apply aR)|with_reducible apply aA|with_reducible apply bJ)
 all_goals (try (exfalso;omega))
 ·exfalso
  have h : (eE m j (.own 1 0 m[j]!.stk.length 2))[j]!.alive = false := by assumption
  rw [hog] at h;simp only [hal] at h;cases h
 refine dO ?_
 rw [hog]
 dsimp only
 repeat' (first|(apply aL;first|((apply jI 4);(case hx|hH|hc|hN => rfl))|((with_reducible apply oF (k := 230) (D := [1]) (h := hidx));(case ha => rfl);(case hl => exact .cons (.own (by simp) rfl (.pur (inferInstance : Pur (aI dM _)).pf)) (.cons (.pur rfl) .nil));(case hfr|hN => rfl))|(with_reducible apply cS (d := 68))|(apply aE;rfl;rfl)|(apply cY;(case hx|hH => rfl);(case hf|hg|hα => infer_instance);(case hk => omega);(case hc|hN => rfl))|(apply aD;rfl;rfl;rfl)|(apply bB;rfl;rfl;rfl;(rfl))|(apply aT;rfl;rfl;rfl;rfl)|(apply aC;rfl;rfl)|(apply aF;kernel_rfl)|(apply bY;rfl;rfl;rfl))|(apply aM;first|apply aH|apply aB|(apply cH;rfl;(rfl))|apply aK)|with_reducible apply aA)
 refine dO ?_
 rw [hog]
 dsimp only
 repeat' (first|(apply aL;first|(with_reducible apply cS (d := 81))|(apply aE;rfl;rfl)|(apply cY;(case hx|hH => rfl);(case hf|hg|hα => infer_instance);(case hk => omega);(case hc|hN => rfl))|(apply aD;rfl;rfl;rfl)|(apply bB;rfl;rfl;rfl;(rfl))|(apply aC;rfl;rfl)|(apply bV;rfl;(rfl);rfl;rfl)|(apply cM;rfl;rfl;(omega);rfl)|(apply aF;kernel_rfl)|(apply cG;rfl;rfl)|(apply bY;rfl;rfl;rfl))|(apply aM;first|apply aH|apply aB|(apply cA;rfl;(rfl))|(apply aO;rfl;all_goals intro hc;have hq:=hc;(try simp only [cJ] at hq);try exfalso;omega)|apply aR)|with_reducible apply aA|with_reducible apply bJ|with_reducible apply cQ)
 ·exfalso
  have h : m[j]!.stk[k]!.uq = false := by assumption
  rw [hu] at h;cases h
 refine dO ?_
 rw [hog]
 dsimp only
 repeat' (first|(apply aL;first|((apply hG (d := 83) (l := 0) (h := k + 1));(case hx|hn|hl => rfl);(case hh => exact pT rfl (by omega));(case hp => exact if_pos (by omega));(case hN => rfl))|(apply aE;rfl;rfl)|(apply aD;rfl;rfl;rfl)|(apply bR;rfl;rfl;omega;rfl)|(apply aC;rfl;rfl)|(apply aF;kernel_rfl)|(apply bY;rfl;rfl;rfl)|(apply aX;rfl;rfl;rfl;rfl;rfl;(rw [aQ]; simp only [fY] <;> omega);(exact s8 (by (assumption)))))|(apply aM;first|apply aH|apply aB|apply aR)|with_reducible apply aA|with_reducible apply aW)
 refine cD (Le.cut (i := 1) ((k + 1) * 2) rfl) ?_
 (refine aP rfl ?_; refine bU () trivial ?_ ⟨.inr (Eq.trans (b := some _) rfl ?_), ⟨.inr (Eq.trans (b := some _) rfl ?_), trivial⟩⟩)
 ·rfl
 ·rfl
 ·rw [fA dM (e := 2)]
theorem Ev {xs : List Tg} {k n : Nat} {N : Nat} {Q : Exit → AS → Prop} {all : Array Oper} {rest : List Oper} {tsl : List (Nat × AV)} {hsl : List (Nat × Option (List AV))} {nidl : Nat} {z0 : Lo} {md : Md} {d : Nat} {ty : TypeId} {pos : String} {af : Array Edge} {tys : Array TypeId} {x0 : Operand} {i0 : Nat} (ha0 : ev (lk tsl) x0 = some (.own i0 (0 + k * 2) n 2)) (hH0 : cO hsl i0 = some (aI dM xs)) (hmc : MC Tryz.prog 229 [.own 0 (0 + k * 2) n 2] [(0, some (aI dM xs))] 1 (fun _ : Unit => True) (fun _ => .own 2 0 n 2) (fun _ => [(0, some (aI dM xs)), (2, some (aI dM (xs.drop k)))])) (hM : Nat.ble (nidl + 2) eS = true) (hN : Nat.blt d N = true) {md' : Md} [hmd : MdA md (gL [x0] ++ [.inr i0]) (List.map Sum.inr (List.map Prod.fst ([(i0, some (aI dM xs)), ((nidl + 1), some (aI dM (xs.drop k)))] : List (Nat × Option (List AV)))) ++ [.inl d]) md'] (kk : RW Tryz.prog N all Q md' rest ⟨(d, .own (nidl + 1) 0 n 2) :: tsl, iH hsl [(i0, some (aI dM xs)), ((nidl + 1), some (aI dM (xs.drop k)))], nidl + 2, z0⟩) : RW Tryz.prog N all Q md (⟨some d, .call ⟨.value (.func 229), #[x0], tys⟩, ty, pos, af, none⟩ :: rest) ⟨tsl, hsl, nidl, z0⟩ := by
 refine cE [i0] 3 [(i0, some (aI dM xs)), ((nidl + 1), some (aI dM (xs.drop k)))] hmc (avs := [.own i0 (0 + k * 2) n 2]) ?_ rfl ?_ rfl ?_ (by simpa using hM) ?_ ?_ ?_ hN (md' := md') (hmd := hmd) kk
 ·show evL (lk tsl) [x0] = _
  simp only [evL, ha0]
 ·exact ⟨⟨_, _, rfl, hH0, by (repeat' (exact RnL.purI inferInstance))⟩, trivial⟩
 ·(repeat' (first|exact RnL.purI inferInstance|exact RnV.own rfl|refine RnL.cons ?_ ?_))
 ·(repeat' (exact RnV.own rfl))
 ·simp [dL]
 ·(repeat' (first|exact trivial|(refine And.intro ⟨0, _, rfl, rfl, ?_⟩ ?_)|(refine And.intro ⟨2, _, rfl, rfl, ?_⟩ ?_)|exact RnL.purI inferInstance))
theorem FY (xs : List Tg) (k n : Nat) (hn : n = xs.length - k) (hl : xs.length ≤ 1000000) : MC Tryz.prog 229 [.own 0 (0 + k * 2) n 2] [(0, some (aI dM xs))] 1 (fun _ : Unit => True) (fun _ => .own 2 0 n 2) (fun _ => [(0, some (aI dM xs)), (2, some (aI dM (xs.drop k)))]) := by
 subst hn
 (refine cC Tryz.func229 rfl (by simp [Tryz.ntmps229]) ?_; rw [Tryz.ntmps229])
 repeat' (first|(apply aL;first|(apply Ec;rfl;rfl;(intro b hb))|(apply bW;rfl;rfl;rfl;rfl;rfl;(decide);exact Dw rfl rfl;omega;omega;(exact e9 rfl);rfl;rfl)|(apply aE;rfl;rfl)|(apply aC;rfl;rfl)|(apply aF;kernel_rfl)|(apply bZ;rfl;rfl;rfl;(rfl);rfl;rfl))|(apply aM;first|apply aH|apply aB|(apply aO;rfl;all_goals intro hc;have hq:=hc;(try simp only [cJ] at hq);try exfalso;omega)|apply aS|apply aR)|with_reducible apply aA|with_reducible apply bJ)
 ·have h0 : xs.length - k = 0 := hb (by assumption)
  have h1 : xs.drop k = [] := List.drop_eq_nil_of_le (by omega)
  refine cD (Le.bump 1) ?_
  refine cD (Le.nilOwn (d := 2) 2 rfl (by decide)) ?_
  (refine aP rfl ?_; refine bU () trivial ?_ ⟨.inr (Eq.trans (b := some _) rfl ?_), ⟨.inr (Eq.trans (b := some _) rfl ?_), trivial⟩⟩)
  ·show AV.own 2 0 0 2 = _; rw [h0]
  ·rfl
  ·rw [h1]; rfl
 ·(refine aP rfl ?_; refine bU () trivial ?_ ⟨.inr (Eq.trans (b := some _) rfl ?_), ⟨.inr (Eq.trans (b := some _) rfl ?_), trivial⟩⟩)
  ·show AV.own 2 0 (0 + (xs.length - k)) 2 = _
   rw [Nat.zero_add]
  ·rfl
  ·rfl
theorem wX {m : List Cl} {j : Nat} {t : Int} {r : List Tg} {n : Nat} {N : Nat} {Q : Exit → AS → Prop} {all : Array Oper} {rest : List Oper} {tsl : List (Nat × AV)} {hsl : List (Nat × Option (List AV))} {nidl : Nat} {z0 : Lo} {md : Md} {d : Nat} {ty : TypeId} {pos : String} {af : Array Edge} {tys : Array TypeId} {x0 x1 x2 : Operand} {i0 i1 : Nat} (ha0 : ev (lk tsl) x0 = some (.own i0 0 n 4)) (ha1 : ev (lk tsl) x1 = some (.agg [iv (j : Int), iv t])) (ha2 : ev (lk tsl) x2 = some (bv false)) (hH0 : cO hsl i0 = some (aI fR (eE m j (.own i1 0 m[j]!.stk.length 2)))) (hH1 : cO hsl i1 = some (aI dM m[j]!.stk)) (hdd : Go.AL.distinct [i0, i1] = true) (hmc : MC Tryz.prog 187 [.own 0 0 n 4, .agg [iv (j : Int), iv t], bv false] [(0, some (aI fR (eE m j (.own 1 0 m[j]!.stk.length 2)))), (1, some (aI dM m[j]!.stk))] 2 (fun _ : Unit => True) (fun _ => iv 0) (fun _ => [(0, some (aI fR (eE m j (.own 5 0 r.length 2)))), (5, some (aI dM r))])) (hM : Nat.ble (nidl + 4) eS = true) (hN : Nat.blt d N = true) {md' : Md} [hmd : MdA md (gL [x0, x1, x2] ++ [.inr i0, .inr i1]) (List.map Sum.inr (List.map Prod.fst ([(i0, some (aI fR (eE m j (.own (nidl + 3) 0 r.length 2)))), ((nidl + 3), some (aI dM r)), (i1, none)] : List (Nat × Option (List AV)))) ++ [.inl d]) md'] (kk : RW Tryz.prog N all Q md' rest ⟨(d, iv 0) :: tsl, iH hsl [(i0, some (aI fR (eE m j (.own (nidl + 3) 0 r.length 2)))), ((nidl + 3), some (aI dM r)), (i1, none)], nidl + 4, z0⟩) : RW Tryz.prog N all Q md (⟨some d, .call ⟨.value (.func 187), #[x0, x1, x2], tys⟩, ty, pos, af, none⟩ :: rest) ⟨tsl, hsl, nidl, z0⟩ := by
 refine cE [i0, i1] 6 [(i0, some (aI fR (eE m j (.own (nidl + 3) 0 r.length 2)))), ((nidl + 3), some (aI dM r)), (i1, none)] hmc (avs := [.own i0 0 n 4, .agg [iv (j : Int), iv t], bv false]) ?_ hdd ?_ rfl ?_ (by simpa using hM) ?_ ?_ ?_ hN (md' := md') (hmd := hmd) kk
 ·show evL (lk tsl) [x0, x1, x2] = _
  simp only [evL, ha0, ha1, ha2]
 ·exact ⟨⟨_, _, rfl, hH0, by (repeat' (exact kP rfl))⟩, ⟨⟨_, _, rfl, hH1, by (repeat' (exact RnL.purI inferInstance))⟩, trivial⟩⟩
 ·(repeat' (first|exact RnL.purI inferInstance|exact RnV.own rfl|refine RnL.cons ?_ ?_))
 ·(repeat' (exact RnV.purI inferInstance))
 ·simp [dL]
 ·(repeat' (first|exact trivial|(refine And.intro ⟨0, _, rfl, rfl, ?_⟩ ?_)|(refine And.intro ⟨5, _, rfl, rfl, ?_⟩ ?_)|exact RnL.purI inferInstance|exact kP rfl))
theorem AK (m : List Cl) (j : Nat) (t : Int) (r : List Tg) (k n : Nat) (hm : OkM m) (hn : n = m.length) (hj : j < m.length) (hk : dE m[j]!.stk t = (k : Int)) (hal : m[j]!.alive = true) (hr : r = fP m[j]!.stk k false) : MC Tryz.prog 187 [.own 0 0 n 4, .agg [iv (j : Int), iv t], bv false] [(0, some (aI fR (eE m j (.own 1 0 m[j]!.stk.length 2)))), (1, some (aI dM m[j]!.stk))] 2 (fun _ : Unit => True) (fun _ => iv 0) (fun _ => [(0, some (aI fR (eE m j (.own 5 0 r.length 2)))), (5, some (aI dM r))]) := by
 subst hn
 have hml := hm.l
 have hcv := iO m hm
 have hst : m[j]!.stk.length ≤ 200 := (((eA m).1 hm).2 j hj).l.2
 have hbd := eZ m[j]!.stk t
 rw [hk] at hbd
 have hidx := yV m[j]!.stk (j : Int) t (by omega)
 rw [hk] at hidx
 have hog := iP (m := m) (j := j) (X := .own 1 0 m[j]!.stk.length 2) hj
 have hol := eD (m := m) (j := j) (X := .own 1 0 m[j]!.stk.length 2)
 (refine cC Tryz.func187 rfl (by simp [Tryz.ntmps187]) ?_; rw [Tryz.ntmps187])
 repeat' (first|(apply aL;first|((with_reducible apply oF (k := 184) (D := [0, 1]) (h := hcv));(case ha => rfl);(case hl => exact .cons (.own (by simp) rfl (CZ (by simp) rfl hj)) .nil);(case hfr|hN => rfl))|(with_reducible apply cS (d := 35))|(apply aE;rfl;rfl)|(first|(apply cY;(case hx|hH => rfl);(case hf|hg|hα => infer_instance);(case hk => omega);(case hc|hN => rfl))|(apply aN;rfl;rfl;rfl;rfl))|(apply aD;rfl;rfl;rfl)|(apply bB;rfl;rfl;rfl;(rfl))|(apply gF;rfl;rfl;omega;rfl)|(apply aC;rfl;rfl)|(apply bQ;rfl;(rfl);rfl;rfl)|(apply cM;rfl;rfl;(assumption);rfl)|((with_reducible apply aJ (k := 84));(case ha => rfl);(case h => (apply eC <;> (fail)));(case hp => (rfl));(case hN => rfl))|(apply bC;rfl;rfl;rfl)|(apply aF;kernel_rfl)|(apply cG;rfl;rfl)|(apply bY;rfl;rfl;rfl)|(apply bK;rfl;rfl;rfl;rfl))|(apply aM;first|apply aH|apply aB|(apply aO;rfl;all_goals intro hc;have hq:=hc;(try simp only [cJ] at hq);try exfalso;omega)|apply aS|apply aR)|with_reducible apply aA|with_reducible apply bJ)
 all_goals (try (exfalso;omega))
 ·exfalso
  have h : (eE m j (.own 1 0 m[j]!.stk.length 2))[j]!.alive = false := by assumption
  rw [hog] at h;simp only [hal] at h;cases h
 refine dO ?_
 rw [hog]
 dsimp only
 repeat' (first|(apply aL;first|((apply jI 4);(case hx|hH|hc|hN => rfl))|((with_reducible apply oF (k := 230) (D := [1]) (h := hidx));(case ha => rfl);(case hl => exact .cons (.own (by simp) rfl (.pur (inferInstance : Pur (aI dM _)).pf)) (.cons (.pur rfl) .nil));(case hfr|hN => rfl))|(with_reducible apply cS (d := 41))|(apply aE;rfl;rfl)|(apply cY;(case hx|hH => rfl);(case hf|hg|hα => infer_instance);(case hk => omega);(case hc|hN => rfl))|(apply aD;rfl;rfl;rfl)|(apply bD;rfl;rfl;rfl;(rfl))|(apply aT;rfl;rfl;rfl;rfl)|(apply aC;rfl;rfl)|(apply bQ;rfl;(rfl);rfl;rfl)|(apply aF;kernel_rfl)|(apply bY;rfl;rfl;rfl))|(apply aM;first|apply aH|apply aB|(apply cH;rfl;(rfl))|apply aK)|with_reducible apply aA)
 refine dO ?_
 rw [hog]
 dsimp only
 repeat' (first|(apply aL;first|((apply hG (d := 43) (l := k + 1) (h := m[j]!.stk.length));(case hx|hn => rfl);(case hl => exact pT rfl (by omega));(case hh => rfl);(case hp => exact if_pos (by omega));(case hN => rfl))|(apply Ev;rfl;rfl;exact FY _ _ _ rfl (by omega);rfl;rfl)|(apply IF;rfl;rfl;rfl;exact J6 _ _ (by rw [List.length_drop]) (by omega);rfl;rfl)|(with_reducible apply cS (d := 51))|(apply aE;rfl;rfl)|(apply cY;(case hx|hH => rfl);(case hf|hg|hα => infer_instance);(case hk => omega);(case hc|hN => rfl))|(apply aD;rfl;rfl;rfl)|(apply bR;rfl;rfl;omega;rfl)|(apply aC;rfl;rfl)|(apply aF;kernel_rfl)|(apply bY;rfl;rfl;rfl))|(apply aM;(apply aB))|with_reducible apply aA)
 refine dO ?_
 rw [hog]
 dsimp only
 have hfl : (aI dM m[j]!.stk).length = m[j]!.stk.length * 2 := aQ dM _
 have hsl : (shr (List.drop (k + 1) m[j]!.stk)).length ≤ 200 := Nat.le_trans (List.length_filter_le _ _) (by rw [List.length_drop]; omega)
 repeat' (first|(apply aL;first|((apply hG (d := 53) (l := 0) (h := k + 1));(case hx|hn|hl => rfl);(case hh => exact pT rfl (by omega));(case hp => exact if_pos (by omega));(case hN => rfl))|(apply bW;rfl;rfl;rfl;rfl;rfl;(rw [hfl]; omega);exact Dw (k := 0) rfl rfl;omega;omega;rfl;rfl;rfl)|(apply aE;rfl;rfl)|(apply aD;rfl;rfl;rfl)|(apply bR;rfl;rfl;omega;rfl)|(apply aC;rfl;rfl)|(apply aF;kernel_rfl)|(apply bY;rfl;rfl;rfl)|(apply aX;rfl;rfl;rfl;rfl;rfl;(rw [aQ]; simp only [fY] <;> omega);(exact s8 (by (assumption)))))|(apply aM;first|apply aH|apply aB|apply aR)|with_reducible apply aA|with_reducible apply aW)
 have hre : r = m[j]!.stk.take (k + 1) ++ shr (m[j]!.stk.drop (k + 1)) := by rw [hr]; rfl
 have hrl : r.length = k + 1 + (shr (List.drop (k + 1) m[j]!.stk)).length := by rw [hre, List.length_append, List.length_take]; omega
 (refine aP rfl ?_; refine bU () trivial ?_ ⟨.inr (Eq.trans (b := some _) rfl ?_), ⟨.inr (Eq.trans (b := some _) rfl ?_), trivial⟩⟩)
 ·rfl
 ·refine congrArg some ?_
  show aI fR (eE m j (AV.own 5 0 (k + 1 - 0 + (shr (List.drop (k + 1) m[j]!.stk)).length) 2)) = _
  rw [hrl]; rfl
 ·refine congrArg some ?_
  show (List.drop 0 (aI dM m[j]!.stk)).take ((k + 1) * 2) ++ aI dM (List.drop 0 (shr (List.drop (k + 1) m[j]!.stk))) = _
  rw [List.drop_zero, List.drop_zero, fA dM (e := 2), dR, ← hre]
theorem Ih {m : List Cl} {j : Nat} {X : AV} {v : Int} (h : j < m.length) : iN (aI fR (eE m j X)) (0 + j * 4 + 0) [iv v] = aI fR (eE (m.set j { m[j]! with val := v }) j X) := by
 have e : eE (m.set j { m[j]! with val := v }) j X = (eE m j X).set j ⟨v, m[j]!.alive, m[j]!.next, X⟩ := by
  have e2 : (m.set j { m[j]! with val := v })[j]! = { m[j]! with val := v } := by rw [cV _ _ (by rw [List.length_set]; exact h), List.getElem_set_self]
  unfold eE
  rw [e2, List.map_set, List.set_set, List.set_set]; rfl
 rw [e]
 exact fF (by rw [eD]; exact h) (by simp) (by rw [iP h]; rfl)
theorem Jh {m : List Cl} {j : Nat} {X : AV} {b : Bool} (h : j < m.length) : iN (aI fR (eE m j X)) (0 + j * 4 + 1) [.v (.bool b)] = aI fR (eE (m.set j { m[j]! with alive := b }) j X) := by
 have e : eE (m.set j { m[j]! with alive := b }) j X = (eE m j X).set j ⟨m[j]!.val, b, m[j]!.next, X⟩ := by
  have e2 : (m.set j { m[j]! with alive := b })[j]! = { m[j]! with alive := b } := by rw [cV _ _ (by rw [List.length_set]; exact h), List.getElem_set_self]
  unfold eE
  rw [e2, List.map_set, List.set_set, List.set_set]; rfl
 rw [e]
 exact fF (by rw [eD]; exact h) (by simp) (by rw [iP h]; rfl)
theorem qO (m : List Cl) (hm : OkM m) (x : Pt) : PC Tryz.prog 134 [sl c7 m, m5 x] (fun r => r = .tup [sl c7 (dS m x false), iv (nK m x), iv (cP m x false)]) := by
 have hml := hm.l
 by_cases hk : cP m x false = 0
 ·obtain ⟨c, t⟩ := x
  obtain ⟨h1, h2, h3, h4, _⟩ := eU hk
  obtain ⟨j, rfl⟩ := Int.eq_ofNat_of_zero_le (show 0 ≤ c from h1)
  have hj : j < m.length := by have : (j : Int) < m.length := h2;omega
  obtain ⟨k, hkk⟩ := Int.eq_ofNat_of_zero_le (show 0 ≤ dE m[j]!.stk t from h4)
  obtain ⟨r, hr⟩ : ∃ r, r = fP m[j]!.stk k false := ⟨_, rfl⟩
  have hto := AK m j t r k m.length hm rfl hj hkk h3 hr
  have hog := iP (m := m) (j := j) (X := .own (0 + 1 + 3 + 3) 0 r.length 2) hj
  have hol := eD (m := m) (j := j) (X := .own (0 + 1 + 3 + 3) 0 r.length 2)
  (refine aU Tryz.func134 rfl (by simp [Tryz.ntmps134]) ?_; rw [Tryz.ntmps134])
  repeat' (first|(apply aL;first|((apply oH (j := j));(case ha0 => rfl);(case hmc => exact uT m j hm hj);(case hM|hN => rfl))|((apply wX (m := m) (j := j) (t := t) (r := r) (n := m.length));(case ha0|ha1|ha2|hH0|hH1|hdd => rfl);(case hmc => exact hto);(case hM|hN => rfl))|(apply aE;rfl;rfl)|(first|(apply cY;(case hx|hH => rfl);(case hf|hg|hα => infer_instance);(case hk => omega);(case hc|hN => rfl))|(apply aN;rfl;rfl;rfl;rfl)|(apply aV;rfl;rfl;(exact (rfl:_=[_, _]));rfl;rfl;rfl))|(apply aD;rfl;rfl;rfl)|(apply aT;rfl;rfl;rfl;rfl)|(apply aC;rfl;rfl)|(apply cM;rfl;rfl;(assumption);rfl)|(apply aF;kernel_rfl)|(apply bK;rfl;rfl;rfl;rfl))|(apply aM;first|apply aH|apply aB|(apply b0;kernel_rfl)|(apply cH;rfl;(rfl))|apply aS|apply aR)|with_reducible apply aA)
  refine cD (Le.cls (o := 2) (q := 7) (j := j) (k := r.length) (m := m) (r := r) rfl rfl rfl hj (by decide)) ?_
  refine cD (Le.frzD (d := 4) (i := 2) rfl rfl) ?_
  rw [hog]
  refine aP (l := [.imm m.length (aI c7 (m.set j { m[j]! with stk := r })), iv m[j]!.val, iv 0]) rfl ?_
  have eM : dS m ⟨j, t⟩ false = m.set j { m[j]! with stk := r } := by
   unfold dS iY;rw [if_pos hk]; dsimp only
   rw [Int.toNat_natCast, hkk, Int.toNat_natCast, hr]
  have eN : nK m ⟨j, t⟩ = m[j]!.val := by unfold nK;rw [if_pos hk]; rfl
  rw [eM, eN, hk, fO (by rw [List.length_set])]
  exact ⟨rfl, by (exact Pur.pf)⟩
 ·(refine aU Tryz.func134 rfl (by simp [Tryz.ntmps134]) ?_; rw [Tryz.ntmps134])
  repeat' (first|(apply aL;first|(apply iR;rfl;exact kR m hm;rfl;rfl)|((apply mY (m := m) (x := x) (wr := false) (n := m.length));(case ha0|ha1|ha2|hH0 => rfl);(case hmc => exact oD m x false _ hm rfl hk);(case hM|hN => rfl))|(apply aE;rfl;rfl)|(apply aV;rfl;rfl;(exact (rfl:_=[_, _]));rfl;rfl;rfl)|(apply aT;rfl;rfl;rfl;rfl)|(apply aC;rfl;rfl)|(apply aF;kernel_rfl)|(apply bK;rfl;rfl;rfl;rfl))|(apply aM;first|apply aH|apply aB|(apply aO;rfl;all_goals intro hc;have hq:=hc;(try simp only [cJ] at hq);try exfalso;omega)|apply aR)|with_reducible apply aA|with_reducible apply bJ)
  (refine cD (Le.frzD (d := 4) (i := 2) rfl rfl) ?_; refine aP rfl ?_)
  refine ⟨?_, by (exact Pur.pf)⟩
  simp only [bX]
  unfold dS nK;rw [if_neg hk, if_neg hk]
theorem AA (m : List Cl) (hm : OkM m) (x : Pt) : PC Tryz.prog 188 [sl c7 m, m5 x] (fun r => r = .tup [sl c7 (iD m x), iv (cP m x true)]) := by
 have hml := hm.l
 by_cases hk : cP m x true = 0
 ·obtain ⟨c, t⟩ := x
  obtain ⟨h1, h2, h3, h4, hu⟩ := eU hk
  obtain ⟨j, rfl⟩ := Int.eq_ofNat_of_zero_le (show 0 ≤ c from h1)
  have hj : j < m.length := by have : (j : Int) < m.length := h2;omega
  obtain ⟨k, hkk⟩ := Int.eq_ofNat_of_zero_le (show 0 ≤ dE m[j]!.stk t from h4)
  have huk : m[j]!.stk[k]!.uq = true := by
   have h : m[j]!.stk[(dE m[j]!.stk t).toNat]!.uq = true := hu rfl
   rwa [hkk, Int.toNat_natCast] at h
  have htw := tQ m j t k m.length hm rfl hj hkk h3 huk
  have hrl : (m[j]!.stk.take (k + 1)).length = k + 1 := by
   have hb := eZ m[j]!.stk t
   rw [List.length_take]; omega
  have hol := eD (m := m) (j := j) (X := .own (0 + 1 + 2) 0 (k + 1) 2)
  have hls : (m.set j { m[j]! with alive := false }).length = m.length := List.length_set
  (refine aU Tryz.func188 rfl (by simp [Tryz.ntmps188]) ?_; rw [Tryz.ntmps188])
  repeat' (first|(apply aL;first|((apply oH (j := j));(case ha0 => rfl);(case hmc => exact uT m j hm hj);(case hM|hN => rfl))|((apply wK (m := m) (j := j) (t := t) (k := k) (n := m.length));(case ha0|ha1|ha2|hH0|hH1|hdd => rfl);(case hmc => exact htw);(case hM|hN => rfl))|(apply aX;rfl;rfl;rfl;rfl;rfl;(rw [aQ]; simp only [List.length_append, List.length_cons, List.length_nil]; omega);exact Jh hj)|(apply aE;rfl;rfl)|(first|(apply aN;rfl;rfl;rfl;rfl)|(apply aV;rfl;rfl;(exact (rfl:_=[_, _]));rfl;rfl;rfl))|(apply aD;rfl;rfl;rfl)|(apply aT;rfl;rfl;rfl;rfl)|(apply aC;rfl;rfl)|(apply cM;rfl;rfl;(assumption);rfl)|(apply aF;kernel_rfl)|(apply bK;rfl;rfl;rfl;rfl))|(apply aM;first|apply aH|apply aB|(apply cA;rfl;(rfl))|apply aR)|with_reducible apply aA)
  refine cD (Le.cls (o := 2) (q := 3) (j := j) (k := k + 1) (m := m.set j { m[j]! with alive := false }) (r := m[j]!.stk.take (k + 1)) rfl rfl hrl.symm (by rw [hls]; exact hj) (by decide)) ?_
  refine cD (Le.frzD (d := 4) (i := 2) rfl rfl) ?_
  rw [lI hj, set_set]
  refine aP (l := [.imm m.length (aI c7 (m.set j { m[j]! with alive := false, stk := m[j]!.stk.take (k + 1) })), iv 0]) rfl ?_
  have eM : iD m ⟨j, t⟩ = m.set j { m[j]! with alive := false, stk := m[j]!.stk.take (k + 1) } := by
   unfold iD iY;rw [if_pos hk]; dsimp only
   rw [Int.toNat_natCast, hkk, Int.toNat_natCast]; unfold fP;rw [if_pos rfl]
  rw [eM, hk, fO (by rw [List.length_set])]
  exact ⟨rfl, by (exact Pur.pf)⟩
 ·(refine aU Tryz.func188 rfl (by simp [Tryz.ntmps188]) ?_; rw [Tryz.ntmps188])
  repeat' (first|(apply aL;first|(apply iR;rfl;exact kR m hm;rfl;rfl)|((apply mY (m := m) (x := x) (wr := true) (n := m.length));(case ha0|ha1|ha2|hH0 => rfl);(case hmc => exact oD m x true _ hm rfl hk);(case hM|hN => rfl))|(apply aE;rfl;rfl)|(apply aV;rfl;rfl;(exact (rfl:_=[_, _]));rfl;rfl;rfl)|(apply aT;rfl;rfl;rfl;rfl)|(apply aC;rfl;rfl)|(apply aF;kernel_rfl)|(apply bK;rfl;rfl;rfl;rfl))|(apply aM;first|apply aH|apply aB|(apply aO;rfl;all_goals intro hc;have hq:=hc;(try simp only [cJ] at hq);try exfalso;omega)|apply aS|apply aR)|with_reducible apply aA)
  (refine cD (Le.frzD (d := 4) (i := 2) rfl rfl) ?_; refine aP rfl ?_)
  refine ⟨?_, by (exact Pur.pf)⟩
  simp only [bX]
  unfold iD;rw [if_neg hk]
theorem xG (m : List Cl) (hm : OkM m) (x : Pt) (v : Int) : PC Tryz.prog 135 [sl c7 m, m5 x, iv v] (fun r => r = .tup [sl c7 (nP m x v), iv (oJ m x v)]) := by
 have hml := hm.l
 by_cases hv : 0 ≤ v ∧ v ≤ 9
 case neg =>
  have hwk : oJ m x v = 4 := by unfold oJ;rw [if_neg hv]
  have e : nP m x v = m := by unfold nP;rw [if_neg (by rw [hwk]; decide)]
  (refine aU Tryz.func135 rfl (by simp [Tryz.ntmps135]) ?_; rw [Tryz.ntmps135])
  repeat' (first|(apply aL;first|(apply iR;rfl;exact kR m hm;rfl;rfl)|(apply aE;rfl;rfl)|(apply aC;rfl;rfl)|((with_reducible apply aJ (k := 84));(case ha => rfl);(case h => (apply eC <;> (fail)));(case hp => (rfl));(case hN => rfl))|(apply aF;kernel_rfl)|(apply cG;rfl;rfl)|(apply bK;rfl;rfl;rfl;rfl))|(apply aM;first|apply aH|apply aB|(apply aO;rfl;all_goals intro hc;have hq:=hc;(try simp only [cJ] at hq);try exfalso;omega)|apply aR)|with_reducible apply aA|with_reducible apply bJ)
  all_goals (try (exfalso;omega))
  all_goals (
   (refine cD (Le.frzD (d := 6) (i := 2) rfl rfl) ?_; refine aP rfl ?_)
   refine ⟨?_, by (exact Pur.pf)⟩
   simp only [bX]
   rw [e, hwk])
 case pos =>
 have hwk : oJ m x v = cP m x true := by unfold oJ;rw [if_pos hv]
 by_cases hk : cP m x true = 0
 ·obtain ⟨c, t⟩ := x
  obtain ⟨h1, h2, h3, h4, hu⟩ := eU hk
  obtain ⟨j, rfl⟩ := Int.eq_ofNat_of_zero_le (show 0 ≤ c from h1)
  have hj : j < m.length := by have : (j : Int) < m.length := h2;omega
  obtain ⟨k, hkk⟩ := Int.eq_ofNat_of_zero_le (show 0 ≤ dE m[j]!.stk t from h4)
  have huk : m[j]!.stk[k]!.uq = true := by
   have h : m[j]!.stk[(dE m[j]!.stk t).toNat]!.uq = true := hu rfl
   rwa [hkk, Int.toNat_natCast] at h
  have htw := tQ m j t k m.length hm rfl hj hkk h3 huk
  have hrl : (m[j]!.stk.take (k + 1)).length = k + 1 := by
   have hb := eZ m[j]!.stk t
   rw [List.length_take]; omega
  have hol := eD (m := m) (j := j) (X := .own (0 + 1 + 2) 0 (k + 1) 2)
  have hls : (m.set j { m[j]! with val := v }).length = m.length := List.length_set
  (refine aU Tryz.func135 rfl (by simp [Tryz.ntmps135]) ?_; rw [Tryz.ntmps135])
  repeat' (first|(apply aL;first|((apply oH (j := j));(case ha0 => rfl);(case hmc => exact uT m j hm hj);(case hM|hN => rfl))|((apply wK (m := m) (j := j) (t := t) (k := k) (n := m.length));(case ha0|ha1|ha2|hH0|hH1|hdd => rfl);(case hmc => exact htw);(case hM|hN => rfl))|(apply aX;rfl;rfl;rfl;rfl;rfl;(rw [aQ]; simp only [List.length_append, List.length_cons, List.length_nil]; omega);exact Ih hj)|(apply aE;rfl;rfl)|(first|(apply aN;rfl;rfl;rfl;rfl)|(apply aV;rfl;rfl;(exact (rfl:_=[_, _]));rfl;rfl;rfl))|(apply aD;rfl;rfl;rfl)|(apply aT;rfl;rfl;rfl;rfl)|(apply aC;rfl;rfl)|(apply cM;rfl;rfl;(assumption);rfl)|((with_reducible apply aJ (k := 84));(case ha => rfl);(case h => (apply eC <;> (fail)));(case hp => (rfl));(case hN => rfl))|(apply aF;kernel_rfl)|(apply cG;rfl;rfl)|(apply bK;rfl;rfl;rfl;rfl))|(apply aM;first|apply aH|apply aB|(apply cA;rfl;(rfl))|(apply aO;rfl;all_goals intro hc;have hq:=hc;(try simp only [cJ] at hq);try exfalso;omega)|apply aS|apply aR)|with_reducible apply aA)
  refine cD (Le.cls (o := 2) (q := 3) (j := j) (k := k + 1) (m := m.set j { m[j]! with val := v }) (r := m[j]!.stk.take (k + 1)) rfl rfl hrl.symm (by rw [hls]; exact hj) (by decide)) ?_
  refine cD (Le.frzD (d := 6) (i := 2) rfl rfl) ?_
  rw [lI hj, set_set]
  refine aP (l := [.imm m.length (aI c7 (m.set j { m[j]! with val := v, stk := m[j]!.stk.take (k + 1) })), iv 0]) rfl ?_
  have eM : nP m ⟨j, t⟩ v = m.set j { m[j]! with val := v, stk := m[j]!.stk.take (k + 1) } := by
   unfold nP iY;rw [hwk, if_pos hk]; dsimp only
   rw [Int.toNat_natCast, hkk, Int.toNat_natCast]; unfold fP;rw [if_pos rfl]
  rw [eM, hwk, hk, fO (by rw [List.length_set])]
  exact ⟨rfl, by (exact Pur.pf)⟩
 ·(refine aU Tryz.func135 rfl (by simp [Tryz.ntmps135]) ?_; rw [Tryz.ntmps135])
  repeat' (first|(apply aL;first|(apply iR;rfl;exact kR m hm;rfl;rfl)|((apply mY (m := m) (x := x) (wr := true) (n := m.length));(case ha0|ha1|ha2|hH0 => rfl);(case hmc => exact oD m x true _ hm rfl hk);(case hM|hN => rfl))|(apply aE;rfl;rfl)|(apply aV;rfl;rfl;(exact (rfl:_=[_, _]));rfl;rfl;rfl)|(apply aT;rfl;rfl;rfl;rfl)|(apply aC;rfl;rfl)|((with_reducible apply aJ (k := 84));(case ha => rfl);(case h => (apply eC <;> (fail)));(case hp => (rfl));(case hN => rfl))|(apply aF;kernel_rfl)|(apply cG;rfl;rfl)|(apply bK;rfl;rfl;rfl;rfl))|(apply aM;first|apply aH|apply aB|(apply aO;rfl;all_goals intro hc;have hq:=hc;(try simp only [cJ] at hq);try exfalso;omega)|apply aS|apply aR)|with_reducible apply aA)
  (refine cD (Le.frzD (d := 6) (i := 2) rfl rfl) ?_; refine aP rfl ?_)
  refine ⟨?_, by (exact Pur.pf)⟩
  simp only [bX]
  unfold nP;rw [hwk, if_neg hk]
theorem B9 (m : List Cl) (hm : OkM m) (v : Int) : PC Tryz.prog 185 [sl c7 m, iv v] (fun r => r = .tup [sl c7 (m ++ [nT v]), .agg [iv m.length, iv 0]]) := by
 have hml := hm.l
 (refine aU Tryz.func185 rfl (by simp [Tryz.ntmps185]) ?_; rw [Tryz.ntmps185])
 repeat' (first|(apply aL;first|(apply iR;rfl;exact kR m hm;rfl;rfl)|(apply aE;rfl;rfl)|(apply aC;rfl;rfl)|(first|(apply bC;rfl;rfl;rfl)|(apply bW;rfl;rfl;rfl;rfl;rfl;(rw [aQ]; omega);(rfl);omega;omega;(rfl);rfl;rfl))|(apply aF;kernel_rfl)|(apply b8;rfl;(first|exact (rfl:_=some [_, _])|exact (rfl:_=some [_, _, _, _]));(first|exact (rfl:_=[_, _])|exact (rfl:_=[_, _, _, _]));rfl)|(apply bI;rfl;rfl)|((apply a7 (t := _));(case hze|hsm|hl => rfl);(case hfl => (first|exact (rfl:_=some [_, _])|exact (rfl:_=some [_, _, _, _])));(case hM|hN => rfl))|(apply aX;rfl;rfl;rfl;rfl;rfl;(case hl => (simp;done));(exact (rfl:_=[_, _]))))|(apply aM;first|apply aH|apply aB|apply aR)|with_reducible apply aA)
 have e2 : AV.imm (m.length + 1) (((aI c7 m).drop 0).take (m.length * 4) ++ [iv v, bv true, iv 1, .imm 1 [iv 0, bv true]]) = sl c7 (m ++ [nT v]) := by
  have e : ((aI c7 m).drop 0).take (m.length * 4) ++ [iv v, bv true, iv 1, .imm 1 [iv 0, bv true]] = aI c7 (m ++ [nT v]) := gI rfl rfl
  rw [e]; exact fO (by rw [List.length_append]; rfl)
 refine cD (Le.frzD (d := 4) (i := 5) rfl rfl) ?_
 refine aP (l := [AV.imm (m.length + 1) (((aI c7 m).drop 0).take (m.length * 4) ++ [iv v, bv true, iv 1, .imm 1 [iv 0, bv true]]), .agg [iv m.length, iv 0]]) rfl ?_
 rw [e2]
 exact ⟨rfl, by (exact Pur.pf)⟩
theorem Bo (m : List Cl) (hm : OkM m) (v : Int) : PC Tryz.prog 130 [sl c7 m, iv v] (fun r => r = .tup (if 0 ≤ v ∧ v ≤ 9 ∧ m.length < 200 then [sl c7 (m ++ [nT v]), .agg [iv m.length, iv 0], bv true] else [sl c7 [], .agg [iv 0, iv 0], bv false])) := by
 have hml := hm.l
 have hcv := iO m hm
 have hnc := B9 m hm v
 (refine aU Tryz.func130 rfl (by simp [Tryz.ntmps130]) ?_; rw [Tryz.ntmps130])
 repeat' (first|(apply aL;first|((with_reducible apply aJ (k := 184));(case ha => rfl);(case h => exact hcv);(case hp => (exact Pur.pf));(case hN => rfl))|((with_reducible apply aJ (k := 185));(case ha => rfl);(case h => exact hnc);(case hp => (exact Pur.pf));(case hN => rfl))|(apply aE;rfl;rfl)|(apply aV;rfl;rfl;(exact (rfl:_=[_, _]));rfl;rfl;rfl)|(first|(apply bB;rfl;rfl;rfl;(first|rfl|assumption))|(apply bD;rfl;rfl;rfl;(assumption))|(apply bS;(case hj|hb|hN => rfl);all_goals (intro hg;have hq := hg;(try simp only [cJ] at hq);(try (exfalso;omega)))))|(apply aT;rfl;rfl;rfl;rfl)|(apply aC;rfl;rfl)|(first|(apply bV;rfl;(assumption);rfl;rfl)|(apply bQ;rfl;(first|rfl|assumption);rfl;rfl))|((with_reducible apply aJ (k := 84));(case ha => rfl);(case h => (apply eC <;> (fail)));(case hp => (rfl));(case hN => rfl))|(apply bC;rfl;rfl;rfl)|(apply aF;kernel_rfl)|(apply b8;rfl;(exact (rfl:_=some [_, _]));(exact (rfl:_=[_, _]));rfl)|(apply cG;rfl;rfl)|(apply bI;rfl;rfl)|(apply bE;rfl;rfl;rfl)|(apply aX;rfl;rfl;rfl;rfl;rfl;(case hl => (first|decide|(simp;done)));(exact (rfl:_=[_, _]))))|(apply aM;first|apply aH|apply aB|(apply b0;kernel_rfl)|(apply cA;rfl;(rfl))|(apply aO;rfl;all_goals intro hc;have hq:=hc;(try simp only [cJ] at hq);try exfalso;omega)|apply aS|apply aR)|with_reducible apply aA|with_reducible apply bJ)
 ·refine cD (Le.nilImm (d := 4) rfl) ?_
  exact aP (l := [sl c7 [], .agg [iv 0, iv 0], bv false]) rfl ⟨by rw [if_neg (by omega)]; rfl, rfl⟩
 ·exact aP (l := [sl c7 (m ++ [nT v]), .agg [iv m.length, iv 0], bv true]) rfl ⟨by rw [if_pos (by omega)]; rfl, by (exact Pur.pf)⟩
 ·refine cD (Le.nilImm (d := 4) rfl) ?_
  exact aP (l := [sl c7 [], .agg [iv 0, iv 0], bv false]) rfl ⟨by rw [if_neg (by omega)]; rfl, rfl⟩
theorem EB {m : List Cl} {j : Nat} {t : Int} {r : List Tg} {n : Nat} {N : Nat} {Q : Exit → AS → Prop} {all : Array Oper} {rest : List Oper} {tsl : List (Nat × AV)} {hsl : List (Nat × Option (List AV))} {nidl : Nat} {z0 : Lo} {md : Md} {d : Nat} {ty : TypeId} {pos : String} {af : Array Edge} {tys : Array TypeId} {x0 x1 x2 : Operand} {i0 i1 : Nat} (ha0 : ev (lk tsl) x0 = some (.own i0 0 n 4)) (ha1 : ev (lk tsl) x1 = some (.agg [iv (j : Int), iv t])) (ha2 : ev (lk tsl) x2 = some (bv true)) (hH0 : cO hsl i0 = some (aI fR (eE m j (.own i1 0 m[j]!.stk.length 2)))) (hH1 : cO hsl i1 = some (aI dM m[j]!.stk)) (hdd : Go.AL.distinct [i0, i1] = true) (hmc : MC Tryz.prog 187 [.own 0 0 n 4, .agg [iv (j : Int), iv t], bv true] [(0, some (aI fR (eE m j (.own 1 0 m[j]!.stk.length 2)))), (1, some (aI dM m[j]!.stk))] 2 (fun _ : Unit => True) (fun _ => iv 0) (fun _ => [(0, some (aI fR (eE m j (.own 1 0 r.length 2)))), (1, some (aI dM r))])) (hM : Nat.ble (nidl + 0) eS = true) (hN : Nat.blt d N = true) {md' : Md} [hmd : MdA md (gL [x0, x1, x2] ++ [.inr i0, .inr i1]) (List.map Sum.inr (List.map Prod.fst ([(i0, some (aI fR (eE m j (.own i1 0 r.length 2)))), (i1, some (aI dM r))] : List (Nat × Option (List AV)))) ++ [.inl d]) md'] (kk : RW Tryz.prog N all Q md' rest ⟨(d, iv 0) :: tsl, iH hsl [(i0, some (aI fR (eE m j (.own i1 0 r.length 2)))), (i1, some (aI dM r))], nidl + 0, z0⟩) : RW Tryz.prog N all Q md (⟨some d, .call ⟨.value (.func 187), #[x0, x1, x2], tys⟩, ty, pos, af, none⟩ :: rest) ⟨tsl, hsl, nidl, z0⟩ := by
 refine cE [i0, i1] 2 [(i0, some (aI fR (eE m j (.own i1 0 r.length 2)))), (i1, some (aI dM r))] hmc (avs := [.own i0 0 n 4, .agg [iv (j : Int), iv t], bv true]) ?_ hdd ?_ rfl ?_ (by simpa using hM) ?_ ?_ ?_ hN (md' := md') (hmd := hmd) kk
 ·show evL (lk tsl) [x0, x1, x2] = _
  simp only [evL, ha0, ha1, ha2]
 ·exact ⟨⟨_, _, rfl, hH0, by (repeat' (exact kP rfl))⟩, ⟨⟨_, _, rfl, hH1, by (repeat' (exact RnL.purI inferInstance))⟩, trivial⟩⟩
 ·(repeat' (first|exact RnL.purI inferInstance|exact RnV.own rfl|refine RnL.cons ?_ ?_))
 ·(repeat' (exact RnV.purI inferInstance))
 ·simp [dL]
 ·(repeat' (first|exact trivial|(refine And.intro ⟨0, _, rfl, rfl, ?_⟩ ?_)|(refine And.intro ⟨1, _, rfl, rfl, ?_⟩ ?_)|exact RnL.purI inferInstance|exact kP rfl))
theorem HD (m : List Cl) (j : Nat) (t : Int) (r : List Tg) (k n : Nat) (hm : OkM m) (hn : n = m.length) (hj : j < m.length) (hk : dE m[j]!.stk t = (k : Int)) (hal : m[j]!.alive = true) (hu : m[j]!.stk[k]!.uq = true) (hre : m[j]!.stk.take (k + 1) = r) (hrk : k + 1 = r.length) : MC Tryz.prog 187 [.own 0 0 n 4, .agg [iv (j : Int), iv t], bv true] [(0, some (aI fR (eE m j (.own 1 0 m[j]!.stk.length 2)))), (1, some (aI dM m[j]!.stk))] 2 (fun _ : Unit => True) (fun _ => iv 0) (fun _ => [(0, some (aI fR (eE m j (.own 1 0 r.length 2)))), (1, some (aI dM r))]) := by
 have h := tQ m j t k n hm hn hj hk hal hu
 rw [hre, hrk] at h
 exact h
theorem Ji (m : List Cl) (hm : OkM m) (j k : Nat) (t : Int) (r : List Tg) (hj : j < m.length) (hkk : dE m[j]!.stk t = (k : Int)) (hk : cP m ⟨(j : Int), t⟩ false = 0) (hr : r = fP m[j]!.stk k false) : PC Tryz.prog 132 [sl c7 m, .agg [iv (j : Int), iv t], bv false] (fun z => z = .tup [sl c7 (j9 m m j false r), m5 (kB m j r), iv (kA m j r)]) := by
 have hml := hm.l
 obtain ⟨h1, h2, h3, h4, hu⟩ := eU hk
 have hc := ((eA m).1 hm).2 j hj
 have hb := eZ m[j]!.stk t
 have hrl : r.length ≤ 200 := by rw [hr]; exact Nat.le_trans tchS_sub.length_le hc.l.2
 have hnx := hc.n
 obtain ⟨_, e2, _⟩ := lW hk (r := r) (by rw [hr]; show _ = fP m[j]!.stk (dE m[j]!.stk t).toNat false;rw [hkk]; rfl)
 have e2' : j5 m ⟨(j : Int), t⟩ false = j9 m m j false r := e2
 have hok := hm.ln ⟨(j : Int), t⟩ false
 rw [e2'] at hok
 have hto := AK m j t r k m.length hm rfl hj hkk h3 hr
 have hog := iP (m := m) (j := j) (X := .own (0 + 1 + 1 + 3 + 3) 0 r.length 2) hj
 have hol := eD (m := m) (j := j) (X := .own (0 + 1 + 1 + 3 + 3) 0 r.length 2)
 have hol2 := eD (m := m) (j := j) (X := .own (0 + 1 + 1 + 3 + 4 + 1) 0 (r.length + 1) 2)
 have hm2 : (m.set j { m[j]! with next := m[j]!.next + 1 }).length = m.length := List.length_set
 (refine aU Tryz.func132 rfl (by simp [Tryz.ntmps132]) ?_; rw [Tryz.ntmps132])
 repeat' (first|(apply aL;first|((apply oH (j := j));(case ha0 => rfl);(case hmc => exact uT m j hm hj);(case hM|hN => rfl))|((apply wX (m := m) (j := j) (t := t) (r := r) (n := m.length));(case ha0|ha1|ha2|hH0|hH1|hdd => rfl);(case hmc => exact hto);(case hM|hN => rfl))|(with_reducible apply cS (d := 32))|(apply aE;rfl;rfl)|(first|(apply cY;(case hx|hH => rfl);(case hf|hg|hα => infer_instance);(case hk => omega);(case hc|hN => rfl))|(apply aN;rfl;rfl;rfl;rfl)|(apply aV;rfl;rfl;(exact (rfl:_=[_, _]));rfl;rfl;rfl))|(apply aD;rfl;rfl;rfl)|(apply aT;rfl;rfl;rfl;rfl)|(apply aC;rfl;rfl)|(apply cM;rfl;rfl;(assumption);rfl)|(apply aF;kernel_rfl)|(apply bY;rfl;rfl;rfl)|(apply bK;rfl;rfl;rfl;rfl)|(apply bI;rfl;rfl))|(apply aM;first|apply aH|apply aB|(apply cH;rfl;(rfl))|apply aS)|with_reducible apply aA)
 refine dO ?_
 rw [hog]
 dsimp only
 by_cases hf : oB m j r
 ·have eM : j9 m m j false r = m := by unfold j9; rw [if_pos hf]
  have eP : kB m j r = ⟨0, 0⟩ := by unfold kB;rw [if_pos hf]
  have eK : kA m j r = 4 := by unfold kA;rw [if_pos hf]
  rw [eM, eP, eK]
  unfold oB at hf
  repeat' (first|(apply aL;first|(apply iR;rfl;exact kR m hm;rfl;rfl)|(with_reducible apply cS (d := 44))|(apply aE;rfl;rfl)|(apply cY;(case hx|hH => rfl);(case hf|hg|hα => infer_instance);(case hk => omega);(case hc|hN => rfl))|(apply aD;rfl;rfl;rfl)|(first|(apply bB;rfl;rfl;rfl;(assumption))|(apply bD;rfl;rfl;rfl;(assumption))|(apply bS;(case hj|hb|hN => rfl);all_goals (intro hg;have hq := hg;(try simp only [cJ] at hq);(try (exfalso;omega)))))|(apply aT;rfl;rfl;rfl;rfl)|(apply aC;rfl;rfl)|(first|(apply bV;rfl;(assumption);rfl;rfl)|(apply bQ;rfl;(assumption);rfl;rfl))|(apply bC;rfl;rfl;rfl)|(apply aF;kernel_rfl)|(apply b8;rfl;(exact (rfl:_=some [_, _]));(exact (rfl:_=[_, _]));rfl)|(apply bY;rfl;rfl;rfl)|(apply aX;rfl;rfl;rfl;rfl;rfl;(decide);(exact (rfl:_=[_, _]))))|(apply aM;first|apply aH|apply aB|(apply cA;rfl;(rfl))|(apply aO;rfl;all_goals intro hc;have hq:=hc;(try simp only [cJ] at hq);try exfalso;omega)|apply aS|apply aR)|with_reducible apply aA|with_reducible apply bJ)
  ·refine cD (Le.frzD (d := 6) (i := 10) rfl rfl) ?_
   exact aP (l := [sl c7 m, .agg [iv 0, iv 0], iv 4]) rfl ⟨rfl, by (exact Pur.pf)⟩
  ·exfalso
   have h : ¬ (eE m j (.own (0 + 1 + 1 + 3 + 3) 0 r.length 2))[j]!.next = 1000 := by assumption
   rw [hog] at h
   dsimp only at h
   omega
  ·refine cD (Le.frzD (d := 6) (i := 10) rfl rfl) ?_
   exact aP (l := [sl c7 m, .agg [iv 0, iv 0], iv 4]) rfl ⟨rfl, by (exact Pur.pf)⟩
 ·have eM : j9 m m j false r = m.set j (psh { m[j]! with stk := r } false) := by unfold j9; rw [if_neg hf]
  have eP : kB m j r = ⟨j, m[j]!.next⟩ := by unfold kB;rw [if_neg hf]
  have eK : kA m j r = 0 := by unfold kA;rw [if_neg hf]
  rw [eM] at hok
  rw [eM, eP, eK]
  unfold oB at hf
  have hown := kR _ hok
  repeat' (first|(apply aL;first|(with_reducible apply cS (d := 41))|(with_reducible apply cS (d := 54))|(apply aE;rfl;rfl)|(apply cY;(case hx|hH => rfl);(case hf|hg|hα => infer_instance);(case hk => omega);(case hc|hN => rfl))|(apply aD;rfl;rfl;rfl)|(first|(apply bB;rfl;rfl;rfl;(assumption))|(apply bS;(case hj|hb|hN => rfl);all_goals (intro hg;have hq := hg;(try simp only [cJ] at hq);(try (exfalso;omega)))))|(apply aT;rfl;rfl;rfl;rfl)|(apply aC;rfl;rfl)|(apply bQ;rfl;(assumption);rfl;rfl)|(apply bC;rfl;rfl;rfl)|(apply aF;kernel_rfl)|(apply bY;rfl;rfl;rfl))|(apply aM;first|apply aH|apply aB|(apply aO;rfl;all_goals intro hc;have hq:=hc;(try simp only [cJ] at hq);try exfalso;omega)|apply aS)|with_reducible apply aA)
  ·exfalso
   have h : (eE m j (.own (0 + 1 + 1 + 3 + 3) 0 r.length 2))[j]!.next = 1000 := by assumption
   rw [hog] at h
   dsimp only at h
   omega
  ·refine dO ?_
   rw [hog]
   dsimp only
   repeat' (first|(apply aL;first|(apply aX;rfl;rfl;rfl;rfl;rfl;(rw [aQ, eD]; simp only [List.length_append, List.length_cons, List.length_nil]; omega);(first|exact s8 hj|exact xD hj))|(apply aE;rfl;rfl)|(apply aD;rfl;rfl;rfl)|(apply bR;rfl;rfl;omega;rfl)|(apply bW;rfl;rfl;rfl;rfl;rfl;(rw [aQ]; omega);(rfl);omega;omega;(exact tL (by (omega)));rfl;rfl)|(apply aF;kernel_rfl)|(apply b8;rfl;(exact (rfl:_=some [_, _]));(exact (rfl:_=[_, _]));rfl)|(apply bY;rfl;rfl;rfl)|((apply a7 (t := _));(case hze|hsm|hl => rfl);(case hfl => (exact (rfl:_=some [_, _])));(case hM|hN => rfl)))|(apply aM;(apply aH))|with_reducible apply aA)
   refine AW.le ?_ (Le.cls (o := 3) (q := 0 + 1 + 1 + 3 + 4 + 1) (j := j) (k := r.length + 1) (m := m.set j { m[j]! with next := m[j]!.next + 1 }) (r := r ++ [⟨m[j]!.next, false⟩]) rfl rfl (by (rw [List.length_append]; rfl)) (by omega) (by decide))
   refine AW.le ?_ (Le.frzD (d := 9) (i := 3) rfl rfl)
   have e : (m.set j { m[j]! with next := m[j]!.next + 1 }).set j { (m.set j { m[j]! with next := m[j]!.next + 1 })[j]! with stk := r ++ [⟨m[j]!.next, false⟩] } = m.set j (psh { m[j]! with stk := r } false) := by
    rw [lI hj, set_set]; rfl
   rw [e, fO (f := c7) (xs := m.set j (psh { m[j]! with stk := r } false)) (by rw [List.length_set])]
   repeat' (first|(apply aL;first|(apply iR;rfl;exact hown;rfl;rfl)|(apply aE;rfl;rfl)|(apply aN;rfl;rfl;rfl;rfl)|(apply aD;rfl;rfl;rfl)|(apply aC;rfl;rfl)|(apply aF;kernel_rfl)|(apply b8;rfl;(exact (rfl:_=some [_, _]));(exact (rfl:_=[_, _]));rfl)|(apply aX;rfl;rfl;rfl;rfl;rfl;(case hl => (simp;done));(exact (rfl:_=[_, _]))))|(apply aM;first|(apply b0;kernel_rfl)|apply aR)|with_reducible apply aA)
   refine cD (Le.frzD (d := 6) (i := 12) rfl rfl) ?_
   exact aP (l := [sl c7 (m.set j (psh { m[j]! with stk := r } false)), .agg [iv (j : Int), iv m[j]!.next], iv 0]) rfl ⟨rfl, by (exact Pur.pf)⟩
  all_goals (exfalso;omega)
theorem IN (m : List Cl) (hm : OkM m) (j k : Nat) (t : Int) (r : List Tg) (hj : j < m.length) (hkk : dE m[j]!.stk t = (k : Int)) (hk : cP m ⟨(j : Int), t⟩ true = 0) (hr : r = fP m[j]!.stk k true) : PC Tryz.prog 132 [sl c7 m, .agg [iv (j : Int), iv t], bv true] (fun z => z = .tup [sl c7 (j9 m m j true r), m5 (kB m j r), iv (kA m j r)]) := by
 have hml := hm.l
 obtain ⟨h1, h2, h3, h4, hu⟩ := eU hk
 have hc := ((eA m).1 hm).2 j hj
 have hb := eZ m[j]!.stk t
 have hrl : r.length ≤ 200 := by rw [hr]; exact Nat.le_trans tchS_sub.length_le hc.l.2
 have hnx := hc.n
 obtain ⟨_, e2, _⟩ := lW hk (r := r) (by rw [hr]; show _ = fP m[j]!.stk (dE m[j]!.stk t).toNat true;rw [hkk]; rfl)
 have e2' : j5 m ⟨(j : Int), t⟩ true = j9 m m j true r := e2
 have hok := hm.ln ⟨(j : Int), t⟩ true
 rw [e2'] at hok
 have huk : m[j]!.stk[k]!.uq = true := by
  have h : m[j]!.stk[(dE m[j]!.stk t).toNat]!.uq = true := hu rfl
  rwa [hkk, Int.toNat_natCast] at h
 have hre : m[j]!.stk.take (k + 1) = r := by rw [hr]; unfold fP;rw [if_pos rfl]
 have hrk : k + 1 = r.length := by rw [← hre, List.length_take]; omega
 have hto := HD m j t r k m.length hm rfl hj hkk h3 huk hre hrk
 clear hre hrk huk hu hr hkk
 have hog := iP (m := m) (j := j) (X := .own (0 + 1 + 1 + 2) 0 r.length 2) hj
 have hol := eD (m := m) (j := j) (X := .own (0 + 1 + 1 + 2) 0 r.length 2)
 have hol2 := eD (m := m) (j := j) (X := .own (0 + 1 + 1 + 3 + 0 + 1) 0 (r.length + 1) 2)
 have hm2 : (m.set j { m[j]! with next := m[j]!.next + 1 }).length = m.length := List.length_set
 (refine aU Tryz.func132 rfl (by simp [Tryz.ntmps132]) ?_; rw [Tryz.ntmps132])
 repeat' (first|(apply aL;first|((apply oH (j := j));(case ha0 => rfl);(case hmc => exact uT m j hm hj);(case hM|hN => rfl))|((apply EB (m := m) (j := j) (t := t) (r := r) (n := m.length));(case ha0|ha1|ha2|hH0|hH1|hdd => rfl);(case hmc => exact hto);(case hM|hN => rfl))|(with_reducible apply cS (d := 32))|(apply aE;rfl;rfl)|(first|(apply cY;(case hx|hH => rfl);(case hf|hg|hα => infer_instance);(case hk => omega);(case hc|hN => rfl))|(apply aN;rfl;rfl;rfl;rfl)|(apply aV;rfl;rfl;(exact (rfl:_=[_, _]));rfl;rfl;rfl))|(apply aD;rfl;rfl;rfl)|(apply aT;rfl;rfl;rfl;rfl)|(apply aC;rfl;rfl)|(apply cM;rfl;rfl;(assumption);rfl)|(apply aF;kernel_rfl)|(apply bY;rfl;rfl;rfl)|(apply bK;rfl;rfl;rfl;rfl)|(apply bI;rfl;rfl))|(apply aM;first|apply aH|apply aB|(apply cH;rfl;(rfl))|apply aS)|with_reducible apply aA)
 refine dO ?_
 rw [hog]
 dsimp only
 by_cases hf : oB m j r
 ·have eM : j9 m m j true r = m := by unfold j9; rw [if_pos hf]
  have eP : kB m j r = ⟨0, 0⟩ := by unfold kB;rw [if_pos hf]
  have eK : kA m j r = 4 := by unfold kA;rw [if_pos hf]
  rw [eM, eP, eK]
  unfold oB at hf
  repeat' (first|(apply aL;first|(apply iR;rfl;exact kR m hm;rfl;rfl)|(with_reducible apply cS (d := 44))|(apply aE;rfl;rfl)|(apply cY;(case hx|hH => rfl);(case hf|hg|hα => infer_instance);(case hk => omega);(case hc|hN => rfl))|(apply aD;rfl;rfl;rfl)|(first|(apply bB;rfl;rfl;rfl;(assumption))|(apply bD;rfl;rfl;rfl;(assumption))|(apply bS;(case hj|hb|hN => rfl);all_goals (intro hg;have hq := hg;(try simp only [cJ] at hq);(try (exfalso;omega)))))|(apply aT;rfl;rfl;rfl;rfl)|(apply aC;rfl;rfl)|(first|(apply bV;rfl;(assumption);rfl;rfl)|(apply bQ;rfl;(assumption);rfl;rfl))|(apply bC;rfl;rfl;rfl)|(apply aF;kernel_rfl)|(apply b8;rfl;(exact (rfl:_=some [_, _]));(exact (rfl:_=[_, _]));rfl)|(apply bY;rfl;rfl;rfl)|(apply aX;rfl;rfl;rfl;rfl;rfl;(decide);(exact (rfl:_=[_, _]))))|(apply aM;first|apply aH|apply aB|(apply cA;rfl;(rfl))|(apply aO;rfl;all_goals intro hc;have hq:=hc;(try simp only [cJ] at hq);try exfalso;omega)|apply aS|apply aR)|with_reducible apply aA|with_reducible apply bJ)
  ·refine cD (Le.frzD (d := 6) (i := 6) rfl rfl) ?_
   exact aP (l := [sl c7 m, .agg [iv 0, iv 0], iv 4]) rfl ⟨rfl, by (exact Pur.pf)⟩
  ·exfalso
   have h : ¬ (eE m j (.own (0 + 1 + 1 + 2) 0 r.length 2))[j]!.next = 1000 := by assumption
   rw [hog] at h
   dsimp only at h
   omega
  ·refine cD (Le.frzD (d := 6) (i := 6) rfl rfl) ?_
   exact aP (l := [sl c7 m, .agg [iv 0, iv 0], iv 4]) rfl ⟨rfl, by (exact Pur.pf)⟩
 ·have eM : j9 m m j true r = m.set j (psh { m[j]! with stk := r } true) := by unfold j9; rw [if_neg hf]
  have eP : kB m j r = ⟨j, m[j]!.next⟩ := by unfold kB;rw [if_neg hf]
  have eK : kA m j r = 0 := by unfold kA;rw [if_neg hf]
  rw [eM] at hok
  rw [eM, eP, eK]
  unfold oB at hf
  have hown := kR _ hok
  repeat' (first|(apply aL;first|(with_reducible apply cS (d := 41))|(with_reducible apply cS (d := 54))|(apply aE;rfl;rfl)|(apply cY;(case hx|hH => rfl);(case hf|hg|hα => infer_instance);(case hk => omega);(case hc|hN => rfl))|(apply aD;rfl;rfl;rfl)|(first|(apply bB;rfl;rfl;rfl;(assumption))|(apply bS;(case hj|hb|hN => rfl);all_goals (intro hg;have hq := hg;(try simp only [cJ] at hq);(try (exfalso;omega)))))|(apply aT;rfl;rfl;rfl;rfl)|(apply aC;rfl;rfl)|(apply bQ;rfl;(assumption);rfl;rfl)|(apply bC;rfl;rfl;rfl)|(apply aF;kernel_rfl)|(apply bY;rfl;rfl;rfl))|(apply aM;first|apply aH|apply aB|(apply aO;rfl;all_goals intro hc;have hq:=hc;(try simp only [cJ] at hq);try exfalso;omega)|apply aS)|with_reducible apply aA)
  ·exfalso
   have h : (eE m j (.own (0 + 1 + 1 + 2) 0 r.length 2))[j]!.next = 1000 := by assumption
   rw [hog] at h
   dsimp only at h
   omega
  ·refine dO ?_
   rw [hog]
   dsimp only
   repeat' (first|(apply aL;first|(apply aX;rfl;rfl;rfl;rfl;rfl;(rw [aQ, eD]; simp only [List.length_append, List.length_cons, List.length_nil]; omega);(first|exact s8 hj|exact xD hj))|(apply aE;rfl;rfl)|(apply aD;rfl;rfl;rfl)|(apply bR;rfl;rfl;omega;rfl)|(apply bW;rfl;rfl;rfl;rfl;rfl;(rw [aQ]; omega);(rfl);omega;omega;(exact tL (by (omega)));rfl;rfl)|(apply aF;kernel_rfl)|(apply b8;rfl;(exact (rfl:_=some [_, _]));(exact (rfl:_=[_, _]));rfl)|(apply bY;rfl;rfl;rfl)|((apply a7 (t := _));(case hze|hsm|hl => rfl);(case hfl => (exact (rfl:_=some [_, _])));(case hM|hN => rfl)))|(apply aM;(apply aH))|with_reducible apply aA)
   refine AW.le ?_ (Le.cls (o := 3) (q := 0 + 1 + 1 + 3 + 0 + 1) (j := j) (k := r.length + 1) (m := m.set j { m[j]! with next := m[j]!.next + 1 }) (r := r ++ [⟨m[j]!.next, true⟩]) rfl rfl (by (rw [List.length_append]; rfl)) (by omega) (by decide))
   refine AW.le ?_ (Le.frzD (d := 9) (i := 3) rfl rfl)
   have e : (m.set j { m[j]! with next := m[j]!.next + 1 }).set j { (m.set j { m[j]! with next := m[j]!.next + 1 })[j]! with stk := r ++ [⟨m[j]!.next, true⟩] } = m.set j (psh { m[j]! with stk := r } true) := by
    rw [lI hj, set_set]; rfl
   rw [e, fO (f := c7) (xs := m.set j (psh { m[j]! with stk := r } true)) (by rw [List.length_set])]
   repeat' (first|(apply aL;first|(apply iR;rfl;exact hown;rfl;rfl)|(apply aE;rfl;rfl)|(apply aN;rfl;rfl;rfl;rfl)|(apply aD;rfl;rfl;rfl)|(apply aC;rfl;rfl)|(apply aF;kernel_rfl)|(apply b8;rfl;(exact (rfl:_=some [_, _]));(exact (rfl:_=[_, _]));rfl)|(apply aX;rfl;rfl;rfl;rfl;rfl;(case hl => (simp;done));(exact (rfl:_=[_, _]))))|(apply aM;first|(apply b0;kernel_rfl)|apply aR)|with_reducible apply aA)
   refine cD (Le.frzD (d := 6) (i := 8) rfl rfl) ?_
   exact aP (l := [sl c7 (m.set j (psh { m[j]! with stk := r } true)), .agg [iv (j : Int), iv m[j]!.next], iv 0]) rfl ⟨rfl, by (exact Pur.pf)⟩
  all_goals (exfalso;omega)
theorem HZ (m : List Cl) (hm : OkM m) (x : Pt) (u : Bool) : PC Tryz.prog 132 [sl c7 m, m5 x, bv u] (fun r => r = .tup [sl c7 (j5 m x u), m5 (oU m x u), iv (kU m x u)]) := by
 have hml := hm.l
 by_cases hk : cP m x u = 0
 ·obtain ⟨c, t⟩ := x
  obtain ⟨h1, h2, h3, h4, hu⟩ := eU hk
  obtain ⟨j, rfl⟩ := Int.eq_ofNat_of_zero_le (show 0 ≤ c from h1)
  have hj : j < m.length := by have : (j : Int) < m.length := h2;omega
  obtain ⟨k, hkk⟩ := Int.eq_ofNat_of_zero_le (show 0 ≤ dE m[j]!.stk t from h4)
  obtain ⟨r, hr⟩ : ∃ r, r = fP m[j]!.stk k u := ⟨_, rfl⟩
  obtain ⟨e1, e2, e3⟩ := lW hk (r := r) (by rw [hr]; show _ = fP m[j]!.stk (dE m[j]!.stk t).toNat u;rw [hkk]; rfl)
  rw [e1, e2, e3]
  cases u
  ·exact Ji m hm j k t r hj hkk hk hr
  ·exact IN m hm j k t r hj hkk hk hr
 ·obtain ⟨e1, e2, e3⟩ := Ha hk
  rw [e1, e2, e3]
  (refine aU Tryz.func132 rfl (by simp [Tryz.ntmps132]) ?_; rw [Tryz.ntmps132])
  repeat' (first|(apply aL;first|(apply iR;rfl;exact kR m hm;rfl;rfl)|((apply mY (m := m) (x := x) (wr := u) (n := m.length));(case ha0|ha1|ha2|hH0 => rfl);(case hmc => exact oD m x u _ hm rfl hk);(case hM|hN => rfl))|(apply aE;rfl;rfl)|(apply aV;rfl;rfl;(exact (rfl:_=[_, _]));rfl;rfl;rfl)|(apply aT;rfl;rfl;rfl;rfl)|(apply aC;rfl;rfl)|(apply aF;kernel_rfl)|(apply b8;rfl;(exact (rfl:_=some [_, _]));(exact (rfl:_=[_, _]));rfl)|(apply bK;rfl;rfl;rfl;rfl)|(apply bI;rfl;rfl)|(apply aX;rfl;rfl;rfl;rfl;rfl;(decide);(exact (rfl:_=[_, _]))))|(apply aM;first|apply aH|apply aB|(apply aO;rfl;all_goals intro hc;have hq:=hc;(try simp only [cJ] at hq);try exfalso;omega)|apply aR)|with_reducible apply aA|with_reducible apply bJ)
  refine cD (Le.frzD (d := 6) (i := 3) rfl rfl) ?_
  exact aP (l := [sl c7 m, .agg [iv 0, iv 0], iv (cP m x u)]) rfl ⟨rfl, by (exact Pur.pf)⟩
end Go.Proofs.YtckihjkcgfphmaaGreat
