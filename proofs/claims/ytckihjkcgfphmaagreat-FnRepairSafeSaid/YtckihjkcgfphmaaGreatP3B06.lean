/-
 A part of the proofs over this program: rules and contracts of its functions (the contracts).
-/
import Derived.Test.YtckihjkcgfphmaaGreatP3B05
set_option linter.unusedVariables false
set_option linter.unusedSimpArgs false
set_option maxHeartbeats 8000000
set_option maxRecDepth 4000
attribute [local irreducible] Go.AL.RW Go.AL.AW Go.AL.Stop
namespace Go.Proofs.YtckihjkcgfphmaaGreat
open Go.AL Go.RowKit
theorem Le.bump {ts : List (Nat × AV)} {hs : List (Nat × Option (List AV))} {n : Nat} {z0 : Lo} (k : Nat) : Le ⟨ts, hs, n, z0⟩ ⟨ts, hs, n + k, z0⟩ := Le.of (fun _ _ h => h) (fun _ _ h => h) (Nat.le_add_right _ _) rfl
theorem w4 {m : List Cl} {N : Nat} {Q : Exit → AS → Prop} {all : Array Oper} {rest : List Oper} {tsl : List (Nat × AV)} {hsl : List (Nat × Option (List AV))} {nidl : Nat} {z0 : Lo} {md : Md} {d : Nat} {ty : TypeId} {pos : String} {af : Array Edge} {tys : Array TypeId} {x0 : Operand} (ha0 : ev (lk tsl) x0 = some (sl c6 m)) (hmc : MC Tryz.prog 228 [sl c6 m] [] 0 (fun _ : Unit => True) (fun _ => .own 1 0 m.length 4) (fun _ => [(1, some (aI c6 m))])) (hM : Nat.ble (nidl + 2) eZ = true) (hN : Nat.blt d N = true) {md' : Md} [hmd : MdA md (gK [x0] ++ []) (List.map Sum.inr (List.map Prod.fst ([((nidl + 1), some (aI c6 m))] : List (Nat × Option (List AV)))) ++ [.inl d]) md'] (kk : RW Tryz.prog N all Q md' rest ⟨(d, .own (nidl + 1) 0 m.length 4) :: tsl, iD hsl [((nidl + 1), some (aI c6 m))], nidl + 2, z0⟩) : RW Tryz.prog N all Q md (⟨some d, .call ⟨.value (.func 228), #[x0], tys⟩, ty, pos, af, none⟩ :: rest) ⟨tsl, hsl, nidl, z0⟩ := by
 refine cE [] 2 [((nidl + 1), some (aI c6 m))] hmc (avs := [sl c6 m]) ?_ rfl ?_ rfl ?_ (by simpa using hM) ?_ ?_ ?_ hN (md' := md') (hmd := hmd) kk
 ·show evL (lk tsl) [x0] = _
  simp only [evL, ha0]
 ·exact trivial
 ·(repeat' (exact RnL.purI inferInstance))
 ·(repeat' (exact RnV.own rfl))
 ·simp [dJ]
 ·(repeat' (first|exact trivial|(refine And.intro ⟨1, _, rfl, rfl, ?_⟩ ?_)|exact RnL.purI inferInstance))
theorem Au (m : List Cl) (hl : m.length ≤ 1000000) : MC Tryz.prog 228 [sl c6 m] [] 0 (fun _ : Unit => True) (fun _ => .own 1 0 m.length 4) (fun _ => [(1, some (aI c6 m))]) := by
 (refine b9 Tryz.func228 rfl (by simp [Tryz.ntmps228]) ?_; rw [Tryz.ntmps228])
 repeat' (first|(apply aL;first|(apply tR;rfl;rfl;(intro b hb))|(apply aE;rfl;rfl)|(apply aC;rfl;rfl)|(apply bW;rfl;rfl;rfl;rfl;rfl;(case hl => (simp [aP]; done));(exact iQ (by (rfl)));omega;omega;(exact eY (by (omega)));rfl;rfl)|(apply aF;kernel_rfl)|(apply bZ;rfl;rfl;rfl;(rfl);rfl;rfl))|(apply aM;first|apply aH|apply aB|(apply aQ;rfl;all_goals intro hc;have hq:=hc;(try simp only [cJ] at hq);try exfalso;omega)|apply aT|apply aR)|with_reducible apply aA|with_reducible apply bG)
 ·have h0 : m = [] := List.eq_nil_of_length_eq_zero (hb (by assumption))
  subst h0
  refine cD (Le.bump 1) ?_
  refine cD (Le.nilOwn (d := 2) 4 rfl (by decide)) ?_
  (refine aO rfl ?_; refine bU () trivial ?_ ⟨.inr (Eq.trans (b := some _) rfl ?_), trivial⟩)
  ·rfl
  ·rfl
 ·(refine aO rfl ?_; refine bU () trivial ?_ ⟨.inr (Eq.trans (b := some _) rfl ?_), trivial⟩)
  ·show AV.own 1 0 (0 + m.length) 4 = _; rw [Nat.zero_add]
  ·rfl
theorem pX {m : List Tg} {N : Nat} {Q : Exit → AS → Prop} {all : Array Oper} {rest : List Oper} {tsl : List (Nat × AV)} {hsl : List (Nat × Option (List AV))} {nidl : Nat} {z0 : Lo} {md : Md} {d : Nat} {ty : TypeId} {pos : String} {af : Array Edge} {tys : Array TypeId} {x0 : Operand} (ha0 : ev (lk tsl) x0 = some (sl dL m)) (hmc : MC Tryz.prog 229 [sl dL m] [] 0 (fun _ : Unit => True) (fun _ => .own 1 0 m.length 2) (fun _ => [(1, some (aI dL m))])) (hM : Nat.ble (nidl + 2) eZ = true) (hN : Nat.blt d N = true) {md' : Md} [hmd : MdA md (gK [x0] ++ []) (List.map Sum.inr (List.map Prod.fst ([((nidl + 1), some (aI dL m))] : List (Nat × Option (List AV)))) ++ [.inl d]) md'] (kk : RW Tryz.prog N all Q md' rest ⟨(d, .own (nidl + 1) 0 m.length 2) :: tsl, iD hsl [((nidl + 1), some (aI dL m))], nidl + 2, z0⟩) : RW Tryz.prog N all Q md (⟨some d, .call ⟨.value (.func 229), #[x0], tys⟩, ty, pos, af, none⟩ :: rest) ⟨tsl, hsl, nidl, z0⟩ := by
 refine cE [] 2 [((nidl + 1), some (aI dL m))] hmc (avs := [sl dL m]) ?_ rfl ?_ rfl ?_ (by simpa using hM) ?_ ?_ ?_ hN (md' := md') (hmd := hmd) kk
 ·show evL (lk tsl) [x0] = _
  simp only [evL, ha0]
 ·exact trivial
 ·(repeat' (exact RnL.purI inferInstance))
 ·(repeat' (exact RnV.own rfl))
 ·simp [dJ]
 ·(repeat' (first|exact trivial|(refine And.intro ⟨1, _, rfl, rfl, ?_⟩ ?_)|exact RnL.purI inferInstance))
theorem Av (m : List Tg) (hl : m.length ≤ 1000000) : MC Tryz.prog 229 [sl dL m] [] 0 (fun _ : Unit => True) (fun _ => .own 1 0 m.length 2) (fun _ => [(1, some (aI dL m))]) := by
 (refine b9 Tryz.func229 rfl (by simp [Tryz.ntmps229]) ?_; rw [Tryz.ntmps229])
 repeat' (first|(apply aL;first|(apply tR;rfl;rfl;(intro b hb))|(apply aE;rfl;rfl)|(apply aC;rfl;rfl)|(apply bW;rfl;rfl;rfl;rfl;rfl;(case hl => (simp [aP]; done));(exact iQ (by (rfl)));omega;omega;(exact eY (by (omega)));rfl;rfl)|(apply aF;kernel_rfl)|(apply bZ;rfl;rfl;rfl;(rfl);rfl;rfl))|(apply aM;first|apply aH|apply aB|(apply aQ;rfl;all_goals intro hc;have hq:=hc;(try simp only [cJ] at hq);try exfalso;omega)|apply aT|apply aR)|with_reducible apply aA|with_reducible apply bG)
 ·have h0 : m = [] := List.eq_nil_of_length_eq_zero (hb (by assumption))
  subst h0
  refine cD (Le.bump 1) ?_
  refine cD (Le.nilOwn (d := 2) 2 rfl (by decide)) ?_
  (refine aO rfl ?_; refine bU () trivial ?_ ⟨.inr (Eq.trans (b := some _) rfl ?_), trivial⟩)
  ·rfl
  ·rfl
 ·(refine aO rfl ?_; refine bU () trivial ?_ ⟨.inr (Eq.trans (b := some _) rfl ?_), trivial⟩)
  ·show AV.own 1 0 (0 + m.length) 2 = _; rw [Nat.zero_add]
  ·rfl
theorem Fw (t : Tg) (c g : Int) : PC Tryz.prog 231 [MJ t, .iptr [iv c, iv g]] (fun r => r = bv (decide (t.id = g))) := by
 (refine aS Tryz.func231 rfl (by simp [Tryz.ntmps231]) ?_; rw [Tryz.ntmps231])
 repeat' (first|(apply aL;first|(apply aN;rfl;rfl;rfl;rfl)|(apply aD;rfl;rfl;rfl)|(apply aU;rfl;rfl;rfl;rfl)|(apply aC;rfl;rfl)|(apply aF;kernel_rfl)|(apply bH;rfl;rfl;rfl;rfl))|(apply aM;first|apply aH|apply aB|apply aR)|with_reducible apply aA)
 exact aO rfl ⟨rfl, rfl⟩
theorem AG (t : Tg) : PC Tryz.prog 233 [MJ t] (fun r => r = bv t.uq) := by
 (refine aS Tryz.func233 rfl (by simp [Tryz.ntmps233]) ?_; rw [Tryz.ntmps233])
 repeat' (first|(apply aL;first|(apply aN;rfl;rfl;rfl;rfl)|(apply aD;rfl;rfl;rfl)|(apply aC;rfl;rfl)|(apply aF;kernel_rfl)|(apply bH;rfl;rfl;rfl;rfl))|(apply aM;first|apply aH|apply aB|apply aR)|with_reducible apply aA)
 exact aO rfl ⟨rfl, rfl⟩
theorem yZ (stk : List Tg) (c g : Int) (hl : stk.length ≤ 1000000) : PC Tryz.prog 230 [sl dL stk, .clos (.func 231) [] [.iptr [iv c, iv g]]] (fun r => r = iv (dD stk g)) := by
 (refine aS Tryz.func230 rfl (by simp [Tryz.ntmps230]) ?_; rw [Tryz.ntmps230])
 repeat' (first|(apply aL;first|(apply aE;rfl;rfl)|(apply aC;rfl;rfl)|(apply bI;rfl;rfl;rfl)|(apply aF;kernel_rfl))|(apply aM;first|apply aH|apply aB|apply aK)|with_reducible apply aA)
 refine bB (σ := Nat) [0, 1, 7] [(0, _), (1, _), (7, _)] [] [] (fun k => [(8, iv (k : Int))]) (fun k => []) (fun k => k ≤ stk.length ∧ ∀ j, j < k → stk[j]!.id ≠ g) (fun k => stk.length - k) (0) ⟨by omega, by omega⟩ rfl rfl (by repeat' (first|exact trivial|refine And.intro rfl ?_)) (by repeat' (exact trivial)) ?_
 rintro k ⟨hk, hall⟩
 by_cases hkn : k < stk.length
 ·have hcl := Fw stk[k]! c g
  repeat' (first|(apply aL;first|(apply aE;rfl;rfl)|(apply aV;rfl;rfl;(exact (rfl:_=[_, _]));rfl;rfl;rfl)|(first|(apply bS;rfl;rfl;omega;rfl)|(apply aU;rfl;rfl;rfl;rfl))|(apply aC;rfl;rfl)|(apply a7;(case hx|hi => rfl);(case hm => (assumption));(case hml => (rfl));(case hα | hf|hg => infer_instance);(case hN => rfl))|((with_reducible apply jZ);(case hx|hcl => rfl);(case hc => infer_instance);(case ha => rfl);(case h => (apply hcl <;> (fail)));(case hp => (rfl));(case hN => rfl))|(apply aF;kernel_rfl))|(apply aM;first|apply aH|apply aB|(apply aQ;rfl;all_goals intro hc;have hq:=hc;(try simp only [cJ] at hq);try exfalso;omega)|apply aK|apply aT|apply aR)|with_reducible apply aA|with_reducible apply bG|with_reducible apply aX|with_reducible apply cP)
  ·refine aO rfl ⟨?_, rfl⟩
   simp only [b0]; rw [x6 hkn (by assumption) hall]
  ·(apply dK (k + 1); focus (refine Le.ren [] rfl (by decide) ?_ ?_ <;> repeat' (first | exact trivial | refine And.intro ⟨_, rfl, ?_⟩ ?_ | refine Or.inl ⟨?_, (by first | rfl | exact aY _ _)⟩ | rfl)))
   ·refine ⟨by omega, fun j hj => ?_⟩
    by_cases e : j = k
    ·subst e;assumption
    ·exact hall j (by omega)
   ·omega
 ·repeat' (first | (apply aL; first | (apply aU;rfl;rfl;rfl;rfl) | (apply aC;rfl;rfl) | (apply aF;kernel_rfl)) | (apply aM; first | apply aH | apply aB | (apply aQ;rfl;all_goals intro hc;have hq:=hc;(try simp only [cJ] at hq);try exfalso;omega) | apply bK | apply aR) | with_reducible apply aA | with_reducible apply bJ | with_reducible apply bO)
  refine aO rfl ⟨?_, rfl⟩
  have h2 : dD stk g < 0 := m9.2 (fun t ht => by obtain ⟨j, hj, rfl⟩ := List.getElem_of_mem ht;have := hall j (by omega);rwa [cT _ _ hj] at this)
  have hb := e9 stk g
  simp only [b0]; rw [show dD stk g = -1 by omega]
def qX (xs : List Tg) : Int := match xs.findIdx? (fun t => t.uq) with | some i => i | none => -1
theorem Ip (stk : List Tg) (hl : stk.length ≤ 1000000) : PC Tryz.prog 230 [sl dL stk, .v (.func (.func 233) #[] #[])] (fun r => r = iv (qX stk)) := by
 (refine aS Tryz.func230 rfl (by simp [Tryz.ntmps230]) ?_; rw [Tryz.ntmps230])
 repeat' (first|(apply aL;first|(apply aE;rfl;rfl)|(apply aC;rfl;rfl)|(apply bI;rfl;rfl;rfl)|(apply aF;kernel_rfl))|(apply aM;first|apply aH|apply aB|apply aK)|with_reducible apply aA)
 refine bB (σ := Nat) [0, 1, 7] [(0, _), (1, _), (7, _)] [] [] (fun k => [(8, iv (k : Int))]) (fun k => []) (fun k => k ≤ stk.length ∧ ∀ j, j < k → stk[j]!.uq = false) (fun k => stk.length - k) (0) ⟨by omega, by omega⟩ rfl rfl (by repeat' (first|exact trivial|refine And.intro rfl ?_)) (by repeat' (exact trivial)) ?_
 rintro k ⟨hk, hall⟩
 by_cases hkn : k < stk.length
 ·have hcl := AG stk[k]!
  repeat' (first|(apply aL;first|(apply aE;rfl;rfl)|(apply aV;rfl;rfl;(exact (rfl:_=[_, _]));rfl;rfl;rfl)|(first|(apply bS;rfl;rfl;omega;rfl)|(apply aU;rfl;rfl;rfl;rfl))|(apply aC;rfl;rfl)|(apply a7;(case hx|hi => rfl);(case hm => (assumption));(case hml => (rfl));(case hα | hf|hg => infer_instance);(case hN => rfl))|((with_reducible apply jZ);(case hx|hcl => rfl);(case hc => infer_instance);(case ha => rfl);(case h => (apply hcl <;> (fail)));(case hp => (rfl));(case hN => rfl))|(apply aF;kernel_rfl))|(apply aM;first|apply aH|apply aB|(apply aQ;rfl;all_goals intro hc;have hq:=hc;(try simp only [cJ] at hq);try exfalso;omega)|apply aK|apply aT|apply aR)|with_reducible apply aA|with_reducible apply bG|with_reducible apply aX|with_reducible apply cP)
  ·refine aO rfl ⟨?_, rfl⟩
   have hu : stk[k]!.uq = true := by assumption
   have : stk.findIdx? (fun t => t.uq) = some k := by
    rw [List.findIdx?_eq_some_iff_getElem]
    refine ⟨hkn, by rw [← cT stk k hkn]; exact hu, fun j hj => ?_⟩
    have := hall j hj;rw [cT stk j (by omega)] at this;rw [this]; decide
   simp only [b0, qX, this]
  ·have hu : stk[k]!.uq = false := by assumption
   (apply dK (k + 1);focus (refine Le.ren [] rfl (by decide) ?_ ?_ <;> repeat' (first|exact trivial|refine And.intro ⟨_, rfl, ?_⟩ ?_|refine Or.inl ⟨?_, (by first|rfl|exact aY _ _)⟩|rfl)))
   ·refine ⟨by omega, fun j hj => ?_⟩
    by_cases e : j = k
    ·subst e;exact hu
    ·exact hall j (by omega)
   ·omega
 ·repeat' (first | (apply aL; first | (apply aU;rfl;rfl;rfl;rfl) | (apply aC;rfl;rfl) | (apply aF;kernel_rfl)) | (apply aM; first | apply aH | apply aB | (apply aQ;rfl;all_goals intro hc;have hq:=hc;(try simp only [cJ] at hq);try exfalso;omega) | apply bK | apply aR) | with_reducible apply aA | with_reducible apply bJ | with_reducible apply bO)
  refine aO rfl ⟨?_, rfl⟩
  have : stk.findIdx? (fun t => t.uq) = none := by
   rw [List.findIdx?_eq_none_iff]
   intro x hx
   obtain ⟨j, hj, rfl⟩ := List.getElem_of_mem hx
   have := hall j (by omega);rw [cT stk j hj] at this;exact this
  simp only [b0, qX, this]
theorem LM {xs : List Tg} {k : Nat} {a : Int} {b : Bool} (hk : k < xs.length) : hO (aI dL xs) (0 + k * 2) [iv a, bv b] = aI dL (xs.set k ⟨a, b⟩) := pB hk rfl
theorem G1 {cs new : List AV} {k : Nat} (h : k ≤ cs.length) : (hO cs (0 + k) new).take k = cs.take k := by
 unfold hO
 rw [Nat.zero_add, List.append_assoc, List.take_left' (by rw [List.length_take]; omega)]
def shr (xs : List Tg) : List Tg := xs.filter (fun t => !t.uq)
theorem DH {xs : List Tg} (h : qX xs = -1) : shr xs = xs := by
 unfold qX at h
 split at h
 ·omega
 ·rename_i hn
  rw [List.findIdx?_eq_none_iff] at hn
  unfold shr
  rw [List.filter_eq_self]
  intro t ht
  have := hn t ht
  simp [this]
theorem DI {xs : List Tg} {i : Nat} (h : qX xs = (i : Int)) : i < xs.length ∧ xs[i]!.uq = true ∧ shr (xs.take (i + 1)) = xs.take i := by
 unfold qX at h
 split at h
 ·rename_i k hk
  obtain ⟨h1, h2, h3⟩ := List.findIdx?_eq_some_iff_getElem.1 hk
  have e : k = i := by omega
  subst e
  have hs : shr (xs.take k) = xs.take k := by
   unfold shr
   rw [List.filter_eq_self]
   intro t ht
   obtain ⟨j, hj, rfl⟩ := List.getElem_of_mem ht
   rw [List.length_take] at hj
   have := h3 j (by omega)
   rw [List.getElem_take]; simpa using this
  refine ⟨h1, by rw [cT _ _ h1]; exact h2, ?_⟩
  rw [cX xs k h1]
  unfold shr at hs ⊢
  rw [List.filter_append, hs, nE (by rw [cT _ _ h1, h2]; rfl), List.append_nil]
 ·omega
theorem HQ (xs : List Tg) : -1 ≤ qX xs ∧ qX xs < xs.length := by
 unfold qX
 split
 ·rename_i k hk
  obtain ⟨h1, _⟩ := List.findIdx?_eq_some_iff_getElem.1 hk
  omega
 ·omega
theorem Jj {xs : List Tg} {j : Nat} (hj : j < xs.length) (h : xs[j]!.uq = false) : shr (xs.take (j + 1)) = shr (xs.take j) ++ [xs[j]!] := by
 rw [cX xs j hj]; unfold shr
 rw [List.filter_append, p8 (by rw [h]; rfl)]
theorem Gj {xs : List Tg} {j : Nat} (hj : j < xs.length) (h : xs[j]!.uq = true) : shr (xs.take (j + 1)) = shr (xs.take j) := by
 rw [cX xs j hj]; unfold shr
 rw [List.filter_append, nE (by rw [h]; rfl), List.append_nil]
theorem GY {α : Type} [Inhabited α] {L : List α} {i : Nat} {x : α} (h : i < L.length) : (L.set i x).take (i + 1) = L.take i ++ [x] := by
 rw [List.set_eq_take_append_cons_drop, if_pos h]
 have h1 : (L.take i).length = i := by rw [List.length_take]; omega
 rw [List.take_append, h1, show i + 1 - i = 1 by omega, List.take_of_length_le (by omega)]
 rfl
theorem Fo {α : Type} [Inhabited α] {L M : List α} {j : Nat} (h : L.drop j = M.drop j) (hl : L.length = M.length) (hj : j < M.length) : L[j]! = M[j]! := by
 rw [cT _ _ (by omega), cT _ _ hj]
 rw [List.drop_eq_getElem_cons (by omega : j < L.length), List.drop_eq_getElem_cons hj] at h
 exact (List.cons.inj h).1
theorem tD {α : Type} {L M : List α} {j : Nat} (h : L.drop j = M.drop j) : L.drop (j + 1) = M.drop (j + 1) := by
 rw [← List.drop_drop, h, List.drop_drop]
theorem IC {xs : List Tg} {m : Nat} {N : Nat} {Q : Exit → AS → Prop} {all : Array Oper} {rest : List Oper} {tsl : List (Nat × AV)} {hsl : List (Nat × Option (List AV))} {nidl : Nat} {z0 : Lo} {md : Md} {d : Nat} {ty : TypeId} {pos : String} {af : Array Edge} {tys : Array TypeId} {x0 x1 : Operand} {i0 : Nat} (ha0 : ev (lk tsl) x0 = some (.own i0 0 m 2)) (ha1 : ev (lk tsl) x1 = some (.v (.func (.func 233) #[] #[]))) (hH0 : cO hsl i0 = some (aI dL xs)) (hmc : MC Tryz.prog 232 [.own 0 0 m 2, .v (.func (.func 233) #[] #[])] [(0, some (aI dL xs))] 1 (fun _ : Unit => True) (fun _ => .own 0 0 (shr xs).length 2) (fun _ => [(0, some (aI dL (shr xs)))])) (hM : Nat.ble (nidl + 0) eZ = true) (hN : Nat.blt d N = true) {md' : Md} [hmd : MdA md (gK [x0, x1] ++ [.inr i0]) (List.map Sum.inr (List.map Prod.fst ([(i0, some (aI dL (shr xs)))] : List (Nat × Option (List AV)))) ++ [.inl d]) md'] (kk : RW Tryz.prog N all Q md' rest ⟨(d, .own i0 0 (shr xs).length 2) :: tsl, iD hsl [(i0, some (aI dL (shr xs)))], nidl + 0, z0⟩) : RW Tryz.prog N all Q md (⟨some d, .call ⟨.value (.func 232), #[x0, x1], tys⟩, ty, pos, af, none⟩ :: rest) ⟨tsl, hsl, nidl, z0⟩ := by
 refine cE [i0] 1 [(i0, some (aI dL (shr xs)))] hmc (avs := [.own i0 0 m 2, .v (.func (.func 233) #[] #[])]) ?_ rfl ?_ rfl ?_ (by simpa using hM) ?_ ?_ ?_ hN (md' := md') (hmd := hmd) kk
 ·show evL (lk tsl) [x0, x1] = _
  simp only [evL, ha0, ha1]
 ·exact ⟨⟨_, _, rfl, hH0, by (repeat' (exact RnL.purI inferInstance))⟩, trivial⟩
 ·(repeat' (first|exact RnL.purI inferInstance|exact RnV.own rfl|refine RnL.cons ?_ ?_))
 ·(repeat' (exact RnV.own rfl))
 ·simp [dJ]
 ·(repeat' (first|exact trivial|(refine And.intro ⟨0, _, rfl, rfl, ?_⟩ ?_)|exact RnL.purI inferInstance))
theorem K4 (xs : List Tg) (m : Nat) (hm : m = xs.length) (hl : m ≤ 1000000) : MC Tryz.prog 232 [.own 0 0 m 2, .v (.func (.func 233) #[] #[])] [(0, some (aI dL xs))] 1 (fun _ : Unit => True) (fun _ => .own 0 0 (shr xs).length 2) (fun _ => [(0, some (aI dL (shr xs)))]) := by
 subst hm
 have hix := Ip xs hl
 have hbd := HQ xs
 by_cases hn : qX xs = -1
 ·rw [hn] at hix
  have hs := DH hn
  (refine b9 Tryz.func232 rfl (by simp [Tryz.ntmps232]) ?_; rw [Tryz.ntmps232])
  repeat' (first|(apply aL;first|((with_reducible apply pD (k := 230));(case ha => rfl);(case hl => (repeat' (first|exact m8|apply lP|exact yA|exact m3 rfl inferInstance)));(case h => exact hix);(case hfr|hN => rfl);(case hmd => infer_instance))|(apply aE;rfl;rfl)|(apply aU;rfl;rfl;rfl;rfl)|(apply aC;rfl;rfl)|(apply aF;kernel_rfl))|(apply aM;first|apply aH|apply aB|(apply cB;rfl;(rfl))|apply aR)|with_reducible apply aA|with_reducible apply bG)
  all_goals (
   (refine aO rfl ?_; refine bU () trivial ?_ ⟨.inr (Eq.trans (b := some _) rfl ?_), trivial⟩)
   ·rw [hs]; rfl
   ·rw [hs])
 ·obtain ⟨i0, hi0⟩ := Int.eq_ofNat_of_zero_le (show 0 ≤ qX xs by omega)
  obtain ⟨g1, g2, g3⟩ := DI hi0
  rw [hi0] at hix
  (refine b9 Tryz.func232 rfl (by simp [Tryz.ntmps232]) ?_; rw [Tryz.ntmps232])
  repeat' (first|(apply aL;first|((with_reducible apply pD (k := 230));(case ha => rfl);(case hl => (repeat' (first|exact m8|apply lP|exact yA|exact m3 rfl inferInstance)));(case h => exact hix);(case hfr|hN => rfl);(case hmd => infer_instance))|(apply aE;rfl;rfl)|(first|(apply bS;rfl;rfl;omega;rfl)|(apply aU;rfl;rfl;rfl;rfl))|(apply aC;rfl;rfl)|(apply aF;kernel_rfl))|(apply aM;first|apply aH|apply aB|(apply cG;rfl;(rfl))|apply aK|apply aT)|with_reducible apply aA)
  all_goals (try (exfalso;omega))
  refine bB (σ := List Tg × Nat × Nat) [0, 1] [(0, _), (1, _)] [] [] (fun s => [(5, iv (s.2.1 : Int)), (6, iv (s.2.2 : Int))]) (fun s => [(0, some (aI dL s.1))]) (fun s => s.1.length = xs.length ∧ s.1.take s.2.1 = shr (xs.take s.2.2) ∧ s.1.drop s.2.2 = xs.drop s.2.2 ∧ s.2.1 < s.2.2 ∧ s.2.2 ≤ xs.length) (fun s => xs.length - s.2.2) (xs, i0, i0 + 1) ⟨rfl, g3.symm, rfl, by dsimp only;omega, by dsimp only;omega⟩ rfl rfl (by repeat' (first|exact trivial|refine And.intro rfl ?_)) (by repeat' (first|exact trivial|refine And.intro (.inr rfl) ?_)) ?_
  rintro ⟨L, i, j⟩ ⟨hL, ht, hd, hij, hj⟩
  dsimp only at hL ht hd hij hj ⊢
  by_cases hjn : j < xs.length
  ·have hcl := AG L[j]!
   have hg := Fo hd hL hjn
   repeat' (first|(apply aL;first|(apply aE;rfl;rfl)|(first|(apply gT;(case hx|hH => rfl);(case hf|hg|hα => infer_instance);(case hk => omega);(case h0|hN => rfl))|(apply aV;rfl;rfl;(exact (rfl:_=[_, _]));rfl;rfl;rfl))|(first|(apply bS;rfl;rfl;omega;rfl)|(apply aU;rfl;rfl;rfl;rfl))|(apply aC;rfl;rfl)|(apply cH;rfl;rfl;(first|assumption|omega);rfl)|(apply bI;rfl;rfl;rfl)|((with_reducible apply jZ);(case hx|hcl => rfl);(case hc => infer_instance);(case ha => rfl);(case h => (apply hcl <;> (fail)));(case hp => (rfl));(case hN => rfl))|(apply aF;kernel_rfl)|(apply cF;rfl;rfl)|(apply a6;rfl;rfl)|(apply aW;rfl;rfl;rfl;rfl;rfl;(case hl => (first|(rw [aP]; simp only [gH] <;> omega)|(simp;done)));(first|exact LM (by (first|assumption|omega))|exact (rfl:_=[_, _]))))|(apply aM;first|apply aH|apply aB|(apply aQ;rfl;all_goals intro hc;have hq:=hc;(try simp only [cJ] at hq);try exfalso;omega)|apply aK|apply aT)|with_reducible apply aA|with_reducible apply aX)
   ·have hu : L[j]!.uq = false := by assumption
    (apply dK (_, i + 1, j + 1);focus (refine Le.ren [] rfl (by decide) ?_ ?_ <;> repeat' (first|exact trivial|refine And.intro ⟨_, rfl, ?_⟩ ?_|refine And.intro ⟨_, _, rfl, rfl, ?_⟩ ?_|exact Or.inr rfl|refine Or.inl ⟨?_, (by first|rfl|exact aY _ _)⟩|rfl)))
    ·refine ⟨by dsimp only; rw [List.length_set]; exact hL, ?_, ?_, by dsimp only; omega, by dsimp only; omega⟩
     ·dsimp only
      rw [GY (by omega), ht, Jj hjn (by rw [← hg]; exact hu), hg]
     ·dsimp only
      rw [List.drop_set_of_lt (by omega)]
      exact tD hd
    ·dsimp only;omega
   ·have hu : L[j]!.uq = true := by assumption
    (apply dK (L, i, j + 1);focus (refine Le.ren [] rfl (by decide) ?_ ?_ <;> repeat' (first|exact trivial|refine And.intro ⟨_, rfl, ?_⟩ ?_|refine And.intro ⟨_, _, rfl, rfl, ?_⟩ ?_|exact Or.inr rfl|refine Or.inl ⟨?_, (by first|rfl|exact aY _ _)⟩|rfl)))
    ·refine ⟨hL, ?_, tD hd, by dsimp only; omega, by dsimp only; omega⟩
     dsimp only
     rw [ht, Gj hjn (by rw [← hg]; exact hu)]
    ·dsimp only;omega
  ·have hfl : (aI dL L).length = L.length * 2 := aP dL L
   repeat' (first|(apply aL;first|((apply gN (d := 38) (l := i) (h := xs.length));(case hx|hn => rfl);(case hl => exact fE rfl (by omega));(case hh => rfl);(case hp => exact if_pos (by omega));(case hN => rfl))|((apply gN (d := 41) (l := 0) (h := i));(case hx|hn|hl => rfl);(case hh => exact fE rfl (by omega));(case hp => exact if_pos (by omega));(case hN => rfl))|(apply tN;rfl;rfl;omega;rfl;(rw [hfl]; omega);rfl)|(apply aE;rfl;rfl)|(apply aU;rfl;rfl;rfl;rfl)|(apply aC;rfl;rfl)|(apply bI;rfl;rfl;rfl)|(apply aF;kernel_rfl))|(apply aM;first|apply aH|apply aB|(apply aQ;rfl;all_goals intro hc;have hq:=hc;(try simp only [cJ] at hq);try exfalso;omega)|apply bK|apply aR)|with_reducible apply aA|with_reducible apply bJ|with_reducible apply bO)
   refine cD (Le.cut (i := 0) (i * 2) rfl) ?_
   have hje : j = xs.length := by omega
   have hLt : L.take i = shr xs := by rw [ht, hje, List.take_length]
   have hil : (shr xs).length = i := by rw [← hLt, List.length_take]; omega
   (refine aO rfl ?_; refine bU () trivial ?_ ⟨.inr (Eq.trans (b := some _) rfl ?_), trivial⟩)
   ·show AV.own 0 (0 + 0 * 2) (i - 0) 2 = _
    rw [hil]; rfl
   ·rw [G1 (by omega), eU dL (e := 2), hLt]
theorem iW {m : List Cl} {N : Nat} {Q : Exit → AS → Prop} {all : Array Oper} {rest : List Oper} {tsl : List (Nat × AV)} {hsl : List (Nat × Option (List AV))} {nidl : Nat} {z0 : Lo} {md : Md} {d : Nat} {ty : TypeId} {pos : String} {af : Array Edge} {tys : Array TypeId} {x0 : Operand} (ha0 : ev (lk tsl) x0 = some (sl c6 m)) (hmc : MC Tryz.prog 186 [sl c6 m] [] 0 (fun _ : Unit => True) (fun _ => .own 1 0 m.length 4) (fun _ => [(1, some (aI c6 m))])) (hM : Nat.ble (nidl + 2) eZ = true) (hN : Nat.blt d N = true) {md' : Md} [hmd : MdA md (gK [x0] ++ []) (List.map Sum.inr (List.map Prod.fst ([((nidl + 1), some (aI c6 m))] : List (Nat × Option (List AV)))) ++ [.inl d]) md'] (kk : RW Tryz.prog N all Q md' rest ⟨(d, .own (nidl + 1) 0 m.length 4) :: tsl, iD hsl [((nidl + 1), some (aI c6 m))], nidl + 2, z0⟩) : RW Tryz.prog N all Q md (⟨some d, .call ⟨.value (.func 186), #[x0], tys⟩, ty, pos, af, none⟩ :: rest) ⟨tsl, hsl, nidl, z0⟩ := by
 refine cE [] 2 [((nidl + 1), some (aI c6 m))] hmc (avs := [sl c6 m]) ?_ rfl ?_ rfl ?_ (by simpa using hM) ?_ ?_ ?_ hN (md' := md') (hmd := hmd) kk
 ·show evL (lk tsl) [x0] = _
  simp only [evL, ha0]
 ·exact trivial
 ·(repeat' (exact RnL.purI inferInstance))
 ·(repeat' (exact RnV.own rfl))
 ·simp [dJ]
 ·(repeat' (first|exact trivial|(refine And.intro ⟨1, _, rfl, rfl, ?_⟩ ?_)|exact RnL.purI inferInstance))
theorem oQ {m : List Cl} {j : Nat} {N : Nat} {Q : Exit → AS → Prop} {all : Array Oper} {rest : List Oper} {tsl : List (Nat × AV)} {hsl : List (Nat × Option (List AV))} {nidl : Nat} {z0 : Lo} {md : Md} {d : Nat} {ty : TypeId} {pos : String} {af : Array Edge} {tys : Array TypeId} {x0 : Operand} (ha0 : ev (lk tsl) x0 = some (sl c6 m)) (hmc : MC Tryz.prog 186 [sl c6 m] [] 0 (fun _ : Unit => True) (fun _ => .own 1 0 m.length 4) (fun _ => [(1, some (aI fW (eE m j (.own 2 0 m[j]!.stk.length 2)))), (2, some (aI dL m[j]!.stk))])) (hM : Nat.ble (nidl + 3) eZ = true) (hN : Nat.blt d N = true) {md' : Md} [hmd : MdA md (gK [x0] ++ []) (List.map Sum.inr (List.map Prod.fst ([((nidl + 1), some (aI fW (eE m j (.own (nidl + 2) 0 m[j]!.stk.length 2)))), ((nidl + 2), some (aI dL m[j]!.stk))] : List (Nat × Option (List AV)))) ++ [.inl d]) md'] (kk : RW Tryz.prog N all Q md' rest ⟨(d, .own (nidl + 1) 0 m.length 4) :: tsl, iD hsl [((nidl + 1), some (aI fW (eE m j (.own (nidl + 2) 0 m[j]!.stk.length 2)))), ((nidl + 2), some (aI dL m[j]!.stk))], nidl + 3, z0⟩) : RW Tryz.prog N all Q md (⟨some d, .call ⟨.value (.func 186), #[x0], tys⟩, ty, pos, af, none⟩ :: rest) ⟨tsl, hsl, nidl, z0⟩ := by
 refine cE [] 3 [((nidl + 1), some (aI fW (eE m j (.own (nidl + 2) 0 m[j]!.stk.length 2)))), ((nidl + 2), some (aI dL m[j]!.stk))] hmc (avs := [sl c6 m]) ?_ rfl ?_ rfl ?_ (by simpa using hM) ?_ ?_ ?_ hN (md' := md') (hmd := hmd) kk
 ·show evL (lk tsl) [x0] = _
  simp only [evL, ha0]
 ·exact trivial
 ·(repeat' (exact RnL.purI inferInstance))
 ·(repeat' (exact RnV.own rfl))
 ·simp [dJ]
 ·(repeat' (first|exact trivial|(refine And.intro ⟨1, _, rfl, rfl, ?_⟩ ?_)|(refine And.intro ⟨2, _, rfl, rfl, ?_⟩ ?_)|exact RnL.purI inferInstance|exact kU rfl))
theorem mP {α : Type} [Inhabited α] (l : List α) (k : Nat) : l.set k l[k]! = l := by
 rcases Nat.lt_or_ge k l.length with h|h
 ·rw [cT _ _ h]; simp
 ·exact List.set_eq_of_length_le h
theorem CB {m : List Cl} {i : Nat} (hi : i < m.length) : hO (aI c6 m) (0 + i * 4 + 3) [sl dL m[i]!.stk] = aI c6 m := by
 have h := Bt (xs := m) (k := i) (s := m[i]!.stk) hi
 rw [show m.set i { m[i]! with stk := m[i]!.stk } = m from mP m i] at h
 exact h
theorem BG {m : List Cl} {i j : Nat} {X : AV} (hi : i < m.length) (h : i ≠ j) : (eE m j X)[i]! = rC m[i]! := by
 unfold eE
 rw [cT _ _ (by rw [List.length_set, List.length_map]; exact hi), List.getElem_set_ne (fun e => h e.symm), List.getElem_map, cT _ _ hi]
theorem IJ {m : List Cl} {i j : Nat} {X : AV} (h : i < m.length ∧ i ≠ j) : hO (aI fW (eE m j X)) (0 + i * 4 + 3) [sl dL m[i]!.stk] = aI fW (eE m j X) := by
 have hl := eB (m := m) (j := j) (X := X)
 have e : (eE m j X).set i { (eE m j X)[i]! with av := sl dL m[i]!.stk } = eE m j X := by
  rw [BG h.1 h.2]
  have : ({ rC m[i]! with av := sl dL m[i]!.stk } : Co) = (eE m j X)[i]! := by rw [BG h.1 h.2]; rfl
  rw [this]; exact mP _ _
 rw [← e]
 have := fK (f := fW) (xs := eE m j X) (k := i) (j := 3) (new := [sl dL m[i]!.stk]) (y := { (eE m j X)[i]! with av := sl dL m[i]!.stk }) (by rw [hl]; exact h.1) (by simp) rfl
 rw [e] at this ⊢
 exact this
theorem oR {mp : List (Nat × Nat)} {lo : Lo} : ∀ {cs : List AV}, dB cs = true → All2 (EB mp lo) cs cs
 | [], _ => .nil
 | c :: cs, h => by
  simp only [dB, Bool.and_eq_true] at h
  exact .cons (.inl ⟨rfl, h.1⟩) (oR h.2)
theorem uC {α β : Type} {R : α → β → Prop} : ∀ {a : List α} {b : List β} {c : List α} {d : List β}, All2 R a b → All2 R c d → All2 R (a ++ c) (b ++ d)
 | _, _, _, _, .nil, h => h
 | _, _, _, _, .cons h1 h2, h => .cons h1 (uC h2 h)
theorem Ds {mp : List (Nat × Nat)} {lo : Lo} {m : List Cl} {j k i i' : Nat} (h : j < m.length) (hr : J1 mp lo (.own i 0 k 2) = some (.own i' 0 k 2)) : All2 (EB mp lo) (aI fW (eE m j (.own i 0 k 2))) (aI fW (eE m j (.own i' 0 k 2))) := by
 rw [j1 h, j1 h]
 exact uC (oR (inferInstance : Pur (aI c6 _)).pf) (uC (oR (inferInstance : Pur [iv _, bv _, iv _]).pf) (.cons (.inr hr) (oR (inferInstance : Pur (aI c6 _)).pf)))
theorem kV (m : List Cl) (hm : OkM m) : MC Tryz.prog 186 [sl c6 m] [] 0 (fun _ : Unit => True) (fun _ => .own 1 0 m.length 4) (fun _ => [(1, some (aI c6 m))]) := by
 have hml := hm.l
 have hcc := Au m (by omega)
 (refine b9 Tryz.func186 rfl (by simp [Tryz.ntmps186]) ?_; rw [Tryz.ntmps186])
 repeat' (first|(apply aL;first|(apply w4;rfl;exact hcc;rfl;rfl)|(apply aE;rfl;rfl)|(apply aC;rfl;rfl)|(apply bI;rfl;rfl;rfl)|(apply aF;kernel_rfl))|(apply aM;first|apply aH|apply aB|apply aK)|with_reducible apply aA)
 refine bB (σ := Nat) [3, 8, 9] [(3, _), (8, _), (9, _)] [] [] (fun k => [(10, iv (k : Int))]) (fun k => [(1, some (aI c6 m))]) (fun k => k ≤ m.length) (fun k => m.length - k) (0) (Nat.zero_le _) rfl rfl (by repeat' (first|exact trivial|refine And.intro rfl ?_)) (by repeat' (first|exact trivial|refine And.intro (.inr rfl) ?_)) ?_
 rintro i hi
 by_cases hin : i < m.length
 ·have hst : m[i]!.stk.length ≤ 200 := (((dY m).1 hm).2 i hin).l.2
  have hct := Av m[i]!.stk (by omega)
  repeat' (first|(apply aL;first|(apply pX;rfl;exact hct;rfl;rfl)|(with_reducible apply cV (d := 20))|(apply aE;rfl;rfl)|(first|(apply gT;(case hx|hH => rfl);(case hf|hg|hα => infer_instance);(case hk => omega);(case h0|hN => rfl))|(apply aN;rfl;rfl;rfl;rfl))|(apply aD;rfl;rfl;rfl)|(apply aU;rfl;rfl;rfl;rfl)|(apply aC;rfl;rfl)|(apply cH;rfl;rfl;(assumption);rfl)|(apply aF;kernel_rfl)|(apply a6;rfl;rfl)|(apply aW;rfl;rfl;rfl;rfl;rfl;(case hl => (simp;done));(exact (rfl:_=[_, _, _, _]))))|(apply aM;first|apply aH|apply aB|(apply aQ;rfl;all_goals intro hc;have hq:=hc;(try simp only [cJ] at hq);try exfalso;omega)|apply aK|apply aT)|with_reducible apply aA)
  refine dX (jM ?_ (Le.frzD (d := 19) (i := 4) rfl rfl))
  repeat' (first|(apply aL;first|(apply aE;rfl;rfl)|(apply aD;rfl;rfl;rfl)|(apply bS;rfl;rfl;omega;rfl)|(apply cH;rfl;rfl;(assumption);rfl)|(apply aF;kernel_rfl)|(apply aW;rfl;rfl;rfl;rfl;rfl;(rw [aP]; simp only [gH] <;> omega);(exact CB (by (assumption)))))|(apply aM;(apply aB))|with_reducible apply aA|with_reducible apply aX)
  (apply dK (i + 1);focus (refine Le.ren [(1, 1)] rfl (by decide) ?_ ?_ <;> repeat' (first|exact trivial|refine And.intro ⟨_, rfl, ?_⟩ ?_|refine And.intro ⟨_, _, rfl, rfl, ?_⟩ ?_|exact Or.inr rfl|refine Or.inl ⟨?_, (by first|rfl|exact aY _ _)⟩|rfl)))
  ·omega
  ·omega
 ·repeat' (first | (apply aL; first | (apply aE;rfl;rfl) | (apply aU;rfl;rfl;rfl;rfl) | (apply aC;rfl;rfl) | (apply aF;kernel_rfl)) | (apply aM; first | apply aH | apply aB | (apply aQ;rfl;all_goals intro hc;have hq:=hc;(try simp only [cJ] at hq);try exfalso;omega) | apply bK | apply aR) | with_reducible apply aA | with_reducible apply bJ | with_reducible apply bO)
  (refine aO rfl ?_; refine bU () trivial ?_ ⟨.inr (Eq.trans (b := some _) rfl ?_), trivial⟩)
  ·rfl
  ·rfl
theorem sT (m : List Cl) (j : Nat) (hm : OkM m) (hj : j < m.length) : MC Tryz.prog 186 [sl c6 m] [] 0 (fun _ : Unit => True) (fun _ => .own 1 0 m.length 4) (fun _ => [(1, some (aI fW (eE m j (.own 2 0 m[j]!.stk.length 2)))), (2, some (aI dL m[j]!.stk))]) := by
 have hml := hm.l
 have hcc := Au m (by omega)
 (refine b9 Tryz.func186 rfl (by simp [Tryz.ntmps186]) ?_; rw [Tryz.ntmps186])
 repeat' (first|(apply aL;first|(apply w4;rfl;exact hcc;rfl;rfl)|(apply aE;rfl;rfl)|(apply aC;rfl;rfl)|(apply bI;rfl;rfl;rfl)|(apply aF;kernel_rfl))|(apply aM;first|apply aH|apply aB|apply aK)|with_reducible apply aA)
 refine AW.le ?_ (Le.bump 1)
 refine bB (σ := Nat × Bool) [3, 8, 9] [(3, _), (8, _), (9, _)] [] [] (fun k => [(10, iv (k.1 : Int))]) (fun k => [(1, some (cond k.2 (aI fW (eE m j (.own 2 0 m[j]!.stk.length 2))) (aI c6 m))), (2, cond k.2 (some (aI dL m[j]!.stk)) none)]) (fun k => k.1 ≤ m.length ∧ k.2 = decide (j < k.1)) (fun k => m.length - k.1) (0, false) ⟨Nat.zero_le _, by simp⟩ rfl rfl (by repeat' (first|exact trivial|refine And.intro rfl ?_)) (by repeat' (first|exact trivial|refine And.intro (.inr rfl) ?_)) ?_
 rintro ⟨i, b⟩ ⟨hi, hb⟩
 dsimp only at hi hb ⊢
 by_cases hin : i < m.length
 ·have hst : m[i]!.stk.length ≤ 200 := (((dY m).1 hm).2 i hin).l.2
  have hct := Av m[i]!.stk (by omega)
  by_cases hij : j < i
  ·rw [decide_eq_true hij] at hb; subst hb
   simp only [cond_true]
   have hol := eB (m := m) (j := j) (X := .own 2 0 m[j]!.stk.length 2)
   have hon := BG (m := m) (i := i) (j := j) (X := .own 2 0 m[j]!.stk.length 2) hin (by omega)
   repeat' (first|(apply aL;first|(with_reducible apply cV (d := 5))|(apply aE;rfl;rfl)|(apply gT;(case hx|hH => rfl);(case hf|hg|hα => infer_instance);(case hk => omega);(case h0|hN => rfl))|(apply aU;rfl;rfl;rfl;rfl)|(apply cH;rfl;rfl;(assumption);rfl)|(apply aF;kernel_rfl))|(apply aM;first|apply aH|apply aB|(apply aQ;rfl;all_goals intro hc;have hq:=hc;(try simp only [cJ] at hq);try exfalso;omega)|apply aK|apply aT)|with_reducible apply aA)
   refine dX ?_
   rw [hon]
   dsimp only [rC]
   repeat' (first|(apply aL;first|(apply pX;rfl;exact hct;rfl;rfl)|(with_reducible apply cV (d := 20))|(apply aE;rfl;rfl)|(apply aN;rfl;rfl;rfl;rfl)|(apply aD;rfl;rfl;rfl)|(apply aC;rfl;rfl)|(apply aF;kernel_rfl)|(apply a6;rfl;rfl)|(apply aW;rfl;rfl;rfl;rfl;rfl;(case hl => (simp;done));(exact (rfl:_=[_, _, _, _]))))|(apply aM;(apply aB))|with_reducible apply aA)
   refine dX (jM ?_ (Le.frzD (d := 19) (i := 5) rfl rfl))
   repeat' (first|(apply aL;first|(apply aE;rfl;rfl)|(apply aD;rfl;rfl;rfl)|(apply bS;rfl;rfl;omega;rfl)|(apply cH;rfl;rfl;(assumption);rfl)|(apply aF;kernel_rfl)|(apply aW;rfl;rfl;rfl;rfl;rfl;(rw [aP]; simp only [gH] <;> omega);(exact IJ (by (omega)))))|(apply aM;(apply aB))|with_reducible apply aA|with_reducible apply aX)
   (apply dK (i + 1, true);focus (refine Le.ren [(1, 1), (2, 2)] rfl (by decide) ?_ ?_ <;> repeat' (first|exact trivial|refine And.intro ⟨_, rfl, ?_⟩ ?_|refine And.intro ⟨_, _, rfl, rfl, ?_⟩ ?_|exact Or.inr rfl|refine Or.inl ⟨?_, (by first|rfl|exact aY _ _)⟩|rfl)))
   ·exact Or.inr (Ds hj rfl)
   ·exact ⟨by dsimp only;omega, by dsimp only;rw [decide_eq_true (by omega)]⟩
   ·dsimp only;omega
  ·rw [decide_eq_false hij] at hb; subst hb
   simp only [cond_false]
   repeat' (first|(apply aL;first|(apply pX;rfl;exact hct;rfl;rfl)|(with_reducible apply cV (d := 20))|(apply aE;rfl;rfl)|(first|(apply gT;(case hx|hH => rfl);(case hf|hg|hα => infer_instance);(case hk => omega);(case h0|hN => rfl))|(apply aN;rfl;rfl;rfl;rfl))|(apply aD;rfl;rfl;rfl)|(apply aU;rfl;rfl;rfl;rfl)|(apply aC;rfl;rfl)|(apply cH;rfl;rfl;(assumption);rfl)|(apply aF;kernel_rfl)|(apply a6;rfl;rfl)|(apply aW;rfl;rfl;rfl;rfl;rfl;(case hl => (simp;done));(exact (rfl:_=[_, _, _, _]))))|(apply aM;first|apply aH|apply aB|(apply aQ;rfl;all_goals intro hc;have hq:=hc;(try simp only [cJ] at hq);try exfalso;omega)|apply aK|apply aT)|with_reducible apply aA)
   by_cases hie : i = j
   ·subst hie
    refine dX ?_
    repeat' (first|(apply aL;first|(apply aE;rfl;rfl)|(apply aD;rfl;rfl;rfl)|(apply bS;rfl;rfl;omega;rfl)|(apply cH;rfl;rfl;(assumption);rfl)|(apply aF;kernel_rfl)|(apply aW;rfl;rfl;rfl;rfl;rfl;(rw [aP]; simp only [gH] <;> omega);(exact xY (by (assumption)))))|(apply aM;(apply aB))|with_reducible apply aA|with_reducible apply aX)
    (apply dK (i + 1, true);focus (refine Le.ren [(1, 1), (2, 5)] rfl (by decide) ?_ ?_ <;> repeat' (first|exact trivial|refine And.intro ⟨_, rfl, ?_⟩ ?_|refine And.intro ⟨_, _, rfl, rfl, ?_⟩ ?_|exact Or.inr rfl|refine Or.inl ⟨?_, (by first|rfl|exact aY _ _)⟩|rfl)))
    ·exact Or.inr (Ds hin rfl)
    ·exact ⟨by dsimp only;omega, by dsimp only;rw [decide_eq_true (by omega)]⟩
    ·dsimp only;omega
   ·refine dX (jM ?_ (Le.frzD (d := 19) (i := 5) rfl rfl))
    repeat' (first|(apply aL;first|(apply aE;rfl;rfl)|(apply aD;rfl;rfl;rfl)|(apply bS;rfl;rfl;omega;rfl)|(apply cH;rfl;rfl;(assumption);rfl)|(apply aF;kernel_rfl)|(apply aW;rfl;rfl;rfl;rfl;rfl;(rw [aP]; simp only [gH] <;> omega);(exact CB (by (assumption)))))|(apply aM;(apply aB))|with_reducible apply aA|with_reducible apply aX)
    (apply dK (i + 1, false);focus (refine Le.ren [(1, 1)] rfl (by decide) ?_ ?_ <;> repeat' (first|exact trivial|refine And.intro ⟨_, rfl, ?_⟩ ?_|refine And.intro ⟨_, _, rfl, rfl, ?_⟩ ?_|exact Or.inr rfl|refine Or.inl ⟨?_, (by first|rfl|exact aY _ _)⟩|rfl)))
    ·exact ⟨by dsimp only;omega, by dsimp only;rw [decide_eq_false (by omega)]⟩
    ·dsimp only;omega
 ·rw [decide_eq_true (by omega)] at hb; subst hb
  simp only [cond_true]
  repeat' (first|(apply aL;first|(apply aE;rfl;rfl)|(apply aU;rfl;rfl;rfl;rfl)|(apply aC;rfl;rfl)|(apply aF;kernel_rfl))|(apply aM;first|apply aH|apply aB|(apply aQ;rfl;all_goals intro hc;have hq:=hc;(try simp only [cJ] at hq);try exfalso;omega)|apply bK|apply aR)|with_reducible apply aA|with_reducible apply bJ|with_reducible apply bO)
  (refine aO rfl ?_; refine bU () trivial ?_ ⟨.inr (Eq.trans (b := some _) rfl ?_), ⟨.inr (Eq.trans (b := some _) rfl ?_), trivial⟩⟩)
  ·rfl
  ·rfl
  ·rfl
theorem mV {m : List Cl} {x : Pt} {wr : Bool} {n : Nat} {N : Nat} {Q : Exit → AS → Prop} {all : Array Oper} {rest : List Oper} {tsl : List (Nat × AV)} {hsl : List (Nat × Option (List AV))} {nidl : Nat} {z0 : Lo} {md : Md} {d : Nat} {ty : TypeId} {pos : String} {af : Array Edge} {tys : Array TypeId} {x0 x1 x2 : Operand} {i0 : Nat} (ha0 : ev (lk tsl) x0 = some (.own i0 0 n 4)) (ha1 : ev (lk tsl) x1 = some (nB x)) (ha2 : ev (lk tsl) x2 = some (bv wr)) (hH0 : cO hsl i0 = some (aI c6 m)) (hmc : MC Tryz.prog 187 [.own 0 0 n 4, nB x, bv wr] [(0, some (aI c6 m))] 1 (fun _ : Unit => True) (fun _ => iv (cK m x wr)) (fun _ => [(0, some (aI c6 m))])) (hM : Nat.ble (nidl + 0) eZ = true) (hN : Nat.blt d N = true) {md' : Md} [hmd : MdA md (gK [x0, x1, x2] ++ [.inr i0]) (List.map Sum.inr (List.map Prod.fst ([(i0, some (aI c6 m))] : List (Nat × Option (List AV)))) ++ [.inl d]) md'] (kk : RW Tryz.prog N all Q md' rest ⟨(d, iv (cK m x wr)) :: tsl, iD hsl [(i0, some (aI c6 m))], nidl + 0, z0⟩) : RW Tryz.prog N all Q md (⟨some d, .call ⟨.value (.func 187), #[x0, x1, x2], tys⟩, ty, pos, af, none⟩ :: rest) ⟨tsl, hsl, nidl, z0⟩ := by
 refine cE [i0] 1 [(i0, some (aI c6 m))] hmc (avs := [.own i0 0 n 4, nB x, bv wr]) ?_ rfl ?_ rfl ?_ (by simpa using hM) ?_ ?_ ?_ hN (md' := md') (hmd := hmd) kk
 ·show evL (lk tsl) [x0, x1, x2] = _
  simp only [evL, ha0, ha1, ha2]
 ·exact ⟨⟨_, _, rfl, hH0, by (repeat' (exact RnL.purI inferInstance))⟩, trivial⟩
 ·(repeat' (first|exact RnL.purI inferInstance|exact RnV.own rfl|refine RnL.cons ?_ ?_))
 ·(repeat' (exact RnV.purI inferInstance))
 ·simp [dJ]
 ·(repeat' (first|exact trivial|(refine And.intro ⟨0, _, rfl, rfl, ?_⟩ ?_)|exact RnL.purI inferInstance))
theorem wM {m : List Cl} {j : Nat} {t : Int} {k n : Nat} {N : Nat} {Q : Exit → AS → Prop} {all : Array Oper} {rest : List Oper} {tsl : List (Nat × AV)} {hsl : List (Nat × Option (List AV))} {nidl : Nat} {z0 : Lo} {md : Md} {d : Nat} {ty : TypeId} {pos : String} {af : Array Edge} {tys : Array TypeId} {x0 x1 x2 : Operand} {i0 i1 : Nat} (ha0 : ev (lk tsl) x0 = some (.own i0 0 n 4)) (ha1 : ev (lk tsl) x1 = some (.agg [iv (j : Int), iv t])) (ha2 : ev (lk tsl) x2 = some (bv true)) (hH0 : cO hsl i0 = some (aI fW (eE m j (.own i1 0 m[j]!.stk.length 2)))) (hH1 : cO hsl i1 = some (aI dL m[j]!.stk)) (hdd : Go.AL.distinct [i0, i1] = true) (hmc : MC Tryz.prog 187 [.own 0 0 n 4, .agg [iv (j : Int), iv t], bv true] [(0, some (aI fW (eE m j (.own 1 0 m[j]!.stk.length 2)))), (1, some (aI dL m[j]!.stk))] 2 (fun _ : Unit => True) (fun _ => iv 0) (fun _ => [(0, some (aI fW (eE m j (.own 1 0 (k + 1) 2)))), (1, some (aI dL (m[j]!.stk.take (k + 1))))])) (hM : Nat.ble (nidl + 0) eZ = true) (hN : Nat.blt d N = true) {md' : Md} [hmd : MdA md (gK [x0, x1, x2] ++ [.inr i0, .inr i1]) (List.map Sum.inr (List.map Prod.fst ([(i0, some (aI fW (eE m j (.own i1 0 (k + 1) 2)))), (i1, some (aI dL (m[j]!.stk.take (k + 1))))] : List (Nat × Option (List AV)))) ++ [.inl d]) md'] (kk : RW Tryz.prog N all Q md' rest ⟨(d, iv 0) :: tsl, iD hsl [(i0, some (aI fW (eE m j (.own i1 0 (k + 1) 2)))), (i1, some (aI dL (m[j]!.stk.take (k + 1))))], nidl + 0, z0⟩) : RW Tryz.prog N all Q md (⟨some d, .call ⟨.value (.func 187), #[x0, x1, x2], tys⟩, ty, pos, af, none⟩ :: rest) ⟨tsl, hsl, nidl, z0⟩ := by
 refine cE [i0, i1] 2 [(i0, some (aI fW (eE m j (.own i1 0 (k + 1) 2)))), (i1, some (aI dL (m[j]!.stk.take (k + 1))))] hmc (avs := [.own i0 0 n 4, .agg [iv (j : Int), iv t], bv true]) ?_ hdd ?_ rfl ?_ (by simpa using hM) ?_ ?_ ?_ hN (md' := md') (hmd := hmd) kk
 ·show evL (lk tsl) [x0, x1, x2] = _
  simp only [evL, ha0, ha1, ha2]
 ·exact ⟨⟨_, _, rfl, hH0, by (repeat' (exact kU rfl))⟩, ⟨⟨_, _, rfl, hH1, by (repeat' (exact RnL.purI inferInstance))⟩, trivial⟩⟩
 ·(repeat' (first|exact RnL.purI inferInstance|exact RnV.own rfl|refine RnL.cons ?_ ?_))
 ·(repeat' (exact RnV.purI inferInstance))
 ·simp [dJ]
 ·(repeat' (first|exact trivial|(refine And.intro ⟨0, _, rfl, rfl, ?_⟩ ?_)|(refine And.intro ⟨1, _, rfl, rfl, ?_⟩ ?_)|exact RnL.purI inferInstance|exact kU rfl))
theorem LdL.app {D : List Nat} {H : Nat → Option (List AV)} : ∀ {a b c d : List AV}, LdL D H a b → LdL D H c d → dB a = true → LdL D H (a ++ c) (a ++ d)
 | [], _, _, _, _, h, _ => h
 | x :: a, b, c, d, h1, h, hp => by
  simp only [dB, Bool.and_eq_true] at hp
  exact .cons (.pur hp.1) (LdL.app (a := a) (b := a) (.pur hp.2) h hp.2)
theorem K8 {D : List Nat} {H : Nat → Option (List AV)} {m : List Cl} {j i k : Nat} {r : List Tg} (hi : i ∈ D) (hH : H i = some (aI dL r)) (hk : k = r.length) (hj : j < m.length) : LdL D H (aI fW (eE m j (.own i 0 k 2))) (aI c6 (m.set j { m[j]! with stk := r })) := by
 subst hk
 rw [← zR, j1 hj, j1 hj]
 have p1 : dB (aI c6 (m.take j)) = true := (inferInstance : Pur (aI c6 _)).pf
 have p2 : dB [iv m[j]!.val, bv m[j]!.alive, iv m[j]!.next] = true := rfl
 exact LdL.app (.pur p1) (LdL.app (.pur p2) (.cons (.own hi hH (.pur (inferInstance : Pur (aI dL r)).pf)) (.pur (inferInstance : Pur (aI c6 _)).pf)) p2) p1
theorem CG {D : List Nat} {H : Nat → Option (List AV)} {m : List Cl} {j i : Nat} (hi : i ∈ D) (hH : H i = some (aI dL m[j]!.stk)) (hj : j < m.length) : LdL D H (aI fW (eE m j (.own i 0 m[j]!.stk.length 2))) (aI c6 m) := by
 have h := K8 (m := m) (r := m[j]!.stk) hi hH rfl hj
 rwa [show m.set j { m[j]! with stk := m[j]!.stk } = m from mP m j] at h
theorem KO {m : List Cl} {x : Pt} {wr : Bool} (h : 0 ≤ x.cell) (h2 : x.cell < m.length) (h3 : m[x.cell.toNat]!.alive = true) (h4 : 0 ≤ dD m[x.cell.toNat]!.stk x.tag) (hw : wr = true) (h5 : m[x.cell.toNat]!.stk[(dD m[x.cell.toNat]!.stk x.tag).toNat]!.uq = false) : cK m x wr = 3 := by
 unfold cK;rw [if_neg (by omega), if_neg (by rw [h3]; decide), if_neg (by omega), if_pos ⟨hw, h5⟩]
theorem oC (m : List Cl) (x : Pt) (wr : Bool) (n : Nat) (hm : OkM m) (hn : n = m.length) (hk : cK m x wr ≠ 0) : MC Tryz.prog 187 [.own 0 0 n 4, nB x, bv wr] [(0, some (aI c6 m))] 1 (fun _ : Unit => True) (fun _ => iv (cK m x wr)) (fun _ => [(0, some (aI c6 m))]) := by
 subst hn
 have hml := hm.l
 have hcv := iT m hm
 have hst : 0 ≤ x.cell → x.cell < m.length → m[x.cell.toNat]!.stk.length ≤ 200 := fun h1 h2 => (((dY m).1 hm).2 x.cell.toNat (by omega)).l.2
 have hbd := e9 m[x.cell.toNat]!.stk x.tag
 have hidx := fun h => yZ m[x.cell.toNat]!.stk x.cell x.tag h
 (refine b9 Tryz.func187 rfl (by simp [Tryz.ntmps187]) ?_; rw [Tryz.ntmps187])
 repeat' (first|(apply aL;first|((with_reducible apply pD (k := 184));(case ha => rfl);(case hl => (repeat' (first|exact m8|apply lP|exact m3 rfl inferInstance)));(case h => exact hcv);(case hfr|hN => rfl);(case hmd => infer_instance))|((apply jJ 4);(case hx|hH|hc|hN => rfl))|((with_reducible apply aJ (k := 230));(case ha => rfl);(case h => exact (hidx (by have := hst (by omega) (by omega);omega)));(case hp => (exact Pur.pf));(case hN => rfl))|(with_reducible apply cV (d := 75))|(apply aE;rfl;rfl)|(first|(apply cY;(case hx|hH => rfl);(case hf|hg|hα => infer_instance);(case hk => omega);(case hc|hN => rfl))|(apply aN;rfl;rfl;rfl;rfl))|(apply aD;rfl;rfl;rfl)|(first|(apply a8;rfl;rfl;rfl;(first|rfl|assumption))|(apply bC;rfl;rfl;rfl;(assumption))|(apply bR;(case hj|hb|hN => rfl);all_goals (intro hg;have hq := hg;(try simp only [cJ] at hq);(try (exfalso;omega)))))|(first|(apply iB;rfl;rfl;omega;rfl)|(apply aU;rfl;rfl;rfl;rfl))|(apply aC;rfl;rfl)|(first|(apply bY;rfl;(assumption);rfl;rfl)|(apply bQ;rfl;(first|rfl|assumption);rfl;rfl))|(first|(apply cL;(case hx|hi => rfl);(case hm => (omega));(case hml => (rfl));(case hα | hf|hg => infer_instance);(case hN => rfl))|(apply cQ;rfl;rfl;(omega);rfl))|((with_reducible apply aJ (k := 84));(case ha => rfl);(case h => (apply eL <;> (fail)));(case hp => (rfl));(case hN => rfl))|(apply bI;rfl;rfl;rfl)|(apply aF;kernel_rfl)|(apply cF;rfl;rfl)|(apply cA;rfl;rfl;rfl)|(apply bH;rfl;rfl;rfl;rfl))|(apply aM;first|apply aH|apply aB|(apply cG;rfl;(rfl))|(apply aQ;rfl;all_goals intro hc;have hq:=hc;(try simp only [cJ] at hq);try exfalso;omega)|apply aK|apply aT|apply aR)|with_reducible apply aA|with_reducible apply bG|with_reducible apply cP)
 ·(refine aO rfl ?_; refine bU () trivial ?_ ⟨.inr (Eq.trans (b := some _) rfl ?_), trivial⟩)
  ·rw [B7 (by omega)]; rfl
  ·rfl
 ·(refine aO rfl ?_; refine bU () trivial ?_ ⟨.inr (Eq.trans (b := some _) rfl ?_), trivial⟩)
  ·rw [Hr (by omega) (by omega) (by assumption)]; rfl
  ·rfl
 ·(refine aO rfl ?_; refine bU () trivial ?_ ⟨.inr (Eq.trans (b := some _) rfl ?_), trivial⟩)
  ·rw [Ge (by omega) (by omega) (by assumption) (by assumption)]; rfl
  ·rfl
 ·(refine aO rfl ?_; refine bU () trivial ?_ ⟨.inr (Eq.trans (b := some _) rfl ?_), trivial⟩)
  ·rw [KO (by omega) (by omega) (by assumption) (by assumption) (by assumption) (by assumption)]; rfl
  ·rfl
 ·exfalso
  have hw : wr = true := by assumption
  have hu : m[x.cell.toNat]!.stk[(dD m[x.cell.toNat]!.stk x.tag).toNat]!.uq = true := by assumption
  subst hw
  refine hk ?_
  rw [y4, if_pos (rR (by omega) (by omega) (by assumption) (by assumption)), if_neg (by rw [hu]; decide)]
 ·exfalso
  have hw : wr = false := by assumption
  subst hw
  exact hk (rR (by omega) (by omega) (by assumption) (by assumption))
theorem uJ (m : List Cl) (j : Nat) (t : Int) (k n : Nat) (hm : OkM m) (hn : n = m.length) (hj : j < m.length) (hk : dD m[j]!.stk t = (k : Int)) (hal : m[j]!.alive = true) (hu : m[j]!.stk[k]!.uq = true) : MC Tryz.prog 187 [.own 0 0 n 4, .agg [iv (j : Int), iv t], bv true] [(0, some (aI fW (eE m j (.own 1 0 m[j]!.stk.length 2)))), (1, some (aI dL m[j]!.stk))] 2 (fun _ : Unit => True) (fun _ => iv 0) (fun _ => [(0, some (aI fW (eE m j (.own 1 0 (k + 1) 2)))), (1, some (aI dL (m[j]!.stk.take (k + 1))))]) := by
 subst hn
 have hml := hm.l
 have hcv := iT m hm
 have hst : m[j]!.stk.length ≤ 200 := (((dY m).1 hm).2 j hj).l.2
 have hbd := e9 m[j]!.stk t
 rw [hk] at hbd
 have hidx := yZ m[j]!.stk (j : Int) t (by omega)
 rw [hk] at hidx
 have hog := iR (m := m) (j := j) (X := .own 1 0 m[j]!.stk.length 2) hj
 have hol := eB (m := m) (j := j) (X := .own 1 0 m[j]!.stk.length 2)
 (refine b9 Tryz.func187 rfl (by simp [Tryz.ntmps187]) ?_; rw [Tryz.ntmps187])
 repeat' (first|(apply aL;first|((with_reducible apply oP (k := 184) (D := [0, 1]) (h := hcv));(case ha => rfl);(case hl => exact .cons (.own (by simp) rfl (CG (by simp) rfl hj)) .nil);(case hfr|hN => rfl))|(with_reducible apply cV (d := 35))|(apply aE;rfl;rfl)|(first|(apply cY;(case hx|hH => rfl);(case hf|hg|hα => infer_instance);(case hk => omega);(case hc|hN => rfl))|(apply aN;rfl;rfl;rfl;rfl))|(apply aD;rfl;rfl;rfl)|(apply a8;rfl;rfl;rfl;(rfl))|(apply iB;rfl;rfl;omega;rfl)|(apply aC;rfl;rfl)|(apply bQ;rfl;(rfl);rfl;rfl)|(apply cH;rfl;rfl;(assumption);rfl)|((with_reducible apply aJ (k := 84));(case ha => rfl);(case h => (apply eL <;> (fail)));(case hp => (rfl));(case hN => rfl))|(apply bI;rfl;rfl;rfl)|(apply aF;kernel_rfl)|(apply cF;rfl;rfl)|(apply cA;rfl;rfl;rfl)|(apply bH;rfl;rfl;rfl;rfl))|(apply aM;first|apply aH|apply aB|(apply aQ;rfl;all_goals intro hc;have hq:=hc;(try simp only [cJ] at hq);try exfalso;omega)|apply aT|apply aR)|with_reducible apply aA|with_reducible apply bG)
 all_goals (try (exfalso;omega))
 ·exfalso
  have h : (eE m j (.own 1 0 m[j]!.stk.length 2))[j]!.alive = false := by assumption
  rw [hog] at h;simp only [hal] at h;cases h
 refine dX ?_
 rw [hog]
 dsimp only
 repeat' (first|(apply aL;first|((apply jJ 4);(case hx|hH|hc|hN => rfl))|((with_reducible apply oP (k := 230) (D := [1]) (h := hidx));(case ha => rfl);(case hl => exact .cons (.own (by simp) rfl (.pur (inferInstance : Pur (aI dL _)).pf)) (.cons (.pur rfl) .nil));(case hfr|hN => rfl))|(with_reducible apply cV (d := 68))|(apply aE;rfl;rfl)|(apply cY;(case hx|hH => rfl);(case hf|hg|hα => infer_instance);(case hk => omega);(case hc|hN => rfl))|(apply aD;rfl;rfl;rfl)|(apply a8;rfl;rfl;rfl;(rfl))|(apply aU;rfl;rfl;rfl;rfl)|(apply aC;rfl;rfl)|(apply aF;kernel_rfl)|(apply cA;rfl;rfl;rfl))|(apply aM;first|apply aH|apply aB|(apply cG;rfl;(rfl))|apply aK)|with_reducible apply aA)
 refine dX ?_
 rw [hog]
 dsimp only
 repeat' (first|(apply aL;first|(with_reducible apply cV (d := 81))|(apply aE;rfl;rfl)|(apply cY;(case hx|hH => rfl);(case hf|hg|hα => infer_instance);(case hk => omega);(case hc|hN => rfl))|(apply aD;rfl;rfl;rfl)|(apply a8;rfl;rfl;rfl;(rfl))|(apply aC;rfl;rfl)|(apply bY;rfl;(rfl);rfl;rfl)|(apply cH;rfl;rfl;(omega);rfl)|(apply aF;kernel_rfl)|(apply cF;rfl;rfl)|(apply cA;rfl;rfl;rfl))|(apply aM;first|apply aH|apply aB|(apply cB;rfl;(rfl))|(apply aQ;rfl;all_goals intro hc;have hq:=hc;(try simp only [cJ] at hq);try exfalso;omega)|apply aR)|with_reducible apply aA|with_reducible apply bG|with_reducible apply cP)
 ·exfalso
  have h : m[j]!.stk[k]!.uq = false := by assumption
  rw [hu] at h;cases h
 refine dX ?_
 rw [hog]
 dsimp only
 repeat' (first|(apply aL;first|((apply gN (d := 83) (l := 0) (h := k + 1));(case hx|hn|hl => rfl);(case hh => exact fE rfl (by omega));(case hp => exact if_pos (by omega));(case hN => rfl))|(apply aE;rfl;rfl)|(apply aD;rfl;rfl;rfl)|(apply bS;rfl;rfl;omega;rfl)|(apply aC;rfl;rfl)|(apply aF;kernel_rfl)|(apply cA;rfl;rfl;rfl)|(apply aW;rfl;rfl;rfl;rfl;rfl;(rw [aP]; simp only [gH] <;> omega);(exact uA (by (assumption)))))|(apply aM;first|apply aH|apply aB|apply aR)|with_reducible apply aA|with_reducible apply aX)
 refine cD (Le.cut (i := 1) ((k + 1) * 2) rfl) ?_
 (refine aO rfl ?_; refine bU () trivial ?_ ⟨.inr (Eq.trans (b := some _) rfl ?_), ⟨.inr (Eq.trans (b := some _) rfl ?_), trivial⟩⟩)
 ·rfl
 ·rfl
 ·rw [eU dL (e := 2)]
theorem EK {xs : List Tg} {k n : Nat} {N : Nat} {Q : Exit → AS → Prop} {all : Array Oper} {rest : List Oper} {tsl : List (Nat × AV)} {hsl : List (Nat × Option (List AV))} {nidl : Nat} {z0 : Lo} {md : Md} {d : Nat} {ty : TypeId} {pos : String} {af : Array Edge} {tys : Array TypeId} {x0 : Operand} {i0 : Nat} (ha0 : ev (lk tsl) x0 = some (.own i0 (0 + k * 2) n 2)) (hH0 : cO hsl i0 = some (aI dL xs)) (hmc : MC Tryz.prog 229 [.own 0 (0 + k * 2) n 2] [(0, some (aI dL xs))] 1 (fun _ : Unit => True) (fun _ => .own 2 0 n 2) (fun _ => [(0, some (aI dL xs)), (2, some (aI dL (xs.drop k)))])) (hM : Nat.ble (nidl + 2) eZ = true) (hN : Nat.blt d N = true) {md' : Md} [hmd : MdA md (gK [x0] ++ [.inr i0]) (List.map Sum.inr (List.map Prod.fst ([(i0, some (aI dL xs)), ((nidl + 1), some (aI dL (xs.drop k)))] : List (Nat × Option (List AV)))) ++ [.inl d]) md'] (kk : RW Tryz.prog N all Q md' rest ⟨(d, .own (nidl + 1) 0 n 2) :: tsl, iD hsl [(i0, some (aI dL xs)), ((nidl + 1), some (aI dL (xs.drop k)))], nidl + 2, z0⟩) : RW Tryz.prog N all Q md (⟨some d, .call ⟨.value (.func 229), #[x0], tys⟩, ty, pos, af, none⟩ :: rest) ⟨tsl, hsl, nidl, z0⟩ := by
 refine cE [i0] 3 [(i0, some (aI dL xs)), ((nidl + 1), some (aI dL (xs.drop k)))] hmc (avs := [.own i0 (0 + k * 2) n 2]) ?_ rfl ?_ rfl ?_ (by simpa using hM) ?_ ?_ ?_ hN (md' := md') (hmd := hmd) kk
 ·show evL (lk tsl) [x0] = _
  simp only [evL, ha0]
 ·exact ⟨⟨_, _, rfl, hH0, by (repeat' (exact RnL.purI inferInstance))⟩, trivial⟩
 ·(repeat' (first|exact RnL.purI inferInstance|exact RnV.own rfl|refine RnL.cons ?_ ?_))
 ·(repeat' (exact RnV.own rfl))
 ·simp [dJ]
 ·(repeat' (first|exact trivial|(refine And.intro ⟨0, _, rfl, rfl, ?_⟩ ?_)|(refine And.intro ⟨2, _, rfl, rfl, ?_⟩ ?_)|exact RnL.purI inferInstance))
theorem Hp (xs : List Tg) (k n : Nat) (hn : n = xs.length - k) (hl : xs.length ≤ 1000000) : MC Tryz.prog 229 [.own 0 (0 + k * 2) n 2] [(0, some (aI dL xs))] 1 (fun _ : Unit => True) (fun _ => .own 2 0 n 2) (fun _ => [(0, some (aI dL xs)), (2, some (aI dL (xs.drop k)))]) := by
 subst hn
 (refine b9 Tryz.func229 rfl (by simp [Tryz.ntmps229]) ?_; rw [Tryz.ntmps229])
 repeat' (first|(apply aL;first|(apply DZ;rfl;rfl;(intro b hb))|(apply bW;rfl;rfl;rfl;rfl;rfl;(decide);exact rY rfl rfl;omega;omega;(exact eY rfl);rfl;rfl)|(apply aE;rfl;rfl)|(apply aC;rfl;rfl)|(apply aF;kernel_rfl)|(apply bZ;rfl;rfl;rfl;(rfl);rfl;rfl))|(apply aM;first|apply aH|apply aB|(apply aQ;rfl;all_goals intro hc;have hq:=hc;(try simp only [cJ] at hq);try exfalso;omega)|apply aT|apply aR)|with_reducible apply aA|with_reducible apply bG)
 ·have h0 : xs.length - k = 0 := hb (by assumption)
  have h1 : xs.drop k = [] := List.drop_eq_nil_of_le (by omega)
  refine cD (Le.bump 1) ?_
  refine cD (Le.nilOwn (d := 2) 2 rfl (by decide)) ?_
  (refine aO rfl ?_; refine bU () trivial ?_ ⟨.inr (Eq.trans (b := some _) rfl ?_), ⟨.inr (Eq.trans (b := some _) rfl ?_), trivial⟩⟩)
  ·show AV.own 2 0 0 2 = _; rw [h0]
  ·rfl
  ·rw [h1]; rfl
 ·(refine aO rfl ?_; refine bU () trivial ?_ ⟨.inr (Eq.trans (b := some _) rfl ?_), ⟨.inr (Eq.trans (b := some _) rfl ?_), trivial⟩⟩)
  ·show AV.own 2 0 (0 + (xs.length - k)) 2 = _
   rw [Nat.zero_add]
  ·rfl
  ·rfl
theorem wW {m : List Cl} {j : Nat} {t : Int} {r : List Tg} {n : Nat} {N : Nat} {Q : Exit → AS → Prop} {all : Array Oper} {rest : List Oper} {tsl : List (Nat × AV)} {hsl : List (Nat × Option (List AV))} {nidl : Nat} {z0 : Lo} {md : Md} {d : Nat} {ty : TypeId} {pos : String} {af : Array Edge} {tys : Array TypeId} {x0 x1 x2 : Operand} {i0 i1 : Nat} (ha0 : ev (lk tsl) x0 = some (.own i0 0 n 4)) (ha1 : ev (lk tsl) x1 = some (.agg [iv (j : Int), iv t])) (ha2 : ev (lk tsl) x2 = some (bv false)) (hH0 : cO hsl i0 = some (aI fW (eE m j (.own i1 0 m[j]!.stk.length 2)))) (hH1 : cO hsl i1 = some (aI dL m[j]!.stk)) (hdd : Go.AL.distinct [i0, i1] = true) (hmc : MC Tryz.prog 187 [.own 0 0 n 4, .agg [iv (j : Int), iv t], bv false] [(0, some (aI fW (eE m j (.own 1 0 m[j]!.stk.length 2)))), (1, some (aI dL m[j]!.stk))] 2 (fun _ : Unit => True) (fun _ => iv 0) (fun _ => [(0, some (aI fW (eE m j (.own 5 0 r.length 2)))), (5, some (aI dL r))])) (hM : Nat.ble (nidl + 4) eZ = true) (hN : Nat.blt d N = true) {md' : Md} [hmd : MdA md (gK [x0, x1, x2] ++ [.inr i0, .inr i1]) (List.map Sum.inr (List.map Prod.fst ([(i0, some (aI fW (eE m j (.own (nidl + 3) 0 r.length 2)))), ((nidl + 3), some (aI dL r)), (i1, none)] : List (Nat × Option (List AV)))) ++ [.inl d]) md'] (kk : RW Tryz.prog N all Q md' rest ⟨(d, iv 0) :: tsl, iD hsl [(i0, some (aI fW (eE m j (.own (nidl + 3) 0 r.length 2)))), ((nidl + 3), some (aI dL r)), (i1, none)], nidl + 4, z0⟩) : RW Tryz.prog N all Q md (⟨some d, .call ⟨.value (.func 187), #[x0, x1, x2], tys⟩, ty, pos, af, none⟩ :: rest) ⟨tsl, hsl, nidl, z0⟩ := by
 refine cE [i0, i1] 6 [(i0, some (aI fW (eE m j (.own (nidl + 3) 0 r.length 2)))), ((nidl + 3), some (aI dL r)), (i1, none)] hmc (avs := [.own i0 0 n 4, .agg [iv (j : Int), iv t], bv false]) ?_ hdd ?_ rfl ?_ (by simpa using hM) ?_ ?_ ?_ hN (md' := md') (hmd := hmd) kk
 ·show evL (lk tsl) [x0, x1, x2] = _
  simp only [evL, ha0, ha1, ha2]
 ·exact ⟨⟨_, _, rfl, hH0, by (repeat' (exact kU rfl))⟩, ⟨⟨_, _, rfl, hH1, by (repeat' (exact RnL.purI inferInstance))⟩, trivial⟩⟩
 ·(repeat' (first|exact RnL.purI inferInstance|exact RnV.own rfl|refine RnL.cons ?_ ?_))
 ·(repeat' (exact RnV.purI inferInstance))
 ·simp [dJ]
 ·(repeat' (first|exact trivial|(refine And.intro ⟨0, _, rfl, rfl, ?_⟩ ?_)|(refine And.intro ⟨5, _, rfl, rfl, ?_⟩ ?_)|exact RnL.purI inferInstance|exact kU rfl))
theorem AF (m : List Cl) (j : Nat) (t : Int) (r : List Tg) (k n : Nat) (hm : OkM m) (hn : n = m.length) (hj : j < m.length) (hk : dD m[j]!.stk t = (k : Int)) (hal : m[j]!.alive = true) (hr : r = fT m[j]!.stk k false) : MC Tryz.prog 187 [.own 0 0 n 4, .agg [iv (j : Int), iv t], bv false] [(0, some (aI fW (eE m j (.own 1 0 m[j]!.stk.length 2)))), (1, some (aI dL m[j]!.stk))] 2 (fun _ : Unit => True) (fun _ => iv 0) (fun _ => [(0, some (aI fW (eE m j (.own 5 0 r.length 2)))), (5, some (aI dL r))]) := by
 subst hn
 have hml := hm.l
 have hcv := iT m hm
 have hst : m[j]!.stk.length ≤ 200 := (((dY m).1 hm).2 j hj).l.2
 have hbd := e9 m[j]!.stk t
 rw [hk] at hbd
 have hidx := yZ m[j]!.stk (j : Int) t (by omega)
 rw [hk] at hidx
 have hog := iR (m := m) (j := j) (X := .own 1 0 m[j]!.stk.length 2) hj
 have hol := eB (m := m) (j := j) (X := .own 1 0 m[j]!.stk.length 2)
 (refine b9 Tryz.func187 rfl (by simp [Tryz.ntmps187]) ?_; rw [Tryz.ntmps187])
 repeat' (first|(apply aL;first|((with_reducible apply oP (k := 184) (D := [0, 1]) (h := hcv));(case ha => rfl);(case hl => exact .cons (.own (by simp) rfl (CG (by simp) rfl hj)) .nil);(case hfr|hN => rfl))|(with_reducible apply cV (d := 35))|(apply aE;rfl;rfl)|(first|(apply cY;(case hx|hH => rfl);(case hf|hg|hα => infer_instance);(case hk => omega);(case hc|hN => rfl))|(apply aN;rfl;rfl;rfl;rfl))|(apply aD;rfl;rfl;rfl)|(apply a8;rfl;rfl;rfl;(rfl))|(apply iB;rfl;rfl;omega;rfl)|(apply aC;rfl;rfl)|(apply bQ;rfl;(rfl);rfl;rfl)|(apply cH;rfl;rfl;(assumption);rfl)|((with_reducible apply aJ (k := 84));(case ha => rfl);(case h => (apply eL <;> (fail)));(case hp => (rfl));(case hN => rfl))|(apply bI;rfl;rfl;rfl)|(apply aF;kernel_rfl)|(apply cF;rfl;rfl)|(apply cA;rfl;rfl;rfl)|(apply bH;rfl;rfl;rfl;rfl))|(apply aM;first|apply aH|apply aB|(apply aQ;rfl;all_goals intro hc;have hq:=hc;(try simp only [cJ] at hq);try exfalso;omega)|apply aT|apply aR)|with_reducible apply aA|with_reducible apply bG)
 all_goals (try (exfalso;omega))
 ·exfalso
  have h : (eE m j (.own 1 0 m[j]!.stk.length 2))[j]!.alive = false := by assumption
  rw [hog] at h;simp only [hal] at h;cases h
 refine dX ?_
 rw [hog]
 dsimp only
 repeat' (first|(apply aL;first|((apply jJ 4);(case hx|hH|hc|hN => rfl))|((with_reducible apply oP (k := 230) (D := [1]) (h := hidx));(case ha => rfl);(case hl => exact .cons (.own (by simp) rfl (.pur (inferInstance : Pur (aI dL _)).pf)) (.cons (.pur rfl) .nil));(case hfr|hN => rfl))|(with_reducible apply cV (d := 41))|(apply aE;rfl;rfl)|(apply cY;(case hx|hH => rfl);(case hf|hg|hα => infer_instance);(case hk => omega);(case hc|hN => rfl))|(apply aD;rfl;rfl;rfl)|(apply bC;rfl;rfl;rfl;(rfl))|(apply aU;rfl;rfl;rfl;rfl)|(apply aC;rfl;rfl)|(apply bQ;rfl;(rfl);rfl;rfl)|(apply aF;kernel_rfl)|(apply cA;rfl;rfl;rfl))|(apply aM;first|apply aH|apply aB|(apply cG;rfl;(rfl))|apply aK)|with_reducible apply aA)
 refine dX ?_
 rw [hog]
 dsimp only
 repeat' (first|(apply aL;first|((apply gN (d := 43) (l := k + 1) (h := m[j]!.stk.length));(case hx|hn => rfl);(case hl => exact fE rfl (by omega));(case hh => rfl);(case hp => exact if_pos (by omega));(case hN => rfl))|(apply EK;rfl;rfl;exact Hp _ _ _ rfl (by omega);rfl;rfl)|(apply IC;rfl;rfl;rfl;exact K4 _ _ (by rw [List.length_drop]) (by omega);rfl;rfl)|(with_reducible apply cV (d := 51))|(apply aE;rfl;rfl)|(apply cY;(case hx|hH => rfl);(case hf|hg|hα => infer_instance);(case hk => omega);(case hc|hN => rfl))|(apply aD;rfl;rfl;rfl)|(apply bS;rfl;rfl;omega;rfl)|(apply aC;rfl;rfl)|(apply aF;kernel_rfl)|(apply cA;rfl;rfl;rfl))|(apply aM;(apply aB))|with_reducible apply aA)
 refine dX ?_
 rw [hog]
 dsimp only
 have hfl : (aI dL m[j]!.stk).length = m[j]!.stk.length * 2 := aP dL _
 have hsl : (shr (List.drop (k + 1) m[j]!.stk)).length ≤ 200 := Nat.le_trans (List.length_filter_le _ _) (by rw [List.length_drop]; omega)
 repeat' (first|(apply aL;first|((apply gN (d := 53) (l := 0) (h := k + 1));(case hx|hn|hl => rfl);(case hh => exact fE rfl (by omega));(case hp => exact if_pos (by omega));(case hN => rfl))|(apply bW;rfl;rfl;rfl;rfl;rfl;(rw [hfl]; omega);exact rY (k := 0) rfl rfl;omega;omega;rfl;rfl;rfl)|(apply aE;rfl;rfl)|(apply aD;rfl;rfl;rfl)|(apply bS;rfl;rfl;omega;rfl)|(apply aC;rfl;rfl)|(apply aF;kernel_rfl)|(apply cA;rfl;rfl;rfl)|(apply aW;rfl;rfl;rfl;rfl;rfl;(rw [aP]; simp only [gH] <;> omega);(exact uA (by (assumption)))))|(apply aM;first|apply aH|apply aB|apply aR)|with_reducible apply aA|with_reducible apply aX)
 have hre : r = m[j]!.stk.take (k + 1) ++ shr (m[j]!.stk.drop (k + 1)) := by rw [hr]; rfl
 have hrl : r.length = k + 1 + (shr (List.drop (k + 1) m[j]!.stk)).length := by rw [hre, List.length_append, List.length_take]; omega
 (refine aO rfl ?_; refine bU () trivial ?_ ⟨.inr (Eq.trans (b := some _) rfl ?_), ⟨.inr (Eq.trans (b := some _) rfl ?_), trivial⟩⟩)
 ·rfl
 ·refine congrArg some ?_
  show aI fW (eE m j (AV.own 5 0 (k + 1 - 0 + (shr (List.drop (k + 1) m[j]!.stk)).length) 2)) = _
  rw [hrl]; rfl
 ·refine congrArg some ?_
  show (List.drop 0 (aI dL m[j]!.stk)).take ((k + 1) * 2) ++ aI dL (List.drop 0 (shr (List.drop (k + 1) m[j]!.stk))) = _
  rw [List.drop_zero, List.drop_zero, eU dL (e := 2), dT, ← hre]
theorem Iq {m : List Cl} {j : Nat} {X : AV} {v : Int} (h : j < m.length) : hO (aI fW (eE m j X)) (0 + j * 4 + 0) [iv v] = aI fW (eE (m.set j { m[j]! with val := v }) j X) := by
 have e : eE (m.set j { m[j]! with val := v }) j X = (eE m j X).set j ⟨v, m[j]!.alive, m[j]!.next, X⟩ := by
  have e2 : (m.set j { m[j]! with val := v })[j]! = { m[j]! with val := v } := by rw [cT _ _ (by rw [List.length_set]; exact h), List.getElem_set_self]
  unfold eE
  rw [e2, List.map_set, List.set_set, List.set_set]; rfl
 rw [e]
 exact fK (by rw [eB]; exact h) (by simp) (by rw [iR h]; rfl)
theorem H7 {m : List Cl} {j : Nat} {X : AV} {b : Bool} (h : j < m.length) : hO (aI fW (eE m j X)) (0 + j * 4 + 1) [.v (.bool b)] = aI fW (eE (m.set j { m[j]! with alive := b }) j X) := by
 have e : eE (m.set j { m[j]! with alive := b }) j X = (eE m j X).set j ⟨m[j]!.val, b, m[j]!.next, X⟩ := by
  have e2 : (m.set j { m[j]! with alive := b })[j]! = { m[j]! with alive := b } := by rw [cT _ _ (by rw [List.length_set]; exact h), List.getElem_set_self]
  unfold eE
  rw [e2, List.map_set, List.set_set, List.set_set]; rfl
 rw [e]
 exact fK (by rw [eB]; exact h) (by simp) (by rw [iR h]; rfl)
theorem qE (m : List Cl) (hm : OkM m) (x : Pt) : PC Tryz.prog 134 [sl c6 m, nB x] (fun r => r = .tup [sl c6 (dU m x false), iv (nL m x), iv (cK m x false)]) := by
 have hml := hm.l
 by_cases hk : cK m x false = 0
 ·obtain ⟨c, t⟩ := x
  obtain ⟨h1, h2, h3, h4, _⟩ := eW hk
  obtain ⟨j, rfl⟩ := Int.eq_ofNat_of_zero_le (show 0 ≤ c from h1)
  have hj : j < m.length := by have : (j : Int) < m.length := h2;omega
  obtain ⟨k, hkk⟩ := Int.eq_ofNat_of_zero_le (show 0 ≤ dD m[j]!.stk t from h4)
  obtain ⟨r, hr⟩ : ∃ r, r = fT m[j]!.stk k false := ⟨_, rfl⟩
  have hto := AF m j t r k m.length hm rfl hj hkk h3 hr
  have hog := iR (m := m) (j := j) (X := .own (0 + 1 + 3 + 3) 0 r.length 2) hj
  have hol := eB (m := m) (j := j) (X := .own (0 + 1 + 3 + 3) 0 r.length 2)
  (refine aS Tryz.func134 rfl (by simp [Tryz.ntmps134]) ?_; rw [Tryz.ntmps134])
  repeat' (first|(apply aL;first|((apply oQ (j := j));(case ha0 => rfl);(case hmc => exact sT m j hm hj);(case hM|hN => rfl))|((apply wW (m := m) (j := j) (t := t) (r := r) (n := m.length));(case ha0|ha1|ha2|hH0|hH1|hdd => rfl);(case hmc => exact hto);(case hM|hN => rfl))|(apply aE;rfl;rfl)|(first|(apply cY;(case hx|hH => rfl);(case hf|hg|hα => infer_instance);(case hk => omega);(case hc|hN => rfl))|(apply aN;rfl;rfl;rfl;rfl)|(apply aV;rfl;rfl;(exact (rfl:_=[_, _]));rfl;rfl;rfl))|(apply aD;rfl;rfl;rfl)|(apply aU;rfl;rfl;rfl;rfl)|(apply aC;rfl;rfl)|(apply cH;rfl;rfl;(assumption);rfl)|(apply aF;kernel_rfl)|(apply bH;rfl;rfl;rfl;rfl))|(apply aM;first|apply aH|apply aB|(apply bV;kernel_rfl)|(apply cG;rfl;(rfl))|apply aT|apply aR)|with_reducible apply aA)
  refine cD (Le.cls (o := 2) (q := 7) (j := j) (k := r.length) (m := m) (r := r) rfl rfl rfl hj (by decide)) ?_
  refine cD (Le.frzD (d := 4) (i := 2) rfl rfl) ?_
  rw [hog]
  refine aO (l := [.imm m.length (aI c6 (m.set j { m[j]! with stk := r })), iv m[j]!.val, iv 0]) rfl ?_
  have eM : dU m ⟨j, t⟩ false = m.set j { m[j]! with stk := r } := by
   unfold dU jE;rw [if_pos hk]; dsimp only
   rw [Int.toNat_natCast, hkk, Int.toNat_natCast, hr]
  have eN : nL m ⟨j, t⟩ = m[j]!.val := by unfold nL;rw [if_pos hk]; rfl
  rw [eM, eN, hk, fU (by rw [List.length_set])]
  exact ⟨rfl, by (exact Pur.pf)⟩
 ·(refine aS Tryz.func134 rfl (by simp [Tryz.ntmps134]) ?_; rw [Tryz.ntmps134])
  repeat' (first|(apply aL;first|(apply iW;rfl;exact kV m hm;rfl;rfl)|((apply mV (m := m) (x := x) (wr := false) (n := m.length));(case ha0|ha1|ha2|hH0 => rfl);(case hmc => exact oC m x false _ hm rfl hk);(case hM|hN => rfl))|(apply aE;rfl;rfl)|(apply aV;rfl;rfl;(exact (rfl:_=[_, _]));rfl;rfl;rfl)|(apply aU;rfl;rfl;rfl;rfl)|(apply aC;rfl;rfl)|(apply aF;kernel_rfl)|(apply bH;rfl;rfl;rfl;rfl))|(apply aM;first|apply aH|apply aB|(apply aQ;rfl;all_goals intro hc;have hq:=hc;(try simp only [cJ] at hq);try exfalso;omega)|apply aR)|with_reducible apply aA|with_reducible apply bG)
  (refine cD (Le.frzD (d := 4) (i := 2) rfl rfl) ?_; refine aO rfl ?_)
  refine ⟨?_, by (exact Pur.pf)⟩
  simp only [b0]
  unfold dU nL;rw [if_neg hk, if_neg hk]
theorem Aj (m : List Cl) (hm : OkM m) (x : Pt) : PC Tryz.prog 188 [sl c6 m, nB x] (fun r => r = .tup [sl c6 (iL m x), iv (cK m x true)]) := by
 have hml := hm.l
 by_cases hk : cK m x true = 0
 ·obtain ⟨c, t⟩ := x
  obtain ⟨h1, h2, h3, h4, hu⟩ := eW hk
  obtain ⟨j, rfl⟩ := Int.eq_ofNat_of_zero_le (show 0 ≤ c from h1)
  have hj : j < m.length := by have : (j : Int) < m.length := h2;omega
  obtain ⟨k, hkk⟩ := Int.eq_ofNat_of_zero_le (show 0 ≤ dD m[j]!.stk t from h4)
  have huk : m[j]!.stk[k]!.uq = true := by
   have h : m[j]!.stk[(dD m[j]!.stk t).toNat]!.uq = true := hu rfl
   rwa [hkk, Int.toNat_natCast] at h
  have htw := uJ m j t k m.length hm rfl hj hkk h3 huk
  have hrl : (m[j]!.stk.take (k + 1)).length = k + 1 := by
   have hb := e9 m[j]!.stk t
   rw [List.length_take]; omega
  have hol := eB (m := m) (j := j) (X := .own (0 + 1 + 2) 0 (k + 1) 2)
  have hls : (m.set j { m[j]! with alive := false }).length = m.length := List.length_set
  (refine aS Tryz.func188 rfl (by simp [Tryz.ntmps188]) ?_; rw [Tryz.ntmps188])
  repeat' (first|(apply aL;first|((apply oQ (j := j));(case ha0 => rfl);(case hmc => exact sT m j hm hj);(case hM|hN => rfl))|((apply wM (m := m) (j := j) (t := t) (k := k) (n := m.length));(case ha0|ha1|ha2|hH0|hH1|hdd => rfl);(case hmc => exact htw);(case hM|hN => rfl))|(apply aW;rfl;rfl;rfl;rfl;rfl;(rw [aP]; simp only [List.length_append, List.length_cons, List.length_nil]; omega);exact H7 hj)|(apply aE;rfl;rfl)|(first|(apply aN;rfl;rfl;rfl;rfl)|(apply aV;rfl;rfl;(exact (rfl:_=[_, _]));rfl;rfl;rfl))|(apply aD;rfl;rfl;rfl)|(apply aU;rfl;rfl;rfl;rfl)|(apply aC;rfl;rfl)|(apply cH;rfl;rfl;(assumption);rfl)|(apply aF;kernel_rfl)|(apply bH;rfl;rfl;rfl;rfl))|(apply aM;first|apply aH|apply aB|(apply cB;rfl;(rfl))|apply aR)|with_reducible apply aA)
  refine cD (Le.cls (o := 2) (q := 3) (j := j) (k := k + 1) (m := m.set j { m[j]! with alive := false }) (r := m[j]!.stk.take (k + 1)) rfl rfl hrl.symm (by rw [hls]; exact hj) (by decide)) ?_
  refine cD (Le.frzD (d := 4) (i := 2) rfl rfl) ?_
  rw [lU hj, set_set]
  refine aO (l := [.imm m.length (aI c6 (m.set j { m[j]! with alive := false, stk := m[j]!.stk.take (k + 1) })), iv 0]) rfl ?_
  have eM : iL m ⟨j, t⟩ = m.set j { m[j]! with alive := false, stk := m[j]!.stk.take (k + 1) } := by
   unfold iL jE;rw [if_pos hk]; dsimp only
   rw [Int.toNat_natCast, hkk, Int.toNat_natCast]; unfold fT;rw [if_pos rfl]
  rw [eM, hk, fU (by rw [List.length_set])]
  exact ⟨rfl, by (exact Pur.pf)⟩
 ·(refine aS Tryz.func188 rfl (by simp [Tryz.ntmps188]) ?_; rw [Tryz.ntmps188])
  repeat' (first|(apply aL;first|(apply iW;rfl;exact kV m hm;rfl;rfl)|((apply mV (m := m) (x := x) (wr := true) (n := m.length));(case ha0|ha1|ha2|hH0 => rfl);(case hmc => exact oC m x true _ hm rfl hk);(case hM|hN => rfl))|(apply aE;rfl;rfl)|(apply aV;rfl;rfl;(exact (rfl:_=[_, _]));rfl;rfl;rfl)|(apply aU;rfl;rfl;rfl;rfl)|(apply aC;rfl;rfl)|(apply aF;kernel_rfl)|(apply bH;rfl;rfl;rfl;rfl))|(apply aM;first|apply aH|apply aB|(apply aQ;rfl;all_goals intro hc;have hq:=hc;(try simp only [cJ] at hq);try exfalso;omega)|apply aT|apply aR)|with_reducible apply aA)
  (refine cD (Le.frzD (d := 4) (i := 2) rfl rfl) ?_; refine aO rfl ?_)
  refine ⟨?_, by (exact Pur.pf)⟩
  simp only [b0]
  unfold iL;rw [if_neg hk]
theorem yV (m : List Cl) (hm : OkM m) (x : Pt) (v : Int) : PC Tryz.prog 135 [sl c6 m, nB x, iv v] (fun r => r = .tup [sl c6 (nT m x v), iv (oO m x v)]) := by
 have hml := hm.l
 by_cases hv : 0 ≤ v ∧ v ≤ 9
 case neg =>
  have hwk : oO m x v = 4 := by unfold oO;rw [if_neg hv]
  have e : nT m x v = m := by unfold nT;rw [if_neg (by rw [hwk]; decide)]
  (refine aS Tryz.func135 rfl (by simp [Tryz.ntmps135]) ?_; rw [Tryz.ntmps135])
  repeat' (first|(apply aL;first|(apply iW;rfl;exact kV m hm;rfl;rfl)|(apply aE;rfl;rfl)|(apply aC;rfl;rfl)|((with_reducible apply aJ (k := 84));(case ha => rfl);(case h => (apply eL <;> (fail)));(case hp => (rfl));(case hN => rfl))|(apply aF;kernel_rfl)|(apply cF;rfl;rfl)|(apply bH;rfl;rfl;rfl;rfl))|(apply aM;first|apply aH|apply aB|(apply aQ;rfl;all_goals intro hc;have hq:=hc;(try simp only [cJ] at hq);try exfalso;omega)|apply aR)|with_reducible apply aA|with_reducible apply bG)
  all_goals (try (exfalso;omega))
  all_goals (
   (refine cD (Le.frzD (d := 6) (i := 2) rfl rfl) ?_; refine aO rfl ?_)
   refine ⟨?_, by (exact Pur.pf)⟩
   simp only [b0]
   rw [e, hwk])
 case pos =>
 have hwk : oO m x v = cK m x true := by unfold oO;rw [if_pos hv]
 by_cases hk : cK m x true = 0
 ·obtain ⟨c, t⟩ := x
  obtain ⟨h1, h2, h3, h4, hu⟩ := eW hk
  obtain ⟨j, rfl⟩ := Int.eq_ofNat_of_zero_le (show 0 ≤ c from h1)
  have hj : j < m.length := by have : (j : Int) < m.length := h2;omega
  obtain ⟨k, hkk⟩ := Int.eq_ofNat_of_zero_le (show 0 ≤ dD m[j]!.stk t from h4)
  have huk : m[j]!.stk[k]!.uq = true := by
   have h : m[j]!.stk[(dD m[j]!.stk t).toNat]!.uq = true := hu rfl
   rwa [hkk, Int.toNat_natCast] at h
  have htw := uJ m j t k m.length hm rfl hj hkk h3 huk
  have hrl : (m[j]!.stk.take (k + 1)).length = k + 1 := by
   have hb := e9 m[j]!.stk t
   rw [List.length_take]; omega
  have hol := eB (m := m) (j := j) (X := .own (0 + 1 + 2) 0 (k + 1) 2)
  have hls : (m.set j { m[j]! with val := v }).length = m.length := List.length_set
  (refine aS Tryz.func135 rfl (by simp [Tryz.ntmps135]) ?_; rw [Tryz.ntmps135])
  repeat' (first|(apply aL;first|((apply oQ (j := j));(case ha0 => rfl);(case hmc => exact sT m j hm hj);(case hM|hN => rfl))|((apply wM (m := m) (j := j) (t := t) (k := k) (n := m.length));(case ha0|ha1|ha2|hH0|hH1|hdd => rfl);(case hmc => exact htw);(case hM|hN => rfl))|(apply aW;rfl;rfl;rfl;rfl;rfl;(rw [aP]; simp only [List.length_append, List.length_cons, List.length_nil]; omega);exact Iq hj)|(apply aE;rfl;rfl)|(first|(apply aN;rfl;rfl;rfl;rfl)|(apply aV;rfl;rfl;(exact (rfl:_=[_, _]));rfl;rfl;rfl))|(apply aD;rfl;rfl;rfl)|(apply aU;rfl;rfl;rfl;rfl)|(apply aC;rfl;rfl)|(apply cH;rfl;rfl;(assumption);rfl)|((with_reducible apply aJ (k := 84));(case ha => rfl);(case h => (apply eL <;> (fail)));(case hp => (rfl));(case hN => rfl))|(apply aF;kernel_rfl)|(apply cF;rfl;rfl)|(apply bH;rfl;rfl;rfl;rfl))|(apply aM;first|apply aH|apply aB|(apply cB;rfl;(rfl))|(apply aQ;rfl;all_goals intro hc;have hq:=hc;(try simp only [cJ] at hq);try exfalso;omega)|apply aT|apply aR)|with_reducible apply aA)
  refine cD (Le.cls (o := 2) (q := 3) (j := j) (k := k + 1) (m := m.set j { m[j]! with val := v }) (r := m[j]!.stk.take (k + 1)) rfl rfl hrl.symm (by rw [hls]; exact hj) (by decide)) ?_
  refine cD (Le.frzD (d := 6) (i := 2) rfl rfl) ?_
  rw [lU hj, set_set]
  refine aO (l := [.imm m.length (aI c6 (m.set j { m[j]! with val := v, stk := m[j]!.stk.take (k + 1) })), iv 0]) rfl ?_
  have eM : nT m ⟨j, t⟩ v = m.set j { m[j]! with val := v, stk := m[j]!.stk.take (k + 1) } := by
   unfold nT jE;rw [hwk, if_pos hk]; dsimp only
   rw [Int.toNat_natCast, hkk, Int.toNat_natCast]; unfold fT;rw [if_pos rfl]
  rw [eM, hwk, hk, fU (by rw [List.length_set])]
  exact ⟨rfl, by (exact Pur.pf)⟩
 ·(refine aS Tryz.func135 rfl (by simp [Tryz.ntmps135]) ?_; rw [Tryz.ntmps135])
  repeat' (first|(apply aL;first|(apply iW;rfl;exact kV m hm;rfl;rfl)|((apply mV (m := m) (x := x) (wr := true) (n := m.length));(case ha0|ha1|ha2|hH0 => rfl);(case hmc => exact oC m x true _ hm rfl hk);(case hM|hN => rfl))|(apply aE;rfl;rfl)|(apply aV;rfl;rfl;(exact (rfl:_=[_, _]));rfl;rfl;rfl)|(apply aU;rfl;rfl;rfl;rfl)|(apply aC;rfl;rfl)|((with_reducible apply aJ (k := 84));(case ha => rfl);(case h => (apply eL <;> (fail)));(case hp => (rfl));(case hN => rfl))|(apply aF;kernel_rfl)|(apply cF;rfl;rfl)|(apply bH;rfl;rfl;rfl;rfl))|(apply aM;first|apply aH|apply aB|(apply aQ;rfl;all_goals intro hc;have hq:=hc;(try simp only [cJ] at hq);try exfalso;omega)|apply aT|apply aR)|with_reducible apply aA)
  (refine cD (Le.frzD (d := 6) (i := 2) rfl rfl) ?_; refine aO rfl ?_)
  refine ⟨?_, by (exact Pur.pf)⟩
  simp only [b0]
  unfold nT;rw [hwk, if_neg hk]
theorem Cr (m : List Cl) (hm : OkM m) (v : Int) : PC Tryz.prog 185 [sl c6 m, iv v] (fun r => r = .tup [sl c6 (m ++ [n7 v]), .agg [iv m.length, iv 0]]) := by
 have hml := hm.l
 (refine aS Tryz.func185 rfl (by simp [Tryz.ntmps185]) ?_; rw [Tryz.ntmps185])
 repeat' (first|(apply aL;first|(apply iW;rfl;exact kV m hm;rfl;rfl)|(apply aE;rfl;rfl)|(apply aC;rfl;rfl)|(first|(apply bI;rfl;rfl;rfl)|(apply bW;rfl;rfl;rfl;rfl;rfl;(rw [aP]; omega);(rfl);omega;omega;(rfl);rfl;rfl))|(apply aF;kernel_rfl)|(apply b8;rfl;(first|exact (rfl:_=some [_, _])|exact (rfl:_=some [_, _, _, _]));(first|exact (rfl:_=[_, _])|exact (rfl:_=[_, _, _, _]));rfl)|(apply a6;rfl;rfl)|((apply bE (t := _));(case hze|hsm|hl => rfl);(case hfl => (first|exact (rfl:_=some [_, _])|exact (rfl:_=some [_, _, _, _])));(case hM|hN => rfl))|(apply aW;rfl;rfl;rfl;rfl;rfl;(case hl => (simp;done));(exact (rfl:_=[_, _]))))|(apply aM;first|apply aH|apply aB|apply aR)|with_reducible apply aA)
 have e2 : AV.imm (m.length + 1) (((aI c6 m).drop 0).take (m.length * 4) ++ [iv v, bv true, iv 1, .imm 1 [iv 0, bv true]]) = sl c6 (m ++ [n7 v]) := by
  have e : ((aI c6 m).drop 0).take (m.length * 4) ++ [iv v, bv true, iv 1, .imm 1 [iv 0, bv true]] = aI c6 (m ++ [n7 v]) := gP rfl rfl
  rw [e]; exact fU (by rw [List.length_append]; rfl)
 refine cD (Le.frzD (d := 4) (i := 5) rfl rfl) ?_
 refine aO (l := [AV.imm (m.length + 1) (((aI c6 m).drop 0).take (m.length * 4) ++ [iv v, bv true, iv 1, .imm 1 [iv 0, bv true]]), .agg [iv m.length, iv 0]]) rfl ?_
 rw [e2]
 exact ⟨rfl, by (exact Pur.pf)⟩
theorem Ch (m : List Cl) (hm : OkM m) (v : Int) : PC Tryz.prog 130 [sl c6 m, iv v] (fun r => r = .tup (if 0 ≤ v ∧ v ≤ 9 ∧ m.length < 200 then [sl c6 (m ++ [n7 v]), .agg [iv m.length, iv 0], bv true] else [sl c6 [], .agg [iv 0, iv 0], bv false])) := by
 have hml := hm.l
 have hcv := iT m hm
 have hnc := Cr m hm v
 (refine aS Tryz.func130 rfl (by simp [Tryz.ntmps130]) ?_; rw [Tryz.ntmps130])
 repeat' (first|(apply aL;first|((with_reducible apply aJ (k := 184));(case ha => rfl);(case h => exact hcv);(case hp => (exact Pur.pf));(case hN => rfl))|((with_reducible apply aJ (k := 185));(case ha => rfl);(case h => exact hnc);(case hp => (exact Pur.pf));(case hN => rfl))|(apply aE;rfl;rfl)|(apply aV;rfl;rfl;(exact (rfl:_=[_, _]));rfl;rfl;rfl)|(first|(apply a8;rfl;rfl;rfl;(first|rfl|assumption))|(apply bC;rfl;rfl;rfl;(assumption))|(apply bR;(case hj|hb|hN => rfl);all_goals (intro hg;have hq := hg;(try simp only [cJ] at hq);(try (exfalso;omega)))))|(apply aU;rfl;rfl;rfl;rfl)|(apply aC;rfl;rfl)|(first|(apply bY;rfl;(assumption);rfl;rfl)|(apply bQ;rfl;(first|rfl|assumption);rfl;rfl))|((with_reducible apply aJ (k := 84));(case ha => rfl);(case h => (apply eL <;> (fail)));(case hp => (rfl));(case hN => rfl))|(apply bI;rfl;rfl;rfl)|(apply aF;kernel_rfl)|(apply b8;rfl;(exact (rfl:_=some [_, _]));(exact (rfl:_=[_, _]));rfl)|(apply cF;rfl;rfl)|(apply a6;rfl;rfl)|(apply bD;rfl;rfl;rfl)|(apply aW;rfl;rfl;rfl;rfl;rfl;(case hl => (first|decide|(simp;done)));(exact (rfl:_=[_, _]))))|(apply aM;first|apply aH|apply aB|(apply bV;kernel_rfl)|(apply cB;rfl;(rfl))|(apply aQ;rfl;all_goals intro hc;have hq:=hc;(try simp only [cJ] at hq);try exfalso;omega)|apply aT|apply aR)|with_reducible apply aA|with_reducible apply bG)
 ·refine cD (Le.nilImm (d := 4) rfl) ?_
  exact aO (l := [sl c6 [], .agg [iv 0, iv 0], bv false]) rfl ⟨by rw [if_neg (by omega)]; rfl, rfl⟩
 ·exact aO (l := [sl c6 (m ++ [n7 v]), .agg [iv m.length, iv 0], bv true]) rfl ⟨by rw [if_pos (by omega)]; rfl, by (exact Pur.pf)⟩
 ·refine cD (Le.nilImm (d := 4) rfl) ?_
  exact aO (l := [sl c6 [], .agg [iv 0, iv 0], bv false]) rfl ⟨by rw [if_neg (by omega)]; rfl, rfl⟩
theorem Ek {m : List Cl} {j : Nat} {t : Int} {r : List Tg} {n : Nat} {N : Nat} {Q : Exit → AS → Prop} {all : Array Oper} {rest : List Oper} {tsl : List (Nat × AV)} {hsl : List (Nat × Option (List AV))} {nidl : Nat} {z0 : Lo} {md : Md} {d : Nat} {ty : TypeId} {pos : String} {af : Array Edge} {tys : Array TypeId} {x0 x1 x2 : Operand} {i0 i1 : Nat} (ha0 : ev (lk tsl) x0 = some (.own i0 0 n 4)) (ha1 : ev (lk tsl) x1 = some (.agg [iv (j : Int), iv t])) (ha2 : ev (lk tsl) x2 = some (bv true)) (hH0 : cO hsl i0 = some (aI fW (eE m j (.own i1 0 m[j]!.stk.length 2)))) (hH1 : cO hsl i1 = some (aI dL m[j]!.stk)) (hdd : Go.AL.distinct [i0, i1] = true) (hmc : MC Tryz.prog 187 [.own 0 0 n 4, .agg [iv (j : Int), iv t], bv true] [(0, some (aI fW (eE m j (.own 1 0 m[j]!.stk.length 2)))), (1, some (aI dL m[j]!.stk))] 2 (fun _ : Unit => True) (fun _ => iv 0) (fun _ => [(0, some (aI fW (eE m j (.own 1 0 r.length 2)))), (1, some (aI dL r))])) (hM : Nat.ble (nidl + 0) eZ = true) (hN : Nat.blt d N = true) {md' : Md} [hmd : MdA md (gK [x0, x1, x2] ++ [.inr i0, .inr i1]) (List.map Sum.inr (List.map Prod.fst ([(i0, some (aI fW (eE m j (.own i1 0 r.length 2)))), (i1, some (aI dL r))] : List (Nat × Option (List AV)))) ++ [.inl d]) md'] (kk : RW Tryz.prog N all Q md' rest ⟨(d, iv 0) :: tsl, iD hsl [(i0, some (aI fW (eE m j (.own i1 0 r.length 2)))), (i1, some (aI dL r))], nidl + 0, z0⟩) : RW Tryz.prog N all Q md (⟨some d, .call ⟨.value (.func 187), #[x0, x1, x2], tys⟩, ty, pos, af, none⟩ :: rest) ⟨tsl, hsl, nidl, z0⟩ := by
 refine cE [i0, i1] 2 [(i0, some (aI fW (eE m j (.own i1 0 r.length 2)))), (i1, some (aI dL r))] hmc (avs := [.own i0 0 n 4, .agg [iv (j : Int), iv t], bv true]) ?_ hdd ?_ rfl ?_ (by simpa using hM) ?_ ?_ ?_ hN (md' := md') (hmd := hmd) kk
 ·show evL (lk tsl) [x0, x1, x2] = _
  simp only [evL, ha0, ha1, ha2]
 ·exact ⟨⟨_, _, rfl, hH0, by (repeat' (exact kU rfl))⟩, ⟨⟨_, _, rfl, hH1, by (repeat' (exact RnL.purI inferInstance))⟩, trivial⟩⟩
 ·(repeat' (first|exact RnL.purI inferInstance|exact RnV.own rfl|refine RnL.cons ?_ ?_))
 ·(repeat' (exact RnV.purI inferInstance))
 ·simp [dJ]
 ·(repeat' (first|exact trivial|(refine And.intro ⟨0, _, rfl, rfl, ?_⟩ ?_)|(refine And.intro ⟨1, _, rfl, rfl, ?_⟩ ?_)|exact RnL.purI inferInstance|exact kU rfl))
theorem GJ (m : List Cl) (j : Nat) (t : Int) (r : List Tg) (k n : Nat) (hm : OkM m) (hn : n = m.length) (hj : j < m.length) (hk : dD m[j]!.stk t = (k : Int)) (hal : m[j]!.alive = true) (hu : m[j]!.stk[k]!.uq = true) (hre : m[j]!.stk.take (k + 1) = r) (hrk : k + 1 = r.length) : MC Tryz.prog 187 [.own 0 0 n 4, .agg [iv (j : Int), iv t], bv true] [(0, some (aI fW (eE m j (.own 1 0 m[j]!.stk.length 2)))), (1, some (aI dL m[j]!.stk))] 2 (fun _ : Unit => True) (fun _ => iv 0) (fun _ => [(0, some (aI fW (eE m j (.own 1 0 r.length 2)))), (1, some (aI dL r))]) := by
 have h := uJ m j t k n hm hn hj hk hal hu
 rw [hre, hrk] at h
 exact h
theorem IP (m : List Cl) (hm : OkM m) (j k : Nat) (t : Int) (r : List Tg) (hj : j < m.length) (hkk : dD m[j]!.stk t = (k : Int)) (hk : cK m ⟨(j : Int), t⟩ false = 0) (hr : r = fT m[j]!.stk k false) : PC Tryz.prog 132 [sl c6 m, .agg [iv (j : Int), iv t], bv false] (fun z => z = .tup [sl c6 (kG m m j false r), nB (kD m j r), iv (kF m j r)]) := by
 have hml := hm.l
 obtain ⟨h1, h2, h3, h4, hu⟩ := eW hk
 have hc := ((dY m).1 hm).2 j hj
 have hb := e9 m[j]!.stk t
 have hrl : r.length ≤ 200 := by rw [hr]; exact Nat.le_trans tchS_sub.length_le hc.l.2
 have hnx := hc.n
 obtain ⟨_, e2, _⟩ := lX hk (r := r) (by rw [hr]; show _ = fT m[j]!.stk (dD m[j]!.stk t).toNat false;rw [hkk]; rfl)
 have e2' : kA m ⟨(j : Int), t⟩ false = kG m m j false r := e2
 have hok := hm.ln ⟨(j : Int), t⟩ false
 rw [e2'] at hok
 have hto := AF m j t r k m.length hm rfl hj hkk h3 hr
 have hog := iR (m := m) (j := j) (X := .own (0 + 1 + 1 + 3 + 3) 0 r.length 2) hj
 have hol := eB (m := m) (j := j) (X := .own (0 + 1 + 1 + 3 + 3) 0 r.length 2)
 have hol2 := eB (m := m) (j := j) (X := .own (0 + 1 + 1 + 3 + 4 + 1) 0 (r.length + 1) 2)
 have hm2 : (m.set j { m[j]! with next := m[j]!.next + 1 }).length = m.length := List.length_set
 (refine aS Tryz.func132 rfl (by simp [Tryz.ntmps132]) ?_; rw [Tryz.ntmps132])
 repeat' (first|(apply aL;first|((apply oQ (j := j));(case ha0 => rfl);(case hmc => exact sT m j hm hj);(case hM|hN => rfl))|((apply wW (m := m) (j := j) (t := t) (r := r) (n := m.length));(case ha0|ha1|ha2|hH0|hH1|hdd => rfl);(case hmc => exact hto);(case hM|hN => rfl))|(with_reducible apply cV (d := 32))|(apply aE;rfl;rfl)|(first|(apply cY;(case hx|hH => rfl);(case hf|hg|hα => infer_instance);(case hk => omega);(case hc|hN => rfl))|(apply aN;rfl;rfl;rfl;rfl)|(apply aV;rfl;rfl;(exact (rfl:_=[_, _]));rfl;rfl;rfl))|(apply aD;rfl;rfl;rfl)|(apply aU;rfl;rfl;rfl;rfl)|(apply aC;rfl;rfl)|(apply cH;rfl;rfl;(assumption);rfl)|(apply aF;kernel_rfl)|(apply cA;rfl;rfl;rfl)|(apply bH;rfl;rfl;rfl;rfl)|(apply a6;rfl;rfl))|(apply aM;first|apply aH|apply aB|(apply cG;rfl;(rfl))|apply aT)|with_reducible apply aA)
 refine dX ?_
 rw [hog]
 dsimp only
 by_cases hf : nS m j r
 ·have eM : kG m m j false r = m := by unfold kG; rw [if_pos hf]
  have eP : kD m j r = ⟨0, 0⟩ := by unfold kD;rw [if_pos hf]
  have eK : kF m j r = 4 := by unfold kF;rw [if_pos hf]
  rw [eM, eP, eK]
  unfold nS at hf
  repeat' (first|(apply aL;first|(apply iW;rfl;exact kV m hm;rfl;rfl)|(with_reducible apply cV (d := 44))|(apply aE;rfl;rfl)|(apply cY;(case hx|hH => rfl);(case hf|hg|hα => infer_instance);(case hk => omega);(case hc|hN => rfl))|(apply aD;rfl;rfl;rfl)|(first|(apply a8;rfl;rfl;rfl;(assumption))|(apply bC;rfl;rfl;rfl;(assumption))|(apply bR;(case hj|hb|hN => rfl);all_goals (intro hg;have hq := hg;(try simp only [cJ] at hq);(try (exfalso;omega)))))|(apply aU;rfl;rfl;rfl;rfl)|(apply aC;rfl;rfl)|(first|(apply bY;rfl;(assumption);rfl;rfl)|(apply bQ;rfl;(assumption);rfl;rfl))|(apply bI;rfl;rfl;rfl)|(apply aF;kernel_rfl)|(apply b8;rfl;(exact (rfl:_=some [_, _]));(exact (rfl:_=[_, _]));rfl)|(apply cA;rfl;rfl;rfl)|(apply aW;rfl;rfl;rfl;rfl;rfl;(decide);(exact (rfl:_=[_, _]))))|(apply aM;first|apply aH|apply aB|(apply cB;rfl;(rfl))|(apply aQ;rfl;all_goals intro hc;have hq:=hc;(try simp only [cJ] at hq);try exfalso;omega)|apply aT|apply aR)|with_reducible apply aA|with_reducible apply bG)
  ·refine cD (Le.frzD (d := 6) (i := 10) rfl rfl) ?_
   exact aO (l := [sl c6 m, .agg [iv 0, iv 0], iv 4]) rfl ⟨rfl, by (exact Pur.pf)⟩
  ·exfalso
   have h : ¬ (eE m j (.own (0 + 1 + 1 + 3 + 3) 0 r.length 2))[j]!.next = 1000 := by assumption
   rw [hog] at h
   dsimp only at h
   omega
  ·refine cD (Le.frzD (d := 6) (i := 10) rfl rfl) ?_
   exact aO (l := [sl c6 m, .agg [iv 0, iv 0], iv 4]) rfl ⟨rfl, by (exact Pur.pf)⟩
 ·have eM : kG m m j false r = m.set j (psh { m[j]! with stk := r } false) := by unfold kG; rw [if_neg hf]
  have eP : kD m j r = ⟨j, m[j]!.next⟩ := by unfold kD;rw [if_neg hf]
  have eK : kF m j r = 0 := by unfold kF;rw [if_neg hf]
  rw [eM] at hok
  rw [eM, eP, eK]
  unfold nS at hf
  have hown := kV _ hok
  repeat' (first|(apply aL;first|(with_reducible apply cV (d := 41))|(with_reducible apply cV (d := 54))|(apply aE;rfl;rfl)|(apply cY;(case hx|hH => rfl);(case hf|hg|hα => infer_instance);(case hk => omega);(case hc|hN => rfl))|(apply aD;rfl;rfl;rfl)|(first|(apply a8;rfl;rfl;rfl;(assumption))|(apply bR;(case hj|hb|hN => rfl);all_goals (intro hg;have hq := hg;(try simp only [cJ] at hq);(try (exfalso;omega)))))|(apply aU;rfl;rfl;rfl;rfl)|(apply aC;rfl;rfl)|(apply bQ;rfl;(assumption);rfl;rfl)|(apply bI;rfl;rfl;rfl)|(apply aF;kernel_rfl)|(apply cA;rfl;rfl;rfl))|(apply aM;first|apply aH|apply aB|(apply aQ;rfl;all_goals intro hc;have hq:=hc;(try simp only [cJ] at hq);try exfalso;omega)|apply aT)|with_reducible apply aA)
  ·exfalso
   have h : (eE m j (.own (0 + 1 + 1 + 3 + 3) 0 r.length 2))[j]!.next = 1000 := by assumption
   rw [hog] at h
   dsimp only at h
   omega
  ·refine dX ?_
   rw [hog]
   dsimp only
   repeat' (first|(apply aL;first|(apply aW;rfl;rfl;rfl;rfl;rfl;(rw [aP, eB]; simp only [List.length_append, List.length_cons, List.length_nil]; omega);(first|exact uA hj|exact yB hj))|(apply aE;rfl;rfl)|(apply aD;rfl;rfl;rfl)|(apply bS;rfl;rfl;omega;rfl)|(apply bW;rfl;rfl;rfl;rfl;rfl;(rw [aP]; omega);(rfl);omega;omega;(exact uG (by (omega)));rfl;rfl)|(apply aF;kernel_rfl)|(apply b8;rfl;(exact (rfl:_=some [_, _]));(exact (rfl:_=[_, _]));rfl)|(apply cA;rfl;rfl;rfl)|((apply bE (t := _));(case hze|hsm|hl => rfl);(case hfl => (exact (rfl:_=some [_, _])));(case hM|hN => rfl)))|(apply aM;(apply aH))|with_reducible apply aA)
   refine AW.le ?_ (Le.cls (o := 3) (q := 0 + 1 + 1 + 3 + 4 + 1) (j := j) (k := r.length + 1) (m := m.set j { m[j]! with next := m[j]!.next + 1 }) (r := r ++ [⟨m[j]!.next, false⟩]) rfl rfl (by (rw [List.length_append]; rfl)) (by omega) (by decide))
   refine AW.le ?_ (Le.frzD (d := 9) (i := 3) rfl rfl)
   have e : (m.set j { m[j]! with next := m[j]!.next + 1 }).set j { (m.set j { m[j]! with next := m[j]!.next + 1 })[j]! with stk := r ++ [⟨m[j]!.next, false⟩] } = m.set j (psh { m[j]! with stk := r } false) := by
    rw [lU hj, set_set]; rfl
   rw [e, fU (f := c6) (xs := m.set j (psh { m[j]! with stk := r } false)) (by rw [List.length_set])]
   repeat' (first|(apply aL;first|(apply iW;rfl;exact hown;rfl;rfl)|(apply aE;rfl;rfl)|(apply aN;rfl;rfl;rfl;rfl)|(apply aD;rfl;rfl;rfl)|(apply aC;rfl;rfl)|(apply aF;kernel_rfl)|(apply b8;rfl;(exact (rfl:_=some [_, _]));(exact (rfl:_=[_, _]));rfl)|(apply aW;rfl;rfl;rfl;rfl;rfl;(case hl => (simp;done));(exact (rfl:_=[_, _]))))|(apply aM;first|(apply bV;kernel_rfl)|apply aR)|with_reducible apply aA)
   refine cD (Le.frzD (d := 6) (i := 12) rfl rfl) ?_
   exact aO (l := [sl c6 (m.set j (psh { m[j]! with stk := r } false)), .agg [iv (j : Int), iv m[j]!.next], iv 0]) rfl ⟨rfl, by (exact Pur.pf)⟩
  all_goals (exfalso;omega)
theorem IY (m : List Cl) (hm : OkM m) (j k : Nat) (t : Int) (r : List Tg) (hj : j < m.length) (hkk : dD m[j]!.stk t = (k : Int)) (hk : cK m ⟨(j : Int), t⟩ true = 0) (hr : r = fT m[j]!.stk k true) : PC Tryz.prog 132 [sl c6 m, .agg [iv (j : Int), iv t], bv true] (fun z => z = .tup [sl c6 (kG m m j true r), nB (kD m j r), iv (kF m j r)]) := by
 have hml := hm.l
 obtain ⟨h1, h2, h3, h4, hu⟩ := eW hk
 have hc := ((dY m).1 hm).2 j hj
 have hb := e9 m[j]!.stk t
 have hrl : r.length ≤ 200 := by rw [hr]; exact Nat.le_trans tchS_sub.length_le hc.l.2
 have hnx := hc.n
 obtain ⟨_, e2, _⟩ := lX hk (r := r) (by rw [hr]; show _ = fT m[j]!.stk (dD m[j]!.stk t).toNat true;rw [hkk]; rfl)
 have e2' : kA m ⟨(j : Int), t⟩ true = kG m m j true r := e2
 have hok := hm.ln ⟨(j : Int), t⟩ true
 rw [e2'] at hok
 have huk : m[j]!.stk[k]!.uq = true := by
  have h : m[j]!.stk[(dD m[j]!.stk t).toNat]!.uq = true := hu rfl
  rwa [hkk, Int.toNat_natCast] at h
 have hre : m[j]!.stk.take (k + 1) = r := by rw [hr]; unfold fT;rw [if_pos rfl]
 have hrk : k + 1 = r.length := by rw [← hre, List.length_take]; omega
 have hto := GJ m j t r k m.length hm rfl hj hkk h3 huk hre hrk
 clear hre hrk huk hu hr hkk
 have hog := iR (m := m) (j := j) (X := .own (0 + 1 + 1 + 2) 0 r.length 2) hj
 have hol := eB (m := m) (j := j) (X := .own (0 + 1 + 1 + 2) 0 r.length 2)
 have hol2 := eB (m := m) (j := j) (X := .own (0 + 1 + 1 + 3 + 0 + 1) 0 (r.length + 1) 2)
 have hm2 : (m.set j { m[j]! with next := m[j]!.next + 1 }).length = m.length := List.length_set
 (refine aS Tryz.func132 rfl (by simp [Tryz.ntmps132]) ?_; rw [Tryz.ntmps132])
 repeat' (first|(apply aL;first|((apply oQ (j := j));(case ha0 => rfl);(case hmc => exact sT m j hm hj);(case hM|hN => rfl))|((apply Ek (m := m) (j := j) (t := t) (r := r) (n := m.length));(case ha0|ha1|ha2|hH0|hH1|hdd => rfl);(case hmc => exact hto);(case hM|hN => rfl))|(with_reducible apply cV (d := 32))|(apply aE;rfl;rfl)|(first|(apply cY;(case hx|hH => rfl);(case hf|hg|hα => infer_instance);(case hk => omega);(case hc|hN => rfl))|(apply aN;rfl;rfl;rfl;rfl)|(apply aV;rfl;rfl;(exact (rfl:_=[_, _]));rfl;rfl;rfl))|(apply aD;rfl;rfl;rfl)|(apply aU;rfl;rfl;rfl;rfl)|(apply aC;rfl;rfl)|(apply cH;rfl;rfl;(assumption);rfl)|(apply aF;kernel_rfl)|(apply cA;rfl;rfl;rfl)|(apply bH;rfl;rfl;rfl;rfl)|(apply a6;rfl;rfl))|(apply aM;first|apply aH|apply aB|(apply cG;rfl;(rfl))|apply aT)|with_reducible apply aA)
 refine dX ?_
 rw [hog]
 dsimp only
 by_cases hf : nS m j r
 ·have eM : kG m m j true r = m := by unfold kG; rw [if_pos hf]
  have eP : kD m j r = ⟨0, 0⟩ := by unfold kD;rw [if_pos hf]
  have eK : kF m j r = 4 := by unfold kF;rw [if_pos hf]
  rw [eM, eP, eK]
  unfold nS at hf
  repeat' (first|(apply aL;first|(apply iW;rfl;exact kV m hm;rfl;rfl)|(with_reducible apply cV (d := 44))|(apply aE;rfl;rfl)|(apply cY;(case hx|hH => rfl);(case hf|hg|hα => infer_instance);(case hk => omega);(case hc|hN => rfl))|(apply aD;rfl;rfl;rfl)|(first|(apply a8;rfl;rfl;rfl;(assumption))|(apply bC;rfl;rfl;rfl;(assumption))|(apply bR;(case hj|hb|hN => rfl);all_goals (intro hg;have hq := hg;(try simp only [cJ] at hq);(try (exfalso;omega)))))|(apply aU;rfl;rfl;rfl;rfl)|(apply aC;rfl;rfl)|(first|(apply bY;rfl;(assumption);rfl;rfl)|(apply bQ;rfl;(assumption);rfl;rfl))|(apply bI;rfl;rfl;rfl)|(apply aF;kernel_rfl)|(apply b8;rfl;(exact (rfl:_=some [_, _]));(exact (rfl:_=[_, _]));rfl)|(apply cA;rfl;rfl;rfl)|(apply aW;rfl;rfl;rfl;rfl;rfl;(decide);(exact (rfl:_=[_, _]))))|(apply aM;first|apply aH|apply aB|(apply cB;rfl;(rfl))|(apply aQ;rfl;all_goals intro hc;have hq:=hc;(try simp only [cJ] at hq);try exfalso;omega)|apply aT|apply aR)|with_reducible apply aA|with_reducible apply bG)
  ·refine cD (Le.frzD (d := 6) (i := 6) rfl rfl) ?_
   exact aO (l := [sl c6 m, .agg [iv 0, iv 0], iv 4]) rfl ⟨rfl, by (exact Pur.pf)⟩
  ·exfalso
   have h : ¬ (eE m j (.own (0 + 1 + 1 + 2) 0 r.length 2))[j]!.next = 1000 := by assumption
   rw [hog] at h
   dsimp only at h
   omega
  ·refine cD (Le.frzD (d := 6) (i := 6) rfl rfl) ?_
   exact aO (l := [sl c6 m, .agg [iv 0, iv 0], iv 4]) rfl ⟨rfl, by (exact Pur.pf)⟩
 ·have eM : kG m m j true r = m.set j (psh { m[j]! with stk := r } true) := by unfold kG; rw [if_neg hf]
  have eP : kD m j r = ⟨j, m[j]!.next⟩ := by unfold kD;rw [if_neg hf]
  have eK : kF m j r = 0 := by unfold kF;rw [if_neg hf]
  rw [eM] at hok
  rw [eM, eP, eK]
  unfold nS at hf
  have hown := kV _ hok
  repeat' (first|(apply aL;first|(with_reducible apply cV (d := 41))|(with_reducible apply cV (d := 54))|(apply aE;rfl;rfl)|(apply cY;(case hx|hH => rfl);(case hf|hg|hα => infer_instance);(case hk => omega);(case hc|hN => rfl))|(apply aD;rfl;rfl;rfl)|(first|(apply a8;rfl;rfl;rfl;(assumption))|(apply bR;(case hj|hb|hN => rfl);all_goals (intro hg;have hq := hg;(try simp only [cJ] at hq);(try (exfalso;omega)))))|(apply aU;rfl;rfl;rfl;rfl)|(apply aC;rfl;rfl)|(apply bQ;rfl;(assumption);rfl;rfl)|(apply bI;rfl;rfl;rfl)|(apply aF;kernel_rfl)|(apply cA;rfl;rfl;rfl))|(apply aM;first|apply aH|apply aB|(apply aQ;rfl;all_goals intro hc;have hq:=hc;(try simp only [cJ] at hq);try exfalso;omega)|apply aT)|with_reducible apply aA)
  ·exfalso
   have h : (eE m j (.own (0 + 1 + 1 + 2) 0 r.length 2))[j]!.next = 1000 := by assumption
   rw [hog] at h
   dsimp only at h
   omega
  ·refine dX ?_
   rw [hog]
   dsimp only
   repeat' (first|(apply aL;first|(apply aW;rfl;rfl;rfl;rfl;rfl;(rw [aP, eB]; simp only [List.length_append, List.length_cons, List.length_nil]; omega);(first|exact uA hj|exact yB hj))|(apply aE;rfl;rfl)|(apply aD;rfl;rfl;rfl)|(apply bS;rfl;rfl;omega;rfl)|(apply bW;rfl;rfl;rfl;rfl;rfl;(rw [aP]; omega);(rfl);omega;omega;(exact uG (by (omega)));rfl;rfl)|(apply aF;kernel_rfl)|(apply b8;rfl;(exact (rfl:_=some [_, _]));(exact (rfl:_=[_, _]));rfl)|(apply cA;rfl;rfl;rfl)|((apply bE (t := _));(case hze|hsm|hl => rfl);(case hfl => (exact (rfl:_=some [_, _])));(case hM|hN => rfl)))|(apply aM;(apply aH))|with_reducible apply aA)
   refine AW.le ?_ (Le.cls (o := 3) (q := 0 + 1 + 1 + 3 + 0 + 1) (j := j) (k := r.length + 1) (m := m.set j { m[j]! with next := m[j]!.next + 1 }) (r := r ++ [⟨m[j]!.next, true⟩]) rfl rfl (by (rw [List.length_append]; rfl)) (by omega) (by decide))
   refine AW.le ?_ (Le.frzD (d := 9) (i := 3) rfl rfl)
   have e : (m.set j { m[j]! with next := m[j]!.next + 1 }).set j { (m.set j { m[j]! with next := m[j]!.next + 1 })[j]! with stk := r ++ [⟨m[j]!.next, true⟩] } = m.set j (psh { m[j]! with stk := r } true) := by
    rw [lU hj, set_set]; rfl
   rw [e, fU (f := c6) (xs := m.set j (psh { m[j]! with stk := r } true)) (by rw [List.length_set])]
   repeat' (first|(apply aL;first|(apply iW;rfl;exact hown;rfl;rfl)|(apply aE;rfl;rfl)|(apply aN;rfl;rfl;rfl;rfl)|(apply aD;rfl;rfl;rfl)|(apply aC;rfl;rfl)|(apply aF;kernel_rfl)|(apply b8;rfl;(exact (rfl:_=some [_, _]));(exact (rfl:_=[_, _]));rfl)|(apply aW;rfl;rfl;rfl;rfl;rfl;(case hl => (simp;done));(exact (rfl:_=[_, _]))))|(apply aM;first|(apply bV;kernel_rfl)|apply aR)|with_reducible apply aA)
   refine cD (Le.frzD (d := 6) (i := 8) rfl rfl) ?_
   exact aO (l := [sl c6 (m.set j (psh { m[j]! with stk := r } true)), .agg [iv (j : Int), iv m[j]!.next], iv 0]) rfl ⟨rfl, by (exact Pur.pf)⟩
  all_goals (exfalso;omega)
theorem Jb (m : List Cl) (hm : OkM m) (x : Pt) (u : Bool) : PC Tryz.prog 132 [sl c6 m, nB x, bv u] (fun r => r = .tup [sl c6 (kA m x u), nB (oB m x u), iv (kY m x u)]) := by
 have hml := hm.l
 by_cases hk : cK m x u = 0
 ·obtain ⟨c, t⟩ := x
  obtain ⟨h1, h2, h3, h4, hu⟩ := eW hk
  obtain ⟨j, rfl⟩ := Int.eq_ofNat_of_zero_le (show 0 ≤ c from h1)
  have hj : j < m.length := by have : (j : Int) < m.length := h2;omega
  obtain ⟨k, hkk⟩ := Int.eq_ofNat_of_zero_le (show 0 ≤ dD m[j]!.stk t from h4)
  obtain ⟨r, hr⟩ : ∃ r, r = fT m[j]!.stk k u := ⟨_, rfl⟩
  obtain ⟨e1, e2, e3⟩ := lX hk (r := r) (by rw [hr]; show _ = fT m[j]!.stk (dD m[j]!.stk t).toNat u;rw [hkk]; rfl)
  rw [e1, e2, e3]
  cases u
  ·exact IP m hm j k t r hj hkk hk hr
  ·exact IY m hm j k t r hj hkk hk hr
 ·obtain ⟨e1, e2, e3⟩ := Fh hk
  rw [e1, e2, e3]
  (refine aS Tryz.func132 rfl (by simp [Tryz.ntmps132]) ?_; rw [Tryz.ntmps132])
  repeat' (first|(apply aL;first|(apply iW;rfl;exact kV m hm;rfl;rfl)|((apply mV (m := m) (x := x) (wr := u) (n := m.length));(case ha0|ha1|ha2|hH0 => rfl);(case hmc => exact oC m x u _ hm rfl hk);(case hM|hN => rfl))|(apply aE;rfl;rfl)|(apply aV;rfl;rfl;(exact (rfl:_=[_, _]));rfl;rfl;rfl)|(apply aU;rfl;rfl;rfl;rfl)|(apply aC;rfl;rfl)|(apply aF;kernel_rfl)|(apply b8;rfl;(exact (rfl:_=some [_, _]));(exact (rfl:_=[_, _]));rfl)|(apply bH;rfl;rfl;rfl;rfl)|(apply a6;rfl;rfl)|(apply aW;rfl;rfl;rfl;rfl;rfl;(decide);(exact (rfl:_=[_, _]))))|(apply aM;first|apply aH|apply aB|(apply aQ;rfl;all_goals intro hc;have hq:=hc;(try simp only [cJ] at hq);try exfalso;omega)|apply aR)|with_reducible apply aA|with_reducible apply bG)
  refine cD (Le.frzD (d := 6) (i := 3) rfl rfl) ?_
  exact aO (l := [sl c6 m, .agg [iv 0, iv 0], iv (cK m x u)]) rfl ⟨rfl, by (exact Pur.pf)⟩
end Go.Proofs.YtckihjkcgfphmaaGreat
