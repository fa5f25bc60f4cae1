/-
 A part of the proofs over this program: rules and contracts of its functions (the contracts).
-/
import Derived.Test.YtckihjkcgfphmaaGreatP2B04
set_option linter.unusedVariables false
set_option linter.unusedSimpArgs false
set_option maxHeartbeats 8000000
set_option maxRecDepth 4000
attribute [local irreducible] Go.AL.RW Go.AL.AW Go.AL.Stop
namespace Go.Proofs.YtckihjkcgfphmaaGreat
open Go.AL Go.RowKit
theorem fX {m : List Cl} {N : Nat} {Q : Exit → AS → Prop} {all : Array Oper} {rest : List Oper} {tsl : List (Nat × AV)} {hsl : List (Nat × Option (List AV))} {nidl : Nat} {z0 : Lo} {md : Md} {d : Nat} {ty : TypeId} {pos : String} {af : Array Edge} {tys : Array TypeId} {x0 : Operand} (ha0 : ev (lk tsl) x0 = some (sl cK m)) (hmc : MC Tryz.prog 186 [sl cK m] [] 0 (fun _ : Unit => True) (fun _ => .own 1 0 m.length 4) (fun _ => [(1, some (aI cK m))])) (hM : Nat.ble (nidl + 2) dR = true) (hN : Nat.blt d N = true) {md' : Md} [hmd : MdA md (e7 [x0] ++ []) (List.map Sum.inr (List.map Prod.fst ([((nidl + 1), some (aI cK m))] : List (Nat × Option (List AV)))) ++ [.inl d]) md'] (kk : RW Tryz.prog N all Q md' rest ⟨(d, .own (nidl + 1) 0 m.length 4) :: tsl, fS hsl [((nidl + 1), some (aI cK m))], nidl + 2, z0⟩) : RW Tryz.prog N all Q md (⟨some d, .call ⟨.value (.func 186), #[x0], tys⟩, ty, pos, af, none⟩ :: rest) ⟨tsl, hsl, nidl, z0⟩ := by
 refine bP [] 2 [((nidl + 1), some (aI cK m))] hmc (avs := [sl cK m]) ?_ rfl ?_ rfl ?_ (by simpa using hM) ?_ ?_ ?_ hN (md' := md') (hmd := hmd) kk
 ·show evL (lk tsl) [x0] = _
  simp only [evL, ha0]
 ·exact trivial
 ·(repeat' (exact RnL.purI inferInstance))
 ·(repeat' (exact RnV.own rfl))
 ·simp [cZ]
 ·(repeat' (first|exact trivial|(refine And.intro ⟨1, _, rfl, rfl, ?_⟩ ?_)|exact RnL.purI inferInstance))
theorem l3 {m : List Cl} {j : Nat} {N : Nat} {Q : Exit → AS → Prop} {all : Array Oper} {rest : List Oper} {tsl : List (Nat × AV)} {hsl : List (Nat × Option (List AV))} {nidl : Nat} {z0 : Lo} {md : Md} {d : Nat} {ty : TypeId} {pos : String} {af : Array Edge} {tys : Array TypeId} {x0 : Operand} (ha0 : ev (lk tsl) x0 = some (sl cK m)) (hmc : MC Tryz.prog 186 [sl cK m] [] 0 (fun _ : Unit => True) (fun _ => .own 1 0 m.length 4) (fun _ => [(1, some (aI eO (dI m j (.own 2 0 m[j]!.stk.length 2)))), (2, some (aI c6 m[j]!.stk))])) (hM : Nat.ble (nidl + 3) dR = true) (hN : Nat.blt d N = true) {md' : Md} [hmd : MdA md (e7 [x0] ++ []) (List.map Sum.inr (List.map Prod.fst ([((nidl + 1), some (aI eO (dI m j (.own (nidl + 2) 0 m[j]!.stk.length 2)))), ((nidl + 2), some (aI c6 m[j]!.stk))] : List (Nat × Option (List AV)))) ++ [.inl d]) md'] (kk : RW Tryz.prog N all Q md' rest ⟨(d, .own (nidl + 1) 0 m.length 4) :: tsl, fS hsl [((nidl + 1), some (aI eO (dI m j (.own (nidl + 2) 0 m[j]!.stk.length 2)))), ((nidl + 2), some (aI c6 m[j]!.stk))], nidl + 3, z0⟩) : RW Tryz.prog N all Q md (⟨some d, .call ⟨.value (.func 186), #[x0], tys⟩, ty, pos, af, none⟩ :: rest) ⟨tsl, hsl, nidl, z0⟩ := by
 refine bP [] 3 [((nidl + 1), some (aI eO (dI m j (.own (nidl + 2) 0 m[j]!.stk.length 2)))), ((nidl + 2), some (aI c6 m[j]!.stk))] hmc (avs := [sl cK m]) ?_ rfl ?_ rfl ?_ (by simpa using hM) ?_ ?_ ?_ hN (md' := md') (hmd := hmd) kk
 ·show evL (lk tsl) [x0] = _
  simp only [evL, ha0]
 ·exact trivial
 ·(repeat' (exact RnL.purI inferInstance))
 ·(repeat' (exact RnV.own rfl))
 ·simp [cZ]
 ·(repeat' (first|exact trivial|(refine And.intro ⟨1, _, rfl, rfl, ?_⟩ ?_)|(refine And.intro ⟨2, _, rfl, rfl, ?_⟩ ?_)|exact RnL.purI inferInstance|exact iV rfl))
theorem lN {α : Type} [Inhabited α] (l : List α) (k : Nat) : l.set k l[k]! = l := by
 rcases Nat.lt_or_ge k l.length with h|h
 ·rw [cV _ _ h]; simp
 ·exact List.set_eq_of_length_le h
theorem yZ {m : List Cl} {i : Nat} (hi : i < m.length) : gO (aI cK m) (0 + i * 4 + 3) [sl c6 m[i]!.stk] = aI cK m := by
 have h := wJ (xs := m) (k := i) (s := m[i]!.stk) hi
 rw [show m.set i { m[i]! with stk := m[i]!.stk } = m from lN m i] at h
 exact h
theorem wW {m : List Cl} {i j : Nat} {X : AV} (hi : i < m.length) (h : i ≠ j) : (dI m j X)[i]! = m9 m[i]! := by
 unfold dI
 rw [cV _ _ (by rw [List.length_set, List.length_map]; exact hi), List.getElem_set_ne (fun e => h e.symm), List.getElem_map, cV _ _ hi]
theorem DT {m : List Cl} {i j : Nat} {X : AV} (h : i < m.length ∧ i ≠ j) : gO (aI eO (dI m j X)) (0 + i * 4 + 3) [sl c6 m[i]!.stk] = aI eO (dI m j X) := by
 have hl := dH (m := m) (j := j) (X := X)
 have e : (dI m j X).set i { (dI m j X)[i]! with av := sl c6 m[i]!.stk } = dI m j X := by
  rw [wW h.1 h.2]
  have : ({ m9 m[i]! with av := sl c6 m[i]!.stk } : Co) = (dI m j X)[i]! := by rw [wW h.1 h.2]; rfl
  rw [this]; exact lN _ _
 rw [← e]
 have := dZ (f := eO) (xs := dI m j X) (k := i) (j := 3) (new := [sl c6 m[i]!.stk]) (y := { (dI m j X)[i]! with av := sl c6 m[i]!.stk }) (by rw [hl]; exact h.1) (by simp) rfl
 rw [e] at this ⊢
 exact this
theorem lY {mp : List (Nat × Nat)} {lo : Lo} : ∀ {cs : List AV}, cO cs = true → All2 (pW mp lo) cs cs
 | [], _ => .nil
 | c :: cs, h => by
  simp only [cO, Bool.and_eq_true] at h
  exact .cons (.inl ⟨rfl, h.1⟩) (lY h.2)
theorem oM {α β : Type} {R : α → β → Prop} : ∀ {a : List α} {b : List β} {c : List α} {d : List β}, All2 R a b → All2 R c d → All2 R (a ++ c) (b ++ d)
 | _, _, _, _, .nil, h => h
 | _, _, _, _, .cons h1 h2, h => .cons h1 (oM h2 h)
theorem yE {mp : List (Nat × Nat)} {lo : Lo} {m : List Cl} {j k i i' : Nat} (h : j < m.length) (hr : Dw mp lo (.own i 0 k 2) = some (.own i' 0 k 2)) : All2 (pW mp lo) (aI eO (dI m j (.own i 0 k 2))) (aI eO (dI m j (.own i' 0 k 2))) := by
 rw [iA h, iA h]
 exact oM (lY (inferInstance : Pur (aI cK _)).pf) (oM (lY (inferInstance : Pur [iv _, bv _, iv _]).pf) (.cons (.inr hr) (lY (inferInstance : Pur (aI cK _)).pf)))
theorem iU (m : List Cl) (hm : OkM m) : MC Tryz.prog 186 [sl cK m] [] 0 (fun _ : Unit => True) (fun _ => .own 1 0 m.length 4) (fun _ => [(1, some (aI cK m))]) := by
 have hml := hm.l
 have hcc := uA m (by omega)
 (refine bK Tryz.func186 rfl (by simp [Tryz.ntmps186]) ?_; rw [Tryz.ntmps186])
 repeat' (first|(apply aL;first|(apply qV;rfl;exact hcc;rfl;rfl)|(apply aE;rfl;rfl)|(apply aC;rfl;rfl)|(apply bM;rfl;rfl;rfl)|(apply aF;kernel_rfl))|(apply aM;first|apply aH|apply aB|apply aN)|with_reducible apply aA)
 refine bL (σ := Nat) [3, 8, 9] [(3, _), (8, _), (9, _)] [] [] (fun k => [(10, iv (k : Int))]) (fun k => [(1, some (aI cK m))]) (fun k => k ≤ m.length) (fun k => m.length - k) (0) (Nat.zero_le _) rfl rfl (by repeat' (first|exact trivial|refine And.intro rfl ?_)) (by repeat' (first|exact trivial|refine And.intro (.inr rfl) ?_)) ?_
 rintro i hi
 by_cases hin : i < m.length
 ·have hst : m[i]!.stk.length ≤ 200 := (((dF m).1 hm).2 i hin).l.2
  have hct := vK m[i]!.stk (by omega)
  repeat' (first|(apply aL;first|(apply mP;rfl;exact hct;rfl;rfl)|(with_reducible apply cF (d := 20))|(apply aE;rfl;rfl)|(first|(apply fC;(case hx|hH => rfl);(case hf|hg|hα => infer_instance);(case hk => omega);(case h0|hN => rfl))|(apply aP;rfl;rfl;rfl;rfl))|(apply aD;rfl;rfl;rfl)|(apply aU;rfl;rfl;rfl;rfl)|(apply aC;rfl;rfl)|(apply cE;rfl;rfl;(assumption);rfl)|(apply aF;kernel_rfl)|(apply bD;rfl;rfl)|(apply aW;rfl;rfl;rfl;rfl;rfl;(case hl => (simp;done));(exact (rfl:_=[_, _, _, _]))))|(apply aM;first|apply aH|apply aB|(apply aQ;rfl;all_goals intro hc;have hq:=hc;(try simp only [cC] at hq);try exfalso;omega)|apply aN|apply aV)|with_reducible apply aA)
  refine dB (gI ?_ (Le.frzD (d := 19) (i := 4) rfl rfl))
  repeat' (first|(apply aL;first|(apply aE;rfl;rfl)|(apply aD;rfl;rfl;rfl)|(apply bN;rfl;rfl;omega;rfl)|(apply cE;rfl;rfl;(assumption);rfl)|(apply aF;kernel_rfl)|(apply aW;rfl;rfl;rfl;rfl;rfl;(rw [aT]; simp only [gY] <;> omega);(exact yZ (by (assumption)))))|(apply aM;(apply aB))|with_reducible apply aA|with_reducible apply aX)
  (apply dG (i + 1);focus (refine Le.ren [(1, 1)] rfl (by decide) ?_ ?_ <;> repeat' (first|exact trivial|refine And.intro ⟨_, rfl, ?_⟩ ?_|refine And.intro ⟨_, _, rfl, rfl, ?_⟩ ?_|exact Or.inr rfl|refine Or.inl ⟨?_, (by first|rfl|exact bH _ _)⟩|rfl)))
  ·omega
  ·omega
 ·repeat' (first | (apply aL; first | (apply aE;rfl;rfl) | (apply aU;rfl;rfl;rfl;rfl) | (apply aC;rfl;rfl) | (apply aF;kernel_rfl)) | (apply aM; first | apply aH | apply aB | (apply aQ;rfl;all_goals intro hc;have hq:=hc;(try simp only [cC] at hq);try exfalso;omega) | apply bS | apply aO) | with_reducible apply aA | with_reducible apply bU | with_reducible apply bT)
  (refine aK rfl ?_; refine bG () trivial ?_ ⟨.inr (Eq.trans (b := some _) rfl ?_), trivial⟩)
  ·rfl
  ·rfl
theorem pL (m : List Cl) (j : Nat) (hm : OkM m) (hj : j < m.length) : MC Tryz.prog 186 [sl cK m] [] 0 (fun _ : Unit => True) (fun _ => .own 1 0 m.length 4) (fun _ => [(1, some (aI eO (dI m j (.own 2 0 m[j]!.stk.length 2)))), (2, some (aI c6 m[j]!.stk))]) := by
 have hml := hm.l
 have hcc := uA m (by omega)
 (refine bK Tryz.func186 rfl (by simp [Tryz.ntmps186]) ?_; rw [Tryz.ntmps186])
 repeat' (first|(apply aL;first|(apply qV;rfl;exact hcc;rfl;rfl)|(apply aE;rfl;rfl)|(apply aC;rfl;rfl)|(apply bM;rfl;rfl;rfl)|(apply aF;kernel_rfl))|(apply aM;first|apply aH|apply aB|apply aN)|with_reducible apply aA)
 refine AW.le ?_ (Le.bump 1)
 refine bL (σ := Nat × Bool) [3, 8, 9] [(3, _), (8, _), (9, _)] [] [] (fun k => [(10, iv (k.1 : Int))]) (fun k => [(1, some (cond k.2 (aI eO (dI m j (.own 2 0 m[j]!.stk.length 2))) (aI cK m))), (2, cond k.2 (some (aI c6 m[j]!.stk)) none)]) (fun k => k.1 ≤ m.length ∧ k.2 = decide (j < k.1)) (fun k => m.length - k.1) (0, false) ⟨Nat.zero_le _, by simp⟩ rfl rfl (by repeat' (first|exact trivial|refine And.intro rfl ?_)) (by repeat' (first|exact trivial|refine And.intro (.inr rfl) ?_)) ?_
 rintro ⟨i, b⟩ ⟨hi, hb⟩
 dsimp only at hi hb ⊢
 by_cases hin : i < m.length
 ·have hst : m[i]!.stk.length ≤ 200 := (((dF m).1 hm).2 i hin).l.2
  have hct := vK m[i]!.stk (by omega)
  by_cases hij : j < i
  ·rw [decide_eq_true hij] at hb; subst hb
   simp only [cond_true]
   have hol := dH (m := m) (j := j) (X := .own 2 0 m[j]!.stk.length 2)
   have hon := wW (m := m) (i := i) (j := j) (X := .own 2 0 m[j]!.stk.length 2) hin (by omega)
   repeat' (first|(apply aL;first|(with_reducible apply cF (d := 5))|(apply aE;rfl;rfl)|(apply fC;(case hx|hH => rfl);(case hf|hg|hα => infer_instance);(case hk => omega);(case h0|hN => rfl))|(apply aU;rfl;rfl;rfl;rfl)|(apply cE;rfl;rfl;(assumption);rfl)|(apply aF;kernel_rfl))|(apply aM;first|apply aH|apply aB|(apply aQ;rfl;all_goals intro hc;have hq:=hc;(try simp only [cC] at hq);try exfalso;omega)|apply aN|apply aV)|with_reducible apply aA)
   refine dB ?_
   rw [hon]
   dsimp only [m9]
   repeat' (first|(apply aL;first|(apply mP;rfl;exact hct;rfl;rfl)|(with_reducible apply cF (d := 20))|(apply aE;rfl;rfl)|(apply aP;rfl;rfl;rfl;rfl)|(apply aD;rfl;rfl;rfl)|(apply aC;rfl;rfl)|(apply aF;kernel_rfl)|(apply bD;rfl;rfl)|(apply aW;rfl;rfl;rfl;rfl;rfl;(case hl => (simp;done));(exact (rfl:_=[_, _, _, _]))))|(apply aM;(apply aB))|with_reducible apply aA)
   refine dB (gI ?_ (Le.frzD (d := 19) (i := 5) rfl rfl))
   repeat' (first|(apply aL;first|(apply aE;rfl;rfl)|(apply aD;rfl;rfl;rfl)|(apply bN;rfl;rfl;omega;rfl)|(apply cE;rfl;rfl;(assumption);rfl)|(apply aF;kernel_rfl)|(apply aW;rfl;rfl;rfl;rfl;rfl;(rw [aT]; simp only [gY] <;> omega);(exact DT (by (omega)))))|(apply aM;(apply aB))|with_reducible apply aA|with_reducible apply aX)
   (apply dG (i + 1, true);focus (refine Le.ren [(1, 1), (2, 2)] rfl (by decide) ?_ ?_ <;> repeat' (first|exact trivial|refine And.intro ⟨_, rfl, ?_⟩ ?_|refine And.intro ⟨_, _, rfl, rfl, ?_⟩ ?_|exact Or.inr rfl|refine Or.inl ⟨?_, (by first|rfl|exact bH _ _)⟩|rfl)))
   ·exact Or.inr (yE hj rfl)
   ·exact ⟨by dsimp only;omega, by dsimp only;rw [decide_eq_true (by omega)]⟩
   ·dsimp only;omega
  ·rw [decide_eq_false hij] at hb; subst hb
   simp only [cond_false]
   repeat' (first|(apply aL;first|(apply mP;rfl;exact hct;rfl;rfl)|(with_reducible apply cF (d := 20))|(apply aE;rfl;rfl)|(first|(apply fC;(case hx|hH => rfl);(case hf|hg|hα => infer_instance);(case hk => omega);(case h0|hN => rfl))|(apply aP;rfl;rfl;rfl;rfl))|(apply aD;rfl;rfl;rfl)|(apply aU;rfl;rfl;rfl;rfl)|(apply aC;rfl;rfl)|(apply cE;rfl;rfl;(assumption);rfl)|(apply aF;kernel_rfl)|(apply bD;rfl;rfl)|(apply aW;rfl;rfl;rfl;rfl;rfl;(case hl => (simp;done));(exact (rfl:_=[_, _, _, _]))))|(apply aM;first|apply aH|apply aB|(apply aQ;rfl;all_goals intro hc;have hq:=hc;(try simp only [cC] at hq);try exfalso;omega)|apply aN|apply aV)|with_reducible apply aA)
   by_cases hie : i = j
   ·subst hie
    refine dB ?_
    repeat' (first|(apply aL;first|(apply aE;rfl;rfl)|(apply aD;rfl;rfl;rfl)|(apply bN;rfl;rfl;omega;rfl)|(apply cE;rfl;rfl;(assumption);rfl)|(apply aF;kernel_rfl)|(apply aW;rfl;rfl;rfl;rfl;rfl;(rw [aT]; simp only [gY] <;> omega);(exact tB (by (assumption)))))|(apply aM;(apply aB))|with_reducible apply aA|with_reducible apply aX)
    (apply dG (i + 1, true);focus (refine Le.ren [(1, 1), (2, 5)] rfl (by decide) ?_ ?_ <;> repeat' (first|exact trivial|refine And.intro ⟨_, rfl, ?_⟩ ?_|refine And.intro ⟨_, _, rfl, rfl, ?_⟩ ?_|exact Or.inr rfl|refine Or.inl ⟨?_, (by first|rfl|exact bH _ _)⟩|rfl)))
    ·exact Or.inr (yE hin rfl)
    ·exact ⟨by dsimp only;omega, by dsimp only;rw [decide_eq_true (by omega)]⟩
    ·dsimp only;omega
   ·refine dB (gI ?_ (Le.frzD (d := 19) (i := 5) rfl rfl))
    repeat' (first|(apply aL;first|(apply aE;rfl;rfl)|(apply aD;rfl;rfl;rfl)|(apply bN;rfl;rfl;omega;rfl)|(apply cE;rfl;rfl;(assumption);rfl)|(apply aF;kernel_rfl)|(apply aW;rfl;rfl;rfl;rfl;rfl;(rw [aT]; simp only [gY] <;> omega);(exact yZ (by (assumption)))))|(apply aM;(apply aB))|with_reducible apply aA|with_reducible apply aX)
    (apply dG (i + 1, false);focus (refine Le.ren [(1, 1)] rfl (by decide) ?_ ?_ <;> repeat' (first|exact trivial|refine And.intro ⟨_, rfl, ?_⟩ ?_|refine And.intro ⟨_, _, rfl, rfl, ?_⟩ ?_|exact Or.inr rfl|refine Or.inl ⟨?_, (by first|rfl|exact bH _ _)⟩|rfl)))
    ·exact ⟨by dsimp only;omega, by dsimp only;rw [decide_eq_false (by omega)]⟩
    ·dsimp only;omega
 ·rw [decide_eq_true (by omega)] at hb; subst hb
  simp only [cond_true]
  repeat' (first|(apply aL;first|(apply aE;rfl;rfl)|(apply aU;rfl;rfl;rfl;rfl)|(apply aC;rfl;rfl)|(apply aF;kernel_rfl))|(apply aM;first|apply aH|apply aB|(apply aQ;rfl;all_goals intro hc;have hq:=hc;(try simp only [cC] at hq);try exfalso;omega)|apply bS|apply aO)|with_reducible apply aA|with_reducible apply bU|with_reducible apply bT)
  (refine aK rfl ?_; refine bG () trivial ?_ ⟨.inr (Eq.trans (b := some _) rfl ?_), ⟨.inr (Eq.trans (b := some _) rfl ?_), trivial⟩⟩)
  ·rfl
  ·rfl
  ·rfl
theorem kO {m : List Cl} {x : Pt} {wr : Bool} {n : Nat} {N : Nat} {Q : Exit → AS → Prop} {all : Array Oper} {rest : List Oper} {tsl : List (Nat × AV)} {hsl : List (Nat × Option (List AV))} {nidl : Nat} {z0 : Lo} {md : Md} {d : Nat} {ty : TypeId} {pos : String} {af : Array Edge} {tys : Array TypeId} {x0 x1 x2 : Operand} {i0 : Nat} (ha0 : ev (lk tsl) x0 = some (.own i0 0 n 4)) (ha1 : ev (lk tsl) x1 = some (kQ x)) (ha2 : ev (lk tsl) x2 = some (bv wr)) (hH0 : b8 hsl i0 = some (aI cK m)) (hmc : MC Tryz.prog 187 [.own 0 0 n 4, kQ x, bv wr] [(0, some (aI cK m))] 1 (fun _ : Unit => True) (fun _ => iv (cD m x wr)) (fun _ => [(0, some (aI cK m))])) (hM : Nat.ble (nidl + 0) dR = true) (hN : Nat.blt d N = true) {md' : Md} [hmd : MdA md (e7 [x0, x1, x2] ++ [.inr i0]) (List.map Sum.inr (List.map Prod.fst ([(i0, some (aI cK m))] : List (Nat × Option (List AV)))) ++ [.inl d]) md'] (kk : RW Tryz.prog N all Q md' rest ⟨(d, iv (cD m x wr)) :: tsl, fS hsl [(i0, some (aI cK m))], nidl + 0, z0⟩) : RW Tryz.prog N all Q md (⟨some d, .call ⟨.value (.func 187), #[x0, x1, x2], tys⟩, ty, pos, af, none⟩ :: rest) ⟨tsl, hsl, nidl, z0⟩ := by
 refine bP [i0] 1 [(i0, some (aI cK m))] hmc (avs := [.own i0 0 n 4, kQ x, bv wr]) ?_ rfl ?_ rfl ?_ (by simpa using hM) ?_ ?_ ?_ hN (md' := md') (hmd := hmd) kk
 ·show evL (lk tsl) [x0, x1, x2] = _
  simp only [evL, ha0, ha1, ha2]
 ·exact ⟨⟨_, _, rfl, hH0, by (repeat' (exact RnL.purI inferInstance))⟩, trivial⟩
 ·(repeat' (first|exact RnL.purI inferInstance|exact RnV.own rfl|refine RnL.cons ?_ ?_))
 ·(repeat' (exact RnV.purI inferInstance))
 ·simp [cZ]
 ·(repeat' (first|exact trivial|(refine And.intro ⟨0, _, rfl, rfl, ?_⟩ ?_)|exact RnL.purI inferInstance))
theorem qY {m : List Cl} {j : Nat} {t : Int} {k n : Nat} {N : Nat} {Q : Exit → AS → Prop} {all : Array Oper} {rest : List Oper} {tsl : List (Nat × AV)} {hsl : List (Nat × Option (List AV))} {nidl : Nat} {z0 : Lo} {md : Md} {d : Nat} {ty : TypeId} {pos : String} {af : Array Edge} {tys : Array TypeId} {x0 x1 x2 : Operand} {i0 i1 : Nat} (ha0 : ev (lk tsl) x0 = some (.own i0 0 n 4)) (ha1 : ev (lk tsl) x1 = some (.agg [iv (j : Int), iv t])) (ha2 : ev (lk tsl) x2 = some (bv true)) (hH0 : b8 hsl i0 = some (aI eO (dI m j (.own i1 0 m[j]!.stk.length 2)))) (hH1 : b8 hsl i1 = some (aI c6 m[j]!.stk)) (hdd : Go.AL.distinct [i0, i1] = true) (hmc : MC Tryz.prog 187 [.own 0 0 n 4, .agg [iv (j : Int), iv t], bv true] [(0, some (aI eO (dI m j (.own 1 0 m[j]!.stk.length 2)))), (1, some (aI c6 m[j]!.stk))] 2 (fun _ : Unit => True) (fun _ => iv 0) (fun _ => [(0, some (aI eO (dI m j (.own 1 0 (k + 1) 2)))), (1, some (aI c6 (m[j]!.stk.take (k + 1))))])) (hM : Nat.ble (nidl + 0) dR = true) (hN : Nat.blt d N = true) {md' : Md} [hmd : MdA md (e7 [x0, x1, x2] ++ [.inr i0, .inr i1]) (List.map Sum.inr (List.map Prod.fst ([(i0, some (aI eO (dI m j (.own i1 0 (k + 1) 2)))), (i1, some (aI c6 (m[j]!.stk.take (k + 1))))] : List (Nat × Option (List AV)))) ++ [.inl d]) md'] (kk : RW Tryz.prog N all Q md' rest ⟨(d, iv 0) :: tsl, fS hsl [(i0, some (aI eO (dI m j (.own i1 0 (k + 1) 2)))), (i1, some (aI c6 (m[j]!.stk.take (k + 1))))], nidl + 0, z0⟩) : RW Tryz.prog N all Q md (⟨some d, .call ⟨.value (.func 187), #[x0, x1, x2], tys⟩, ty, pos, af, none⟩ :: rest) ⟨tsl, hsl, nidl, z0⟩ := by
 refine bP [i0, i1] 2 [(i0, some (aI eO (dI m j (.own i1 0 (k + 1) 2)))), (i1, some (aI c6 (m[j]!.stk.take (k + 1))))] hmc (avs := [.own i0 0 n 4, .agg [iv (j : Int), iv t], bv true]) ?_ hdd ?_ rfl ?_ (by simpa using hM) ?_ ?_ ?_ hN (md' := md') (hmd := hmd) kk
 ·show evL (lk tsl) [x0, x1, x2] = _
  simp only [evL, ha0, ha1, ha2]
 ·exact ⟨⟨_, _, rfl, hH0, by (repeat' (exact iV rfl))⟩, ⟨⟨_, _, rfl, hH1, by (repeat' (exact RnL.purI inferInstance))⟩, trivial⟩⟩
 ·(repeat' (first|exact RnL.purI inferInstance|exact RnV.own rfl|refine RnL.cons ?_ ?_))
 ·(repeat' (exact RnV.purI inferInstance))
 ·simp [cZ]
 ·(repeat' (first|exact trivial|(refine And.intro ⟨0, _, rfl, rfl, ?_⟩ ?_)|(refine And.intro ⟨1, _, rfl, rfl, ?_⟩ ?_)|exact RnL.purI inferInstance|exact iV rfl))
theorem LdL.app {D : List Nat} {H : Nat → Option (List AV)} : ∀ {a b c d : List AV}, LdL D H a b → LdL D H c d → cO a = true → LdL D H (a ++ c) (a ++ d)
 | [], _, _, _, _, h, _ => h
 | x :: a, b, c, d, h1, h, hp => by
  simp only [cO, Bool.and_eq_true] at hp
  exact .cons (.pur hp.1) (LdL.app (a := a) (b := a) (.pur hp.2) h hp.2)
theorem EX {D : List Nat} {H : Nat → Option (List AV)} {m : List Cl} {j i k : Nat} {r : List Tg} (hi : i ∈ D) (hH : H i = some (aI c6 r)) (hk : k = r.length) (hj : j < m.length) : LdL D H (aI eO (dI m j (.own i 0 k 2))) (aI cK (m.set j { m[j]! with stk := r })) := by
 subst hk
 rw [← vE, iA hj, iA hj]
 have p1 : cO (aI cK (m.take j)) = true := (inferInstance : Pur (aI cK _)).pf
 have p2 : cO [iv m[j]!.val, bv m[j]!.alive, iv m[j]!.next] = true := rfl
 exact LdL.app (.pur p1) (LdL.app (.pur p2) (.cons (.own hi hH (.pur (inferInstance : Pur (aI c6 r)).pf)) (.pur (inferInstance : Pur (aI cK _)).pf)) p2) p1
theorem zD {D : List Nat} {H : Nat → Option (List AV)} {m : List Cl} {j i : Nat} (hi : i ∈ D) (hH : H i = some (aI c6 m[j]!.stk)) (hj : j < m.length) : LdL D H (aI eO (dI m j (.own i 0 m[j]!.stk.length 2))) (aI cK m) := by
 have h := EX (m := m) (r := m[j]!.stk) hi hH rfl hj
 rwa [show m.set j { m[j]! with stk := m[j]!.stk } = m from lN m j] at h
theorem Er {m : List Cl} {x : Pt} {wr : Bool} (h : 0 ≤ x.cell) (h2 : x.cell < m.length) (h3 : m[x.cell.toNat]!.alive = true) (h4 : 0 ≤ c5 m[x.cell.toNat]!.stk x.tag) (hw : wr = true) (h5 : m[x.cell.toNat]!.stk[(c5 m[x.cell.toNat]!.stk x.tag).toNat]!.uq = false) : cD m x wr = 3 := by
 unfold cD;rw [if_neg (by omega), if_neg (by rw [h3]; decide), if_neg (by omega), if_pos ⟨hw, h5⟩]
theorem lE (m : List Cl) (x : Pt) (wr : Bool) (n : Nat) (hm : OkM m) (hn : n = m.length) (hk : cD m x wr ≠ 0) : MC Tryz.prog 187 [.own 0 0 n 4, kQ x, bv wr] [(0, some (aI cK m))] 1 (fun _ : Unit => True) (fun _ => iv (cD m x wr)) (fun _ => [(0, some (aI cK m))]) := by
 subst hn
 have hml := hm.l
 have hcv := fU m hm
 have hst : 0 ≤ x.cell → x.cell < m.length → m[x.cell.toNat]!.stk.length ≤ 200 := fun h1 h2 => (((dF m).1 hm).2 x.cell.toNat (by omega)).l.2
 have hbd := eI m[x.cell.toNat]!.stk x.tag
 have hidx := fun h => rT m[x.cell.toNat]!.stk x.cell x.tag h
 (refine bK Tryz.func187 rfl (by simp [Tryz.ntmps187]) ?_; rw [Tryz.ntmps187])
 repeat' (first|(apply aL;first|((with_reducible apply nP (k := 184));(case ha => rfl);(case hl => (repeat' (first|exact mS|apply k6|exact l8 rfl inferInstance)));(case h => exact hcv);(case hfr|hN => rfl);(case hmd => infer_instance))|((apply gH 4);(case hx|hH|hc|hN => rfl))|((with_reducible apply aJ (k := 230));(case ha => rfl);(case h => exact (hidx (by have := hst (by omega) (by omega);omega)));(case hp => (exact Pur.pf));(case hN => rfl))|(with_reducible apply cF (d := 75))|(apply aE;rfl;rfl)|(first|(apply cH;(case hx|hH => rfl);(case hf|hg|hα => infer_instance);(case hk => omega);(case hc|hN => rfl))|(apply aP;rfl;rfl;rfl;rfl))|(apply aD;rfl;rfl;rfl)|(first|(apply aY;rfl;rfl;rfl;(first|rfl|assumption))|(apply a7;rfl;rfl;rfl;(assumption))|(apply bE;(case hj|hb|hN => rfl);all_goals (intro hg;have hq := hg;(try simp only [cC] at hq);(try (exfalso;omega)))))|(first|(apply iB;rfl;rfl;omega;rfl)|(apply aU;rfl;rfl;rfl;rfl))|(apply aC;rfl;rfl)|(first|(apply bJ;rfl;(assumption);rfl;rfl)|(apply bC;rfl;(first|rfl|assumption);rfl;rfl))|(first|(apply cM;(case hx|hi => rfl);(case hm => (omega));(case hml => (rfl));(case hα | hf|hg => infer_instance);(case hN => rfl))|(apply cG;rfl;rfl;(omega);rfl))|((with_reducible apply aJ (k := 84));(case ha => rfl);(case h => (apply dL <;> (fail)));(case hp => (rfl));(case hN => rfl))|(apply bM;rfl;rfl;rfl)|(apply aF;kernel_rfl)|(apply bW;rfl;rfl)|(apply cB;rfl;rfl;rfl)|(apply bA;rfl;rfl;rfl;rfl))|(apply aM;first|apply aH|apply aB|(apply b9;rfl;(rfl))|(apply aQ;rfl;all_goals intro hc;have hq:=hc;(try simp only [cC] at hq);try exfalso;omega)|apply aN|apply aV|apply aO)|with_reducible apply aA|with_reducible apply a8|with_reducible apply cA)
 ·(refine aK rfl ?_; refine bG () trivial ?_ ⟨.inr (Eq.trans (b := some _) rfl ?_), trivial⟩)
  ·rw [wN (by omega)]; rfl
  ·rfl
 ·(refine aK rfl ?_; refine bG () trivial ?_ ⟨.inr (Eq.trans (b := some _) rfl ?_), trivial⟩)
  ·rw [A1 (by omega) (by omega) (by assumption)]; rfl
  ·rfl
 ·(refine aK rfl ?_; refine bG () trivial ?_ ⟨.inr (Eq.trans (b := some _) rfl ?_), trivial⟩)
  ·rw [Cr (by omega) (by omega) (by assumption) (by assumption)]; rfl
  ·rfl
 ·(refine aK rfl ?_; refine bG () trivial ?_ ⟨.inr (Eq.trans (b := some _) rfl ?_), trivial⟩)
  ·rw [Er (by omega) (by omega) (by assumption) (by assumption) (by assumption) (by assumption)]; rfl
  ·rfl
 ·exfalso
  have hw : wr = true := by assumption
  have hu : m[x.cell.toNat]!.stk[(c5 m[x.cell.toNat]!.stk x.tag).toNat]!.uq = true := by assumption
  subst hw
  refine hk ?_
  rw [sW, if_pos (nH (by omega) (by omega) (by assumption) (by assumption)), if_neg (by rw [hu]; decide)]
 ·exfalso
  have hw : wr = false := by assumption
  subst hw
  exact hk (nH (by omega) (by omega) (by assumption) (by assumption))
theorem pE (m : List Cl) (j : Nat) (t : Int) (k n : Nat) (hm : OkM m) (hn : n = m.length) (hj : j < m.length) (hk : c5 m[j]!.stk t = (k : Int)) (hal : m[j]!.alive = true) (hu : m[j]!.stk[k]!.uq = true) : MC Tryz.prog 187 [.own 0 0 n 4, .agg [iv (j : Int), iv t], bv true] [(0, some (aI eO (dI m j (.own 1 0 m[j]!.stk.length 2)))), (1, some (aI c6 m[j]!.stk))] 2 (fun _ : Unit => True) (fun _ => iv 0) (fun _ => [(0, some (aI eO (dI m j (.own 1 0 (k + 1) 2)))), (1, some (aI c6 (m[j]!.stk.take (k + 1))))]) := by
 subst hn
 have hml := hm.l
 have hcv := fU m hm
 have hst : m[j]!.stk.length ≤ 200 := (((dF m).1 hm).2 j hj).l.2
 have hbd := eI m[j]!.stk t
 rw [hk] at hbd
 have hidx := rT m[j]!.stk (j : Int) t (by omega)
 rw [hk] at hidx
 have hog := fY (m := m) (j := j) (X := .own 1 0 m[j]!.stk.length 2) hj
 have hol := dH (m := m) (j := j) (X := .own 1 0 m[j]!.stk.length 2)
 (refine bK Tryz.func187 rfl (by simp [Tryz.ntmps187]) ?_; rw [Tryz.ntmps187])
 repeat' (first|(apply aL;first|((with_reducible apply lG (k := 184) (D := [0, 1]) (h := hcv));(case ha => rfl);(case hl => exact .cons (.own (by simp) rfl (zD (by simp) rfl hj)) .nil);(case hfr|hN => rfl))|(with_reducible apply cF (d := 35))|(apply aE;rfl;rfl)|(first|(apply cH;(case hx|hH => rfl);(case hf|hg|hα => infer_instance);(case hk => omega);(case hc|hN => rfl))|(apply aP;rfl;rfl;rfl;rfl))|(apply aD;rfl;rfl;rfl)|(apply aY;rfl;rfl;rfl;(rfl))|(apply iB;rfl;rfl;omega;rfl)|(apply aC;rfl;rfl)|(apply bC;rfl;(rfl);rfl;rfl)|(apply cE;rfl;rfl;(assumption);rfl)|((with_reducible apply aJ (k := 84));(case ha => rfl);(case h => (apply dL <;> (fail)));(case hp => (rfl));(case hN => rfl))|(apply bM;rfl;rfl;rfl)|(apply aF;kernel_rfl)|(apply bW;rfl;rfl)|(apply cB;rfl;rfl;rfl)|(apply bA;rfl;rfl;rfl;rfl))|(apply aM;first|apply aH|apply aB|(apply aQ;rfl;all_goals intro hc;have hq:=hc;(try simp only [cC] at hq);try exfalso;omega)|apply aV|apply aO)|with_reducible apply aA|with_reducible apply a8)
 all_goals (try (exfalso;omega))
 ·exfalso
  have h : (dI m j (.own 1 0 m[j]!.stk.length 2))[j]!.alive = false := by assumption
  rw [hog] at h;simp only [hal] at h;cases h
 refine dB ?_
 rw [hog]
 dsimp only
 repeat' (first|(apply aL;first|((apply gH 4);(case hx|hH|hc|hN => rfl))|((with_reducible apply lG (k := 230) (D := [1]) (h := hidx));(case ha => rfl);(case hl => exact .cons (.own (by simp) rfl (.pur (inferInstance : Pur (aI c6 _)).pf)) (.cons (.pur rfl) .nil));(case hfr|hN => rfl))|(with_reducible apply cF (d := 68))|(apply aE;rfl;rfl)|(apply cH;(case hx|hH => rfl);(case hf|hg|hα => infer_instance);(case hk => omega);(case hc|hN => rfl))|(apply aD;rfl;rfl;rfl)|(apply aY;rfl;rfl;rfl;(rfl))|(apply aU;rfl;rfl;rfl;rfl)|(apply aC;rfl;rfl)|(apply aF;kernel_rfl)|(apply cB;rfl;rfl;rfl))|(apply aM;first|apply aH|apply aB|(apply b9;rfl;(rfl))|apply aN)|with_reducible apply aA)
 refine dB ?_
 rw [hog]
 dsimp only
 repeat' (first|(apply aL;first|(with_reducible apply cF (d := 81))|(apply aE;rfl;rfl)|(apply cH;(case hx|hH => rfl);(case hf|hg|hα => infer_instance);(case hk => omega);(case hc|hN => rfl))|(apply aD;rfl;rfl;rfl)|(apply aY;rfl;rfl;rfl;(rfl))|(apply aC;rfl;rfl)|(apply bJ;rfl;(rfl);rfl;rfl)|(apply cE;rfl;rfl;(omega);rfl)|(apply aF;kernel_rfl)|(apply bW;rfl;rfl)|(apply cB;rfl;rfl;rfl))|(apply aM;first|apply aH|apply aB|(apply bR;rfl;(rfl))|(apply aQ;rfl;all_goals intro hc;have hq:=hc;(try simp only [cC] at hq);try exfalso;omega)|apply aO)|with_reducible apply aA|with_reducible apply a8|with_reducible apply cA)
 ·exfalso
  have h : m[j]!.stk[k]!.uq = false := by assumption
  rw [hu] at h;cases h
 refine dB ?_
 rw [hog]
 dsimp only
 repeat' (first|(apply aL;first|((apply gB (d := 83) (l := 0) (h := k + 1));(case hx|hn|hl => rfl);(case hh => exact mC rfl (by omega));(case hp => exact if_pos (by omega));(case hN => rfl))|(apply aE;rfl;rfl)|(apply aD;rfl;rfl;rfl)|(apply bN;rfl;rfl;omega;rfl)|(apply aC;rfl;rfl)|(apply aF;kernel_rfl)|(apply cB;rfl;rfl;rfl)|(apply aW;rfl;rfl;rfl;rfl;rfl;(rw [aT]; simp only [gY] <;> omega);(exact pA (by (assumption)))))|(apply aM;first|apply aH|apply aB|apply aO)|with_reducible apply aA|with_reducible apply aX)
 refine b0 (Le.cut (i := 1) ((k + 1) * 2) rfl) ?_
 (refine aK rfl ?_; refine bG () trivial ?_ ⟨.inr (Eq.trans (b := some _) rfl ?_), ⟨.inr (Eq.trans (b := some _) rfl ?_), trivial⟩⟩)
 ·rfl
 ·rfl
 ·rw [eV c6 (e := 2)]
theorem AF {xs : List Tg} {k n : Nat} {N : Nat} {Q : Exit → AS → Prop} {all : Array Oper} {rest : List Oper} {tsl : List (Nat × AV)} {hsl : List (Nat × Option (List AV))} {nidl : Nat} {z0 : Lo} {md : Md} {d : Nat} {ty : TypeId} {pos : String} {af : Array Edge} {tys : Array TypeId} {x0 : Operand} {i0 : Nat} (ha0 : ev (lk tsl) x0 = some (.own i0 (0 + k * 2) n 2)) (hH0 : b8 hsl i0 = some (aI c6 xs)) (hmc : MC Tryz.prog 229 [.own 0 (0 + k * 2) n 2] [(0, some (aI c6 xs))] 1 (fun _ : Unit => True) (fun _ => .own 2 0 n 2) (fun _ => [(0, some (aI c6 xs)), (2, some (aI c6 (xs.drop k)))])) (hM : Nat.ble (nidl + 2) dR = true) (hN : Nat.blt d N = true) {md' : Md} [hmd : MdA md (e7 [x0] ++ [.inr i0]) (List.map Sum.inr (List.map Prod.fst ([(i0, some (aI c6 xs)), ((nidl + 1), some (aI c6 (xs.drop k)))] : List (Nat × Option (List AV)))) ++ [.inl d]) md'] (kk : RW Tryz.prog N all Q md' rest ⟨(d, .own (nidl + 1) 0 n 2) :: tsl, fS hsl [(i0, some (aI c6 xs)), ((nidl + 1), some (aI c6 (xs.drop k)))], nidl + 2, z0⟩) : RW Tryz.prog N all Q md (⟨some d, .call ⟨.value (.func 229), #[x0], tys⟩, ty, pos, af, none⟩ :: rest) ⟨tsl, hsl, nidl, z0⟩ := by
 refine bP [i0] 3 [(i0, some (aI c6 xs)), ((nidl + 1), some (aI c6 (xs.drop k)))] hmc (avs := [.own i0 (0 + k * 2) n 2]) ?_ rfl ?_ rfl ?_ (by simpa using hM) ?_ ?_ ?_ hN (md' := md') (hmd := hmd) kk
 ·show evL (lk tsl) [x0] = _
  simp only [evL, ha0]
 ·exact ⟨⟨_, _, rfl, hH0, by (repeat' (exact RnL.purI inferInstance))⟩, trivial⟩
 ·(repeat' (first|exact RnL.purI inferInstance|exact RnV.own rfl|refine RnL.cons ?_ ?_))
 ·(repeat' (exact RnV.own rfl))
 ·simp [cZ]
 ·(repeat' (first|exact trivial|(refine And.intro ⟨0, _, rfl, rfl, ?_⟩ ?_)|(refine And.intro ⟨2, _, rfl, rfl, ?_⟩ ?_)|exact RnL.purI inferInstance))
theorem Cy (xs : List Tg) (k n : Nat) (hn : n = xs.length - k) (hl : xs.length ≤ 1000000) : MC Tryz.prog 229 [.own 0 (0 + k * 2) n 2] [(0, some (aI c6 xs))] 1 (fun _ : Unit => True) (fun _ => .own 2 0 n 2) (fun _ => [(0, some (aI c6 xs)), (2, some (aI c6 (xs.drop k)))]) := by
 subst hn
 (refine bK Tryz.func229 rfl (by simp [Tryz.ntmps229]) ?_; rw [Tryz.ntmps229])
 repeat' (first|(apply aL;first|(apply z7;rfl;rfl;(intro b hb))|(apply bV;rfl;rfl;rfl;rfl;rfl;(decide);exact x6 rfl rfl;omega;omega;(exact dW rfl);rfl;rfl)|(apply aE;rfl;rfl)|(apply aC;rfl;rfl)|(apply aF;kernel_rfl)|(apply bQ;rfl;rfl;rfl;(rfl);rfl;rfl))|(apply aM;first|apply aH|apply aB|(apply aQ;rfl;all_goals intro hc;have hq:=hc;(try simp only [cC] at hq);try exfalso;omega)|apply aV|apply aO)|with_reducible apply aA|with_reducible apply a8)
 ·have h0 : xs.length - k = 0 := hb (by assumption)
  have h1 : xs.drop k = [] := List.drop_eq_nil_of_le (by omega)
  refine b0 (Le.bump 1) ?_
  refine b0 (Le.nilOwn (d := 2) 2 rfl (by decide)) ?_
  (refine aK rfl ?_; refine bG () trivial ?_ ⟨.inr (Eq.trans (b := some _) rfl ?_), ⟨.inr (Eq.trans (b := some _) rfl ?_), trivial⟩⟩)
  ·show AV.own 2 0 0 2 = _; rw [h0]
  ·rfl
  ·rw [h1]; rfl
 ·(refine aK rfl ?_; refine bG () trivial ?_ ⟨.inr (Eq.trans (b := some _) rfl ?_), ⟨.inr (Eq.trans (b := some _) rfl ?_), trivial⟩⟩)
  ·show AV.own 2 0 (0 + (xs.length - k)) 2 = _
   rw [Nat.zero_add]
  ·rfl
  ·rfl
theorem rE {m : List Cl} {j : Nat} {t : Int} {r : List Tg} {n : Nat} {N : Nat} {Q : Exit → AS → Prop} {all : Array Oper} {rest : List Oper} {tsl : List (Nat × AV)} {hsl : List (Nat × Option (List AV))} {nidl : Nat} {z0 : Lo} {md : Md} {d : Nat} {ty : TypeId} {pos : String} {af : Array Edge} {tys : Array TypeId} {x0 x1 x2 : Operand} {i0 i1 : Nat} (ha0 : ev (lk tsl) x0 = some (.own i0 0 n 4)) (ha1 : ev (lk tsl) x1 = some (.agg [iv (j : Int), iv t])) (ha2 : ev (lk tsl) x2 = some (bv false)) (hH0 : b8 hsl i0 = some (aI eO (dI m j (.own i1 0 m[j]!.stk.length 2)))) (hH1 : b8 hsl i1 = some (aI c6 m[j]!.stk)) (hdd : Go.AL.distinct [i0, i1] = true) (hmc : MC Tryz.prog 187 [.own 0 0 n 4, .agg [iv (j : Int), iv t], bv false] [(0, some (aI eO (dI m j (.own 1 0 m[j]!.stk.length 2)))), (1, some (aI c6 m[j]!.stk))] 2 (fun _ : Unit => True) (fun _ => iv 0) (fun _ => [(0, some (aI eO (dI m j (.own 5 0 r.length 2)))), (5, some (aI c6 r))])) (hM : Nat.ble (nidl + 4) dR = true) (hN : Nat.blt d N = true) {md' : Md} [hmd : MdA md (e7 [x0, x1, x2] ++ [.inr i0, .inr i1]) (List.map Sum.inr (List.map Prod.fst ([(i0, some (aI eO (dI m j (.own (nidl + 3) 0 r.length 2)))), ((nidl + 3), some (aI c6 r)), (i1, none)] : List (Nat × Option (List AV)))) ++ [.inl d]) md'] (kk : RW Tryz.prog N all Q md' rest ⟨(d, iv 0) :: tsl, fS hsl [(i0, some (aI eO (dI m j (.own (nidl + 3) 0 r.length 2)))), ((nidl + 3), some (aI c6 r)), (i1, none)], nidl + 4, z0⟩) : RW Tryz.prog N all Q md (⟨some d, .call ⟨.value (.func 187), #[x0, x1, x2], tys⟩, ty, pos, af, none⟩ :: rest) ⟨tsl, hsl, nidl, z0⟩ := by
 refine bP [i0, i1] 6 [(i0, some (aI eO (dI m j (.own (nidl + 3) 0 r.length 2)))), ((nidl + 3), some (aI c6 r)), (i1, none)] hmc (avs := [.own i0 0 n 4, .agg [iv (j : Int), iv t], bv false]) ?_ hdd ?_ rfl ?_ (by simpa using hM) ?_ ?_ ?_ hN (md' := md') (hmd := hmd) kk
 ·show evL (lk tsl) [x0, x1, x2] = _
  simp only [evL, ha0, ha1, ha2]
 ·exact ⟨⟨_, _, rfl, hH0, by (repeat' (exact iV rfl))⟩, ⟨⟨_, _, rfl, hH1, by (repeat' (exact RnL.purI inferInstance))⟩, trivial⟩⟩
 ·(repeat' (first|exact RnL.purI inferInstance|exact RnV.own rfl|refine RnL.cons ?_ ?_))
 ·(repeat' (exact RnV.purI inferInstance))
 ·simp [cZ]
 ·(repeat' (first|exact trivial|(refine And.intro ⟨0, _, rfl, rfl, ?_⟩ ?_)|(refine And.intro ⟨5, _, rfl, rfl, ?_⟩ ?_)|exact RnL.purI inferInstance|exact iV rfl))
theorem uC (m : List Cl) (j : Nat) (t : Int) (r : List Tg) (k n : Nat) (hm : OkM m) (hn : n = m.length) (hj : j < m.length) (hk : c5 m[j]!.stk t = (k : Int)) (hal : m[j]!.alive = true) (hr : r = fM m[j]!.stk k false) : MC Tryz.prog 187 [.own 0 0 n 4, .agg [iv (j : Int), iv t], bv false] [(0, some (aI eO (dI m j (.own 1 0 m[j]!.stk.length 2)))), (1, some (aI c6 m[j]!.stk))] 2 (fun _ : Unit => True) (fun _ => iv 0) (fun _ => [(0, some (aI eO (dI m j (.own 5 0 r.length 2)))), (5, some (aI c6 r))]) := by
 subst hn
 have hml := hm.l
 have hcv := fU m hm
 have hst : m[j]!.stk.length ≤ 200 := (((dF m).1 hm).2 j hj).l.2
 have hbd := eI m[j]!.stk t
 rw [hk] at hbd
 have hidx := rT m[j]!.stk (j : Int) t (by omega)
 rw [hk] at hidx
 have hog := fY (m := m) (j := j) (X := .own 1 0 m[j]!.stk.length 2) hj
 have hol := dH (m := m) (j := j) (X := .own 1 0 m[j]!.stk.length 2)
 (refine bK Tryz.func187 rfl (by simp [Tryz.ntmps187]) ?_; rw [Tryz.ntmps187])
 repeat' (first|(apply aL;first|((with_reducible apply lG (k := 184) (D := [0, 1]) (h := hcv));(case ha => rfl);(case hl => exact .cons (.own (by simp) rfl (zD (by simp) rfl hj)) .nil);(case hfr|hN => rfl))|(with_reducible apply cF (d := 35))|(apply aE;rfl;rfl)|(first|(apply cH;(case hx|hH => rfl);(case hf|hg|hα => infer_instance);(case hk => omega);(case hc|hN => rfl))|(apply aP;rfl;rfl;rfl;rfl))|(apply aD;rfl;rfl;rfl)|(apply aY;rfl;rfl;rfl;(rfl))|(apply iB;rfl;rfl;omega;rfl)|(apply aC;rfl;rfl)|(apply bC;rfl;(rfl);rfl;rfl)|(apply cE;rfl;rfl;(assumption);rfl)|((with_reducible apply aJ (k := 84));(case ha => rfl);(case h => (apply dL <;> (fail)));(case hp => (rfl));(case hN => rfl))|(apply bM;rfl;rfl;rfl)|(apply aF;kernel_rfl)|(apply bW;rfl;rfl)|(apply cB;rfl;rfl;rfl)|(apply bA;rfl;rfl;rfl;rfl))|(apply aM;first|apply aH|apply aB|(apply aQ;rfl;all_goals intro hc;have hq:=hc;(try simp only [cC] at hq);try exfalso;omega)|apply aV|apply aO)|with_reducible apply aA|with_reducible apply a8)
 all_goals (try (exfalso;omega))
 ·exfalso
  have h : (dI m j (.own 1 0 m[j]!.stk.length 2))[j]!.alive = false := by assumption
  rw [hog] at h;simp only [hal] at h;cases h
 refine dB ?_
 rw [hog]
 dsimp only
 repeat' (first|(apply aL;first|((apply gH 4);(case hx|hH|hc|hN => rfl))|((with_reducible apply lG (k := 230) (D := [1]) (h := hidx));(case ha => rfl);(case hl => exact .cons (.own (by simp) rfl (.pur (inferInstance : Pur (aI c6 _)).pf)) (.cons (.pur rfl) .nil));(case hfr|hN => rfl))|(with_reducible apply cF (d := 41))|(apply aE;rfl;rfl)|(apply cH;(case hx|hH => rfl);(case hf|hg|hα => infer_instance);(case hk => omega);(case hc|hN => rfl))|(apply aD;rfl;rfl;rfl)|(apply a7;rfl;rfl;rfl;(rfl))|(apply aU;rfl;rfl;rfl;rfl)|(apply aC;rfl;rfl)|(apply bC;rfl;(rfl);rfl;rfl)|(apply aF;kernel_rfl)|(apply cB;rfl;rfl;rfl))|(apply aM;first|apply aH|apply aB|(apply b9;rfl;(rfl))|apply aN)|with_reducible apply aA)
 refine dB ?_
 rw [hog]
 dsimp only
 repeat' (first|(apply aL;first|((apply gB (d := 43) (l := k + 1) (h := m[j]!.stk.length));(case hx|hn => rfl);(case hl => exact mC rfl (by omega));(case hh => rfl);(case hp => exact if_pos (by omega));(case hN => rfl))|(apply AF;rfl;rfl;exact Cy _ _ _ rfl (by omega);rfl;rfl)|(apply Da;rfl;rfl;rfl;exact Fq _ _ (by rw [List.length_drop]) (by omega);rfl;rfl)|(with_reducible apply cF (d := 51))|(apply aE;rfl;rfl)|(apply cH;(case hx|hH => rfl);(case hf|hg|hα => infer_instance);(case hk => omega);(case hc|hN => rfl))|(apply aD;rfl;rfl;rfl)|(apply bN;rfl;rfl;omega;rfl)|(apply aC;rfl;rfl)|(apply aF;kernel_rfl)|(apply cB;rfl;rfl;rfl))|(apply aM;(apply aB))|with_reducible apply aA)
 refine dB ?_
 rw [hog]
 dsimp only
 have hfl : (aI c6 m[j]!.stk).length = m[j]!.stk.length * 2 := aT c6 _
 have hsl : (shr (List.drop (k + 1) m[j]!.stk)).length ≤ 200 := Nat.le_trans (List.length_filter_le _ _) (by rw [List.length_drop]; omega)
 repeat' (first|(apply aL;first|((apply gB (d := 53) (l := 0) (h := k + 1));(case hx|hn|hl => rfl);(case hh => exact mC rfl (by omega));(case hp => exact if_pos (by omega));(case hN => rfl))|(apply bV;rfl;rfl;rfl;rfl;rfl;(rw [hfl]; omega);exact x6 (k := 0) rfl rfl;omega;omega;rfl;rfl;rfl)|(apply aE;rfl;rfl)|(apply aD;rfl;rfl;rfl)|(apply bN;rfl;rfl;omega;rfl)|(apply aC;rfl;rfl)|(apply aF;kernel_rfl)|(apply cB;rfl;rfl;rfl)|(apply aW;rfl;rfl;rfl;rfl;rfl;(rw [aT]; simp only [gY] <;> omega);(exact pA (by (assumption)))))|(apply aM;first|apply aH|apply aB|apply aO)|with_reducible apply aA|with_reducible apply aX)
 have hre : r = m[j]!.stk.take (k + 1) ++ shr (m[j]!.stk.drop (k + 1)) := by rw [hr]; rfl
 have hrl : r.length = k + 1 + (shr (List.drop (k + 1) m[j]!.stk)).length := by rw [hre, List.length_append, List.length_take]; omega
 (refine aK rfl ?_; refine bG () trivial ?_ ⟨.inr (Eq.trans (b := some _) rfl ?_), ⟨.inr (Eq.trans (b := some _) rfl ?_), trivial⟩⟩)
 ·rfl
 ·refine congrArg some ?_
  show aI eO (dI m j (AV.own 5 0 (k + 1 - 0 + (shr (List.drop (k + 1) m[j]!.stk)).length) 2)) = _
  rw [hrl]; rfl
 ·refine congrArg some ?_
  show (List.drop 0 (aI c6 m[j]!.stk)).take ((k + 1) * 2) ++ aI c6 (List.drop 0 (shr (List.drop (k + 1) m[j]!.stk))) = _
  rw [List.drop_zero, List.drop_zero, eV c6 (e := 2), dC, ← hre]
theorem D4 {m : List Cl} {j : Nat} {X : AV} {v : Int} (h : j < m.length) : gO (aI eO (dI m j X)) (0 + j * 4 + 0) [iv v] = aI eO (dI (m.set j { m[j]! with val := v }) j X) := by
 have e : dI (m.set j { m[j]! with val := v }) j X = (dI m j X).set j ⟨v, m[j]!.alive, m[j]!.next, X⟩ := by
  have e2 : (m.set j { m[j]! with val := v })[j]! = { m[j]! with val := v } := by rw [cV _ _ (by rw [List.length_set]; exact h), List.getElem_set_self]
  unfold dI
  rw [e2, List.map_set, List.set_set, List.set_set]; rfl
 rw [e]
 exact dZ (by rw [dH]; exact h) (by simp) (by rw [fY h]; rfl)
theorem C3 {m : List Cl} {j : Nat} {X : AV} {b : Bool} (h : j < m.length) : gO (aI eO (dI m j X)) (0 + j * 4 + 1) [.v (.bool b)] = aI eO (dI (m.set j { m[j]! with alive := b }) j X) := by
 have e : dI (m.set j { m[j]! with alive := b }) j X = (dI m j X).set j ⟨m[j]!.val, b, m[j]!.next, X⟩ := by
  have e2 : (m.set j { m[j]! with alive := b })[j]! = { m[j]! with alive := b } := by rw [cV _ _ (by rw [List.length_set]; exact h), List.getElem_set_self]
  unfold dI
  rw [e2, List.map_set, List.set_set, List.set_set]; rfl
 rw [e]
 exact dZ (by rw [dH]; exact h) (by simp) (by rw [fY h]; rfl)
theorem m4 (m : List Cl) (hm : OkM m) (x : Pt) : PC Tryz.prog 134 [sl cK m, kQ x] (fun r => r = .tup [sl cK (dT m x false), iv (lV m x), iv (cD m x false)]) := by
 have hml := hm.l
 by_cases hk : cD m x false = 0
 ·obtain ⟨c, t⟩ := x
  obtain ⟨h1, h2, h3, h4, _⟩ := dN hk
  obtain ⟨j, rfl⟩ := Int.eq_ofNat_of_zero_le (show 0 ≤ c from h1)
  have hj : j < m.length := by have : (j : Int) < m.length := h2;omega
  obtain ⟨k, hkk⟩ := Int.eq_ofNat_of_zero_le (show 0 ≤ c5 m[j]!.stk t from h4)
  obtain ⟨r, hr⟩ : ∃ r, r = fM m[j]!.stk k false := ⟨_, rfl⟩
  have hto := uC m j t r k m.length hm rfl hj hkk h3 hr
  have hog := fY (m := m) (j := j) (X := .own (0 + 1 + 3 + 3) 0 r.length 2) hj
  have hol := dH (m := m) (j := j) (X := .own (0 + 1 + 3 + 3) 0 r.length 2)
  (refine aS Tryz.func134 rfl (by simp [Tryz.ntmps134]) ?_; rw [Tryz.ntmps134])
  repeat' (first|(apply aL;first|((apply l3 (j := j));(case ha0 => rfl);(case hmc => exact pL m j hm hj);(case hM|hN => rfl))|((apply rE (m := m) (j := j) (t := t) (r := r) (n := m.length));(case ha0|ha1|ha2|hH0|hH1|hdd => rfl);(case hmc => exact hto);(case hM|hN => rfl))|(apply aE;rfl;rfl)|(first|(apply cH;(case hx|hH => rfl);(case hf|hg|hα => infer_instance);(case hk => omega);(case hc|hN => rfl))|(apply aP;rfl;rfl;rfl;rfl)|(apply aR;rfl;rfl;(exact (rfl:_=[_, _]));rfl;rfl;rfl))|(apply aD;rfl;rfl;rfl)|(apply aU;rfl;rfl;rfl;rfl)|(apply aC;rfl;rfl)|(apply cE;rfl;rfl;(assumption);rfl)|(apply aF;kernel_rfl)|(apply bA;rfl;rfl;rfl;rfl))|(apply aM;first|apply aH|apply aB|(apply bZ;kernel_rfl)|(apply b9;rfl;(rfl))|apply aV|apply aO)|with_reducible apply aA)
  refine b0 (Le.cls (o := 2) (q := 7) (j := j) (k := r.length) (m := m) (r := r) rfl rfl rfl hj (by decide)) ?_
  refine b0 (Le.frzD (d := 4) (i := 2) rfl rfl) ?_
  rw [hog]
  refine aK (l := [.imm m.length (aI cK (m.set j { m[j]! with stk := r })), iv m[j]!.val, iv 0]) rfl ?_
  have eM : dT m ⟨j, t⟩ false = m.set j { m[j]! with stk := r } := by
   unfold dT nQ;rw [if_pos hk]; dsimp only
   rw [Int.toNat_natCast, hkk, Int.toNat_natCast, hr]
  have eN : lV m ⟨j, t⟩ = m[j]!.val := by unfold lV;rw [if_pos hk]; rfl
  rw [eM, eN, hk, eH (by rw [List.length_set])]
  exact ⟨rfl, by (exact Pur.pf)⟩
 ·(refine aS Tryz.func134 rfl (by simp [Tryz.ntmps134]) ?_; rw [Tryz.ntmps134])
  repeat' (first|(apply aL;first|(apply fX;rfl;exact iU m hm;rfl;rfl)|((apply kO (m := m) (x := x) (wr := false) (n := m.length));(case ha0|ha1|ha2|hH0 => rfl);(case hmc => exact lE m x false _ hm rfl hk);(case hM|hN => rfl))|(apply aE;rfl;rfl)|(apply aR;rfl;rfl;(exact (rfl:_=[_, _]));rfl;rfl;rfl)|(apply aU;rfl;rfl;rfl;rfl)|(apply aC;rfl;rfl)|(apply aF;kernel_rfl)|(apply bA;rfl;rfl;rfl;rfl))|(apply aM;first|apply aH|apply aB|(apply aQ;rfl;all_goals intro hc;have hq:=hc;(try simp only [cC] at hq);try exfalso;omega)|apply aO)|with_reducible apply aA|with_reducible apply a8)
  (refine b0 (Le.frzD (d := 4) (i := 2) rfl rfl) ?_; refine aK rfl ?_)
  refine ⟨?_, by (exact Pur.pf)⟩
  simp only [bX]
  unfold dT lV;rw [if_neg hk, if_neg hk]
theorem vH (m : List Cl) (hm : OkM m) (x : Pt) : PC Tryz.prog 188 [sl cK m, kQ x] (fun r => r = .tup [sl cK (jW m x), iv (cD m x true)]) := by
 have hml := hm.l
 by_cases hk : cD m x true = 0
 ·obtain ⟨c, t⟩ := x
  obtain ⟨h1, h2, h3, h4, hu⟩ := dN hk
  obtain ⟨j, rfl⟩ := Int.eq_ofNat_of_zero_le (show 0 ≤ c from h1)
  have hj : j < m.length := by have : (j : Int) < m.length := h2;omega
  obtain ⟨k, hkk⟩ := Int.eq_ofNat_of_zero_le (show 0 ≤ c5 m[j]!.stk t from h4)
  have huk : m[j]!.stk[k]!.uq = true := by
   have h : m[j]!.stk[(c5 m[j]!.stk t).toNat]!.uq = true := hu rfl
   rwa [hkk, Int.toNat_natCast] at h
  have htw := pE m j t k m.length hm rfl hj hkk h3 huk
  have hrl : (m[j]!.stk.take (k + 1)).length = k + 1 := by
   have hb := eI m[j]!.stk t
   rw [List.length_take]; omega
  have hol := dH (m := m) (j := j) (X := .own (0 + 1 + 2) 0 (k + 1) 2)
  have hls : (m.set j { m[j]! with alive := false }).length = m.length := List.length_set
  (refine aS Tryz.func188 rfl (by simp [Tryz.ntmps188]) ?_; rw [Tryz.ntmps188])
  repeat' (first|(apply aL;first|((apply l3 (j := j));(case ha0 => rfl);(case hmc => exact pL m j hm hj);(case hM|hN => rfl))|((apply qY (m := m) (j := j) (t := t) (k := k) (n := m.length));(case ha0|ha1|ha2|hH0|hH1|hdd => rfl);(case hmc => exact htw);(case hM|hN => rfl))|(apply aW;rfl;rfl;rfl;rfl;rfl;(rw [aT]; simp only [List.length_append, List.length_cons, List.length_nil]; omega);exact C3 hj)|(apply aE;rfl;rfl)|(first|(apply aP;rfl;rfl;rfl;rfl)|(apply aR;rfl;rfl;(exact (rfl:_=[_, _]));rfl;rfl;rfl))|(apply aD;rfl;rfl;rfl)|(apply aU;rfl;rfl;rfl;rfl)|(apply aC;rfl;rfl)|(apply cE;rfl;rfl;(assumption);rfl)|(apply aF;kernel_rfl)|(apply bA;rfl;rfl;rfl;rfl))|(apply aM;first|apply aH|apply aB|(apply bR;rfl;(rfl))|apply aO)|with_reducible apply aA)
  refine b0 (Le.cls (o := 2) (q := 3) (j := j) (k := k + 1) (m := m.set j { m[j]! with alive := false }) (r := m[j]!.stk.take (k + 1)) rfl rfl hrl.symm (by rw [hls]; exact hj) (by decide)) ?_
  refine b0 (Le.frzD (d := 4) (i := 2) rfl rfl) ?_
  rw [jN hj, set_set]
  refine aK (l := [.imm m.length (aI cK (m.set j { m[j]! with alive := false, stk := m[j]!.stk.take (k + 1) })), iv 0]) rfl ?_
  have eM : jW m ⟨j, t⟩ = m.set j { m[j]! with alive := false, stk := m[j]!.stk.take (k + 1) } := by
   unfold jW nQ;rw [if_pos hk]; dsimp only
   rw [Int.toNat_natCast, hkk, Int.toNat_natCast]; unfold fM;rw [if_pos rfl]
  rw [eM, hk, eH (by rw [List.length_set])]
  exact ⟨rfl, by (exact Pur.pf)⟩
 ·(refine aS Tryz.func188 rfl (by simp [Tryz.ntmps188]) ?_; rw [Tryz.ntmps188])
  repeat' (first|(apply aL;first|(apply fX;rfl;exact iU m hm;rfl;rfl)|((apply kO (m := m) (x := x) (wr := true) (n := m.length));(case ha0|ha1|ha2|hH0 => rfl);(case hmc => exact lE m x true _ hm rfl hk);(case hM|hN => rfl))|(apply aE;rfl;rfl)|(apply aR;rfl;rfl;(exact (rfl:_=[_, _]));rfl;rfl;rfl)|(apply aU;rfl;rfl;rfl;rfl)|(apply aC;rfl;rfl)|(apply aF;kernel_rfl)|(apply bA;rfl;rfl;rfl;rfl))|(apply aM;first|apply aH|apply aB|(apply aQ;rfl;all_goals intro hc;have hq:=hc;(try simp only [cC] at hq);try exfalso;omega)|apply aV|apply aO)|with_reducible apply aA)
  (refine b0 (Le.frzD (d := 4) (i := 2) rfl rfl) ?_; refine aK rfl ?_)
  refine ⟨?_, by (exact Pur.pf)⟩
  simp only [bX]
  unfold jW;rw [if_neg hk]
theorem sL (m : List Cl) (hm : OkM m) (x : Pt) (v : Int) : PC Tryz.prog 135 [sl cK m, kQ x, iv v] (fun r => r = .tup [sl cK (vP m x v), iv (rI m x v)]) := by
 have hml := hm.l
 by_cases hv : 0 ≤ v ∧ v ≤ 9
 case neg =>
  have hwk : rI m x v = 4 := by unfold rI;rw [if_neg hv]
  have e : vP m x v = m := by unfold vP;rw [if_neg (by rw [hwk]; decide)]
  (refine aS Tryz.func135 rfl (by simp [Tryz.ntmps135]) ?_; rw [Tryz.ntmps135])
  repeat' (first|(apply aL;first|(apply fX;rfl;exact iU m hm;rfl;rfl)|(apply aE;rfl;rfl)|(apply aC;rfl;rfl)|((with_reducible apply aJ (k := 84));(case ha => rfl);(case h => (apply dL <;> (fail)));(case hp => (rfl));(case hN => rfl))|(apply aF;kernel_rfl)|(apply bW;rfl;rfl)|(apply bA;rfl;rfl;rfl;rfl))|(apply aM;first|apply aH|apply aB|(apply aQ;rfl;all_goals intro hc;have hq:=hc;(try simp only [cC] at hq);try exfalso;omega)|apply aO)|with_reducible apply aA|with_reducible apply a8)
  all_goals (try (exfalso;omega))
  all_goals (
   (refine b0 (Le.frzD (d := 6) (i := 2) rfl rfl) ?_; refine aK rfl ?_)
   refine ⟨?_, by (exact Pur.pf)⟩
   simp only [bX]
   rw [e, hwk])
 case pos =>
 have hwk : rI m x v = cD m x true := by unfold rI;rw [if_pos hv]
 by_cases hk : cD m x true = 0
 ·obtain ⟨c, t⟩ := x
  obtain ⟨h1, h2, h3, h4, hu⟩ := dN hk
  obtain ⟨j, rfl⟩ := Int.eq_ofNat_of_zero_le (show 0 ≤ c from h1)
  have hj : j < m.length := by have : (j : Int) < m.length := h2;omega
  obtain ⟨k, hkk⟩ := Int.eq_ofNat_of_zero_le (show 0 ≤ c5 m[j]!.stk t from h4)
  have huk : m[j]!.stk[k]!.uq = true := by
   have h : m[j]!.stk[(c5 m[j]!.stk t).toNat]!.uq = true := hu rfl
   rwa [hkk, Int.toNat_natCast] at h
  have htw := pE m j t k m.length hm rfl hj hkk h3 huk
  have hrl : (m[j]!.stk.take (k + 1)).length = k + 1 := by
   have hb := eI m[j]!.stk t
   rw [List.length_take]; omega
  have hol := dH (m := m) (j := j) (X := .own (0 + 1 + 2) 0 (k + 1) 2)
  have hls : (m.set j { m[j]! with val := v }).length = m.length := List.length_set
  (refine aS Tryz.func135 rfl (by simp [Tryz.ntmps135]) ?_; rw [Tryz.ntmps135])
  repeat' (first|(apply aL;first|((apply l3 (j := j));(case ha0 => rfl);(case hmc => exact pL m j hm hj);(case hM|hN => rfl))|((apply qY (m := m) (j := j) (t := t) (k := k) (n := m.length));(case ha0|ha1|ha2|hH0|hH1|hdd => rfl);(case hmc => exact htw);(case hM|hN => rfl))|(apply aW;rfl;rfl;rfl;rfl;rfl;(rw [aT]; simp only [List.length_append, List.length_cons, List.length_nil]; omega);exact D4 hj)|(apply aE;rfl;rfl)|(first|(apply aP;rfl;rfl;rfl;rfl)|(apply aR;rfl;rfl;(exact (rfl:_=[_, _]));rfl;rfl;rfl))|(apply aD;rfl;rfl;rfl)|(apply aU;rfl;rfl;rfl;rfl)|(apply aC;rfl;rfl)|(apply cE;rfl;rfl;(assumption);rfl)|((with_reducible apply aJ (k := 84));(case ha => rfl);(case h => (apply dL <;> (fail)));(case hp => (rfl));(case hN => rfl))|(apply aF;kernel_rfl)|(apply bW;rfl;rfl)|(apply bA;rfl;rfl;rfl;rfl))|(apply aM;first|apply aH|apply aB|(apply bR;rfl;(rfl))|(apply aQ;rfl;all_goals intro hc;have hq:=hc;(try simp only [cC] at hq);try exfalso;omega)|apply aV|apply aO)|with_reducible apply aA)
  refine b0 (Le.cls (o := 2) (q := 3) (j := j) (k := k + 1) (m := m.set j { m[j]! with val := v }) (r := m[j]!.stk.take (k + 1)) rfl rfl hrl.symm (by rw [hls]; exact hj) (by decide)) ?_
  refine b0 (Le.frzD (d := 6) (i := 2) rfl rfl) ?_
  rw [jN hj, set_set]
  refine aK (l := [.imm m.length (aI cK (m.set j { m[j]! with val := v, stk := m[j]!.stk.take (k + 1) })), iv 0]) rfl ?_
  have eM : vP m ⟨j, t⟩ v = m.set j { m[j]! with val := v, stk := m[j]!.stk.take (k + 1) } := by
   unfold vP nQ;rw [hwk, if_pos hk]; dsimp only
   rw [Int.toNat_natCast, hkk, Int.toNat_natCast]; unfold fM;rw [if_pos rfl]
  rw [eM, hwk, hk, eH (by rw [List.length_set])]
  exact ⟨rfl, by (exact Pur.pf)⟩
 ·(refine aS Tryz.func135 rfl (by simp [Tryz.ntmps135]) ?_; rw [Tryz.ntmps135])
  repeat' (first|(apply aL;first|(apply fX;rfl;exact iU m hm;rfl;rfl)|((apply kO (m := m) (x := x) (wr := true) (n := m.length));(case ha0|ha1|ha2|hH0 => rfl);(case hmc => exact lE m x true _ hm rfl hk);(case hM|hN => rfl))|(apply aE;rfl;rfl)|(apply aR;rfl;rfl;(exact (rfl:_=[_, _]));rfl;rfl;rfl)|(apply aU;rfl;rfl;rfl;rfl)|(apply aC;rfl;rfl)|((with_reducible apply aJ (k := 84));(case ha => rfl);(case h => (apply dL <;> (fail)));(case hp => (rfl));(case hN => rfl))|(apply aF;kernel_rfl)|(apply bW;rfl;rfl)|(apply bA;rfl;rfl;rfl;rfl))|(apply aM;first|apply aH|apply aB|(apply aQ;rfl;all_goals intro hc;have hq:=hc;(try simp only [cC] at hq);try exfalso;omega)|apply aV|apply aO)|with_reducible apply aA)
  (refine b0 (Le.frzD (d := 6) (i := 2) rfl rfl) ?_; refine aK rfl ?_)
  refine ⟨?_, by (exact Pur.pf)⟩
  simp only [bX]
  unfold vP;rw [hwk, if_neg hk]
theorem wT (m : List Cl) (hm : OkM m) (v : Int) : PC Tryz.prog 185 [sl cK m, iv v] (fun r => r = .tup [sl cK (m ++ [p7 v]), .agg [iv m.length, iv 0]]) := by
 have hml := hm.l
 (refine aS Tryz.func185 rfl (by simp [Tryz.ntmps185]) ?_; rw [Tryz.ntmps185])
 repeat' (first|(apply aL;first|(apply fX;rfl;exact iU m hm;rfl;rfl)|(apply aE;rfl;rfl)|(apply aC;rfl;rfl)|(first|(apply bM;rfl;rfl;rfl)|(apply bV;rfl;rfl;rfl;rfl;rfl;(rw [aT]; omega);(rfl);omega;omega;(rfl);rfl;rfl))|(apply aF;kernel_rfl)|(apply bY;rfl;(first|exact (rfl:_=some [_, _])|exact (rfl:_=some [_, _, _, _]));(first|exact (rfl:_=[_, _])|exact (rfl:_=[_, _, _, _]));rfl)|(apply bD;rfl;rfl)|((apply bF (t := _));(case hze|hsm|hl => rfl);(case hfl => (first|exact (rfl:_=some [_, _])|exact (rfl:_=some [_, _, _, _])));(case hM|hN => rfl))|(apply aW;rfl;rfl;rfl;rfl;rfl;(case hl => (simp;done));(exact (rfl:_=[_, _]))))|(apply aM;first|apply aH|apply aB|apply aO)|with_reducible apply aA)
 have e2 : AV.imm (m.length + 1) (((aI cK m).drop 0).take (m.length * 4) ++ [iv v, bv true, iv 1, .imm 1 [iv 0, bv true]]) = sl cK (m ++ [p7 v]) := by
  have e : ((aI cK m).drop 0).take (m.length * 4) ++ [iv v, bv true, iv 1, .imm 1 [iv 0, bv true]] = aI cK (m ++ [p7 v]) := gD rfl rfl
  rw [e]; exact eH (by rw [List.length_append]; rfl)
 refine b0 (Le.frzD (d := 4) (i := 5) rfl rfl) ?_
 refine aK (l := [AV.imm (m.length + 1) (((aI cK m).drop 0).take (m.length * 4) ++ [iv v, bv true, iv 1, .imm 1 [iv 0, bv true]]), .agg [iv m.length, iv 0]]) rfl ?_
 rw [e2]
 exact ⟨rfl, by (exact Pur.pf)⟩
theorem xN (m : List Cl) (hm : OkM m) (v : Int) : PC Tryz.prog 130 [sl cK m, iv v] (fun r => r = .tup (if 0 ≤ v ∧ v ≤ 9 ∧ m.length < 200 then [sl cK (m ++ [p7 v]), .agg [iv m.length, iv 0], bv true] else [sl cK [], .agg [iv 0, iv 0], bv false])) := by
 have hml := hm.l
 have hcv := fU m hm
 have hnc := wT m hm v
 (refine aS Tryz.func130 rfl (by simp [Tryz.ntmps130]) ?_; rw [Tryz.ntmps130])
 repeat' (first|(apply aL;first|((with_reducible apply aJ (k := 184));(case ha => rfl);(case h => exact hcv);(case hp => (exact Pur.pf));(case hN => rfl))|((with_reducible apply aJ (k := 185));(case ha => rfl);(case h => exact hnc);(case hp => (exact Pur.pf));(case hN => rfl))|(apply aE;rfl;rfl)|(apply aR;rfl;rfl;(exact (rfl:_=[_, _]));rfl;rfl;rfl)|(first|(apply aY;rfl;rfl;rfl;(first|rfl|assumption))|(apply a7;rfl;rfl;rfl;(assumption))|(apply bE;(case hj|hb|hN => rfl);all_goals (intro hg;have hq := hg;(try simp only [cC] at hq);(try (exfalso;omega)))))|(apply aU;rfl;rfl;rfl;rfl)|(apply aC;rfl;rfl)|(first|(apply bJ;rfl;(assumption);rfl;rfl)|(apply bC;rfl;(first|rfl|assumption);rfl;rfl))|((with_reducible apply aJ (k := 84));(case ha => rfl);(case h => (apply dL <;> (fail)));(case hp => (rfl));(case hN => rfl))|(apply bM;rfl;rfl;rfl)|(apply aF;kernel_rfl)|(apply bY;rfl;(exact (rfl:_=some [_, _]));(exact (rfl:_=[_, _]));rfl)|(apply bW;rfl;rfl)|(apply bD;rfl;rfl)|(apply aZ;rfl;rfl;rfl)|(apply aW;rfl;rfl;rfl;rfl;rfl;(case hl => (first|decide|(simp;done)));(exact (rfl:_=[_, _]))))|(apply aM;first|apply aH|apply aB|(apply bZ;kernel_rfl)|(apply bR;rfl;(rfl))|(apply aQ;rfl;all_goals intro hc;have hq:=hc;(try simp only [cC] at hq);try exfalso;omega)|apply aV|apply aO)|with_reducible apply aA|with_reducible apply a8)
 ·refine b0 (Le.nilImm (d := 4) rfl) ?_
  exact aK (l := [sl cK [], .agg [iv 0, iv 0], bv false]) rfl ⟨by rw [if_neg (by omega)]; rfl, rfl⟩
 ·exact aK (l := [sl cK (m ++ [p7 v]), .agg [iv m.length, iv 0], bv true]) rfl ⟨by rw [if_pos (by omega)]; rfl, by (exact Pur.pf)⟩
 ·refine b0 (Le.nilImm (d := 4) rfl) ?_
  exact aK (l := [sl cK [], .agg [iv 0, iv 0], bv false]) rfl ⟨by rw [if_neg (by omega)]; rfl, rfl⟩
theorem AG {m : List Cl} {j : Nat} {t : Int} {r : List Tg} {n : Nat} {N : Nat} {Q : Exit → AS → Prop} {all : Array Oper} {rest : List Oper} {tsl : List (Nat × AV)} {hsl : List (Nat × Option (List AV))} {nidl : Nat} {z0 : Lo} {md : Md} {d : Nat} {ty : TypeId} {pos : String} {af : Array Edge} {tys : Array TypeId} {x0 x1 x2 : Operand} {i0 i1 : Nat} (ha0 : ev (lk tsl) x0 = some (.own i0 0 n 4)) (ha1 : ev (lk tsl) x1 = some (.agg [iv (j : Int), iv t])) (ha2 : ev (lk tsl) x2 = some (bv true)) (hH0 : b8 hsl i0 = some (aI eO (dI m j (.own i1 0 m[j]!.stk.length 2)))) (hH1 : b8 hsl i1 = some (aI c6 m[j]!.stk)) (hdd : Go.AL.distinct [i0, i1] = true) (hmc : MC Tryz.prog 187 [.own 0 0 n 4, .agg [iv (j : Int), iv t], bv true] [(0, some (aI eO (dI m j (.own 1 0 m[j]!.stk.length 2)))), (1, some (aI c6 m[j]!.stk))] 2 (fun _ : Unit => True) (fun _ => iv 0) (fun _ => [(0, some (aI eO (dI m j (.own 1 0 r.length 2)))), (1, some (aI c6 r))])) (hM : Nat.ble (nidl + 0) dR = true) (hN : Nat.blt d N = true) {md' : Md} [hmd : MdA md (e7 [x0, x1, x2] ++ [.inr i0, .inr i1]) (List.map Sum.inr (List.map Prod.fst ([(i0, some (aI eO (dI m j (.own i1 0 r.length 2)))), (i1, some (aI c6 r))] : List (Nat × Option (List AV)))) ++ [.inl d]) md'] (kk : RW Tryz.prog N all Q md' rest ⟨(d, iv 0) :: tsl, fS hsl [(i0, some (aI eO (dI m j (.own i1 0 r.length 2)))), (i1, some (aI c6 r))], nidl + 0, z0⟩) : RW Tryz.prog N all Q md (⟨some d, .call ⟨.value (.func 187), #[x0, x1, x2], tys⟩, ty, pos, af, none⟩ :: rest) ⟨tsl, hsl, nidl, z0⟩ := by
 refine bP [i0, i1] 2 [(i0, some (aI eO (dI m j (.own i1 0 r.length 2)))), (i1, some (aI c6 r))] hmc (avs := [.own i0 0 n 4, .agg [iv (j : Int), iv t], bv true]) ?_ hdd ?_ rfl ?_ (by simpa using hM) ?_ ?_ ?_ hN (md' := md') (hmd := hmd) kk
 ·show evL (lk tsl) [x0, x1, x2] = _
  simp only [evL, ha0, ha1, ha2]
 ·exact ⟨⟨_, _, rfl, hH0, by (repeat' (exact iV rfl))⟩, ⟨⟨_, _, rfl, hH1, by (repeat' (exact RnL.purI inferInstance))⟩, trivial⟩⟩
 ·(repeat' (first|exact RnL.purI inferInstance|exact RnV.own rfl|refine RnL.cons ?_ ?_))
 ·(repeat' (exact RnV.purI inferInstance))
 ·simp [cZ]
 ·(repeat' (first|exact trivial|(refine And.intro ⟨0, _, rfl, rfl, ?_⟩ ?_)|(refine And.intro ⟨1, _, rfl, rfl, ?_⟩ ?_)|exact RnL.purI inferInstance|exact iV rfl))
theorem Cc (m : List Cl) (j : Nat) (t : Int) (r : List Tg) (k n : Nat) (hm : OkM m) (hn : n = m.length) (hj : j < m.length) (hk : c5 m[j]!.stk t = (k : Int)) (hal : m[j]!.alive = true) (hu : m[j]!.stk[k]!.uq = true) (hre : m[j]!.stk.take (k + 1) = r) (hrk : k + 1 = r.length) : MC Tryz.prog 187 [.own 0 0 n 4, .agg [iv (j : Int), iv t], bv true] [(0, some (aI eO (dI m j (.own 1 0 m[j]!.stk.length 2)))), (1, some (aI c6 m[j]!.stk))] 2 (fun _ : Unit => True) (fun _ => iv 0) (fun _ => [(0, some (aI eO (dI m j (.own 1 0 r.length 2)))), (1, some (aI c6 r))]) := by
 have h := pE m j t k n hm hn hj hk hal hu
 rw [hre, hrk] at h
 exact h
theorem C5 (m : List Cl) (hm : OkM m) (j k : Nat) (t : Int) (r : List Tg) (hj : j < m.length) (hkk : c5 m[j]!.stk t = (k : Int)) (hk : cD m ⟨(j : Int), t⟩ false = 0) (hr : r = fM m[j]!.stk k false) : PC Tryz.prog 132 [sl cK m, .agg [iv (j : Int), iv t], bv false] (fun z => z = .tup [sl cK (iD m m j false r), kQ (iG m j r), iv (iF m j r)]) := by
 have hml := hm.l
 obtain ⟨h1, h2, h3, h4, hu⟩ := dN hk
 have hc := ((dF m).1 hm).2 j hj
 have hb := eI m[j]!.stk t
 have hrl : r.length ≤ 200 := by rw [hr]; exact Nat.le_trans tchS_sub.length_le hc.l.2
 have hnx := hc.n
 obtain ⟨_, e2, _⟩ := qT hk (r := r) (by rw [hr]; show _ = fM m[j]!.stk (c5 m[j]!.stk t).toNat false;rw [hkk]; rfl)
 have e2' : kW m ⟨(j : Int), t⟩ false = iD m m j false r := e2
 have hok := hm.ln ⟨(j : Int), t⟩ false
 rw [e2'] at hok
 have hto := uC m j t r k m.length hm rfl hj hkk h3 hr
 have hog := fY (m := m) (j := j) (X := .own (0 + 1 + 1 + 3 + 3) 0 r.length 2) hj
 have hol := dH (m := m) (j := j) (X := .own (0 + 1 + 1 + 3 + 3) 0 r.length 2)
 have hol2 := dH (m := m) (j := j) (X := .own (0 + 1 + 1 + 3 + 4 + 1) 0 (r.length + 1) 2)
 have hm2 : (m.set j { m[j]! with next := m[j]!.next + 1 }).length = m.length := List.length_set
 (refine aS Tryz.func132 rfl (by simp [Tryz.ntmps132]) ?_; rw [Tryz.ntmps132])
 repeat' (first|(apply aL;first|((apply l3 (j := j));(case ha0 => rfl);(case hmc => exact pL m j hm hj);(case hM|hN => rfl))|((apply rE (m := m) (j := j) (t := t) (r := r) (n := m.length));(case ha0|ha1|ha2|hH0|hH1|hdd => rfl);(case hmc => exact hto);(case hM|hN => rfl))|(with_reducible apply cF (d := 32))|(apply aE;rfl;rfl)|(first|(apply cH;(case hx|hH => rfl);(case hf|hg|hα => infer_instance);(case hk => omega);(case hc|hN => rfl))|(apply aP;rfl;rfl;rfl;rfl)|(apply aR;rfl;rfl;(exact (rfl:_=[_, _]));rfl;rfl;rfl))|(apply aD;rfl;rfl;rfl)|(apply aU;rfl;rfl;rfl;rfl)|(apply aC;rfl;rfl)|(apply cE;rfl;rfl;(assumption);rfl)|(apply aF;kernel_rfl)|(apply cB;rfl;rfl;rfl)|(apply bA;rfl;rfl;rfl;rfl)|(apply bD;rfl;rfl))|(apply aM;first|apply aH|apply aB|(apply b9;rfl;(rfl))|apply aV)|with_reducible apply aA)
 refine dB ?_
 rw [hog]
 dsimp only
 by_cases hf : lB m j r
 ·have eM : iD m m j false r = m := by unfold iD; rw [if_pos hf]
  have eP : iG m j r = ⟨0, 0⟩ := by unfold iG;rw [if_pos hf]
  have eK : iF m j r = 4 := by unfold iF;rw [if_pos hf]
  rw [eM, eP, eK]
  unfold lB at hf
  repeat' (first|(apply aL;first|(apply fX;rfl;exact iU m hm;rfl;rfl)|(with_reducible apply cF (d := 44))|(apply aE;rfl;rfl)|(apply cH;(case hx|hH => rfl);(case hf|hg|hα => infer_instance);(case hk => omega);(case hc|hN => rfl))|(apply aD;rfl;rfl;rfl)|(first|(apply aY;rfl;rfl;rfl;(assumption))|(apply a7;rfl;rfl;rfl;(assumption))|(apply bE;(case hj|hb|hN => rfl);all_goals (intro hg;have hq := hg;(try simp only [cC] at hq);(try (exfalso;omega)))))|(apply aU;rfl;rfl;rfl;rfl)|(apply aC;rfl;rfl)|(first|(apply bJ;rfl;(assumption);rfl;rfl)|(apply bC;rfl;(assumption);rfl;rfl))|(apply bM;rfl;rfl;rfl)|(apply aF;kernel_rfl)|(apply bY;rfl;(exact (rfl:_=some [_, _]));(exact (rfl:_=[_, _]));rfl)|(apply cB;rfl;rfl;rfl)|(apply aW;rfl;rfl;rfl;rfl;rfl;(decide);(exact (rfl:_=[_, _]))))|(apply aM;first|apply aH|apply aB|(apply bR;rfl;(rfl))|(apply aQ;rfl;all_goals intro hc;have hq:=hc;(try simp only [cC] at hq);try exfalso;omega)|apply aV|apply aO)|with_reducible apply aA|with_reducible apply a8)
  ·refine b0 (Le.frzD (d := 6) (i := 10) rfl rfl) ?_
   exact aK (l := [sl cK m, .agg [iv 0, iv 0], iv 4]) rfl ⟨rfl, by (exact Pur.pf)⟩
  ·exfalso
   have h : ¬ (dI m j (.own (0 + 1 + 1 + 3 + 3) 0 r.length 2))[j]!.next = 1000 := by assumption
   rw [hog] at h
   dsimp only at h
   omega
  ·refine b0 (Le.frzD (d := 6) (i := 10) rfl rfl) ?_
   exact aK (l := [sl cK m, .agg [iv 0, iv 0], iv 4]) rfl ⟨rfl, by (exact Pur.pf)⟩
 ·have eM : iD m m j false r = m.set j (psh { m[j]! with stk := r } false) := by unfold iD; rw [if_neg hf]
  have eP : iG m j r = ⟨j, m[j]!.next⟩ := by unfold iG;rw [if_neg hf]
  have eK : iF m j r = 0 := by unfold iF;rw [if_neg hf]
  rw [eM] at hok
  rw [eM, eP, eK]
  unfold lB at hf
  have hown := iU _ hok
  repeat' (first|(apply aL;first|(with_reducible apply cF (d := 41))|(with_reducible apply cF (d := 54))|(apply aE;rfl;rfl)|(apply cH;(case hx|hH => rfl);(case hf|hg|hα => infer_instance);(case hk => omega);(case hc|hN => rfl))|(apply aD;rfl;rfl;rfl)|(first|(apply aY;rfl;rfl;rfl;(assumption))|(apply bE;(case hj|hb|hN => rfl);all_goals (intro hg;have hq := hg;(try simp only [cC] at hq);(try (exfalso;omega)))))|(apply aU;rfl;rfl;rfl;rfl)|(apply aC;rfl;rfl)|(apply bC;rfl;(assumption);rfl;rfl)|(apply bM;rfl;rfl;rfl)|(apply aF;kernel_rfl)|(apply cB;rfl;rfl;rfl))|(apply aM;first|apply aH|apply aB|(apply aQ;rfl;all_goals intro hc;have hq:=hc;(try simp only [cC] at hq);try exfalso;omega)|apply aV)|with_reducible apply aA)
  ·exfalso
   have h : (dI m j (.own (0 + 1 + 1 + 3 + 3) 0 r.length 2))[j]!.next = 1000 := by assumption
   rw [hog] at h
   dsimp only at h
   omega
  ·refine dB ?_
   rw [hog]
   dsimp only
   repeat' (first|(apply aL;first|(apply aW;rfl;rfl;rfl;rfl;rfl;(rw [aT, dH]; simp only [List.length_append, List.length_cons, List.length_nil]; omega);(first|exact pA hj|exact s9 hj))|(apply aE;rfl;rfl)|(apply aD;rfl;rfl;rfl)|(apply bN;rfl;rfl;omega;rfl)|(apply bV;rfl;rfl;rfl;rfl;rfl;(rw [aT]; omega);(rfl);omega;omega;(exact pD (by (omega)));rfl;rfl)|(apply aF;kernel_rfl)|(apply bY;rfl;(exact (rfl:_=some [_, _]));(exact (rfl:_=[_, _]));rfl)|(apply cB;rfl;rfl;rfl)|((apply bF (t := _));(case hze|hsm|hl => rfl);(case hfl => (exact (rfl:_=some [_, _])));(case hM|hN => rfl)))|(apply aM;(apply aH))|with_reducible apply aA)
   refine AW.le ?_ (Le.cls (o := 3) (q := 0 + 1 + 1 + 3 + 4 + 1) (j := j) (k := r.length + 1) (m := m.set j { m[j]! with next := m[j]!.next + 1 }) (r := r ++ [⟨m[j]!.next, false⟩]) rfl rfl (by (rw [List.length_append]; rfl)) (by omega) (by decide))
   refine AW.le ?_ (Le.frzD (d := 9) (i := 3) rfl rfl)
   have e : (m.set j { m[j]! with next := m[j]!.next + 1 }).set j { (m.set j { m[j]! with next := m[j]!.next + 1 })[j]! with stk := r ++ [⟨m[j]!.next, false⟩] } = m.set j (psh { m[j]! with stk := r } false) := by
    rw [jN hj, set_set]; rfl
   rw [e, eH (f := cK) (xs := m.set j (psh { m[j]! with stk := r } false)) (by rw [List.length_set])]
   repeat' (first|(apply aL;first|(apply fX;rfl;exact hown;rfl;rfl)|(apply aE;rfl;rfl)|(apply aP;rfl;rfl;rfl;rfl)|(apply aD;rfl;rfl;rfl)|(apply aC;rfl;rfl)|(apply aF;kernel_rfl)|(apply bY;rfl;(exact (rfl:_=some [_, _]));(exact (rfl:_=[_, _]));rfl)|(apply aW;rfl;rfl;rfl;rfl;rfl;(case hl => (simp;done));(exact (rfl:_=[_, _]))))|(apply aM;first|(apply bZ;kernel_rfl)|apply aO)|with_reducible apply aA)
   refine b0 (Le.frzD (d := 6) (i := 12) rfl rfl) ?_
   exact aK (l := [sl cK (m.set j (psh { m[j]! with stk := r } false)), .agg [iv (j : Int), iv m[j]!.next], iv 0]) rfl ⟨rfl, by (exact Pur.pf)⟩
  all_goals (exfalso;omega)
theorem Df (m : List Cl) (hm : OkM m) (j k : Nat) (t : Int) (r : List Tg) (hj : j < m.length) (hkk : c5 m[j]!.stk t = (k : Int)) (hk : cD m ⟨(j : Int), t⟩ true = 0) (hr : r = fM m[j]!.stk k true) : PC Tryz.prog 132 [sl cK m, .agg [iv (j : Int), iv t], bv true] (fun z => z = .tup [sl cK (iD m m j true r), kQ (iG m j r), iv (iF m j r)]) := by
 have hml := hm.l
 obtain ⟨h1, h2, h3, h4, hu⟩ := dN hk
 have hc := ((dF m).1 hm).2 j hj
 have hb := eI m[j]!.stk t
 have hrl : r.length ≤ 200 := by rw [hr]; exact Nat.le_trans tchS_sub.length_le hc.l.2
 have hnx := hc.n
 obtain ⟨_, e2, _⟩ := qT hk (r := r) (by rw [hr]; show _ = fM m[j]!.stk (c5 m[j]!.stk t).toNat true;rw [hkk]; rfl)
 have e2' : kW m ⟨(j : Int), t⟩ true = iD m m j true r := e2
 have hok := hm.ln ⟨(j : Int), t⟩ true
 rw [e2'] at hok
 have huk : m[j]!.stk[k]!.uq = true := by
  have h : m[j]!.stk[(c5 m[j]!.stk t).toNat]!.uq = true := hu rfl
  rwa [hkk, Int.toNat_natCast] at h
 have hre : m[j]!.stk.take (k + 1) = r := by rw [hr]; unfold fM;rw [if_pos rfl]
 have hrk : k + 1 = r.length := by rw [← hre, List.length_take]; omega
 have hto := Cc m j t r k m.length hm rfl hj hkk h3 huk hre hrk
 clear hre hrk huk hu hr hkk
 have hog := fY (m := m) (j := j) (X := .own (0 + 1 + 1 + 2) 0 r.length 2) hj
 have hol := dH (m := m) (j := j) (X := .own (0 + 1 + 1 + 2) 0 r.length 2)
 have hol2 := dH (m := m) (j := j) (X := .own (0 + 1 + 1 + 3 + 0 + 1) 0 (r.length + 1) 2)
 have hm2 : (m.set j { m[j]! with next := m[j]!.next + 1 }).length = m.length := List.length_set
 (refine aS Tryz.func132 rfl (by simp [Tryz.ntmps132]) ?_; rw [Tryz.ntmps132])
 repeat' (first|(apply aL;first|((apply l3 (j := j));(case ha0 => rfl);(case hmc => exact pL m j hm hj);(case hM|hN => rfl))|((apply AG (m := m) (j := j) (t := t) (r := r) (n := m.length));(case ha0|ha1|ha2|hH0|hH1|hdd => rfl);(case hmc => exact hto);(case hM|hN => rfl))|(with_reducible apply cF (d := 32))|(apply aE;rfl;rfl)|(first|(apply cH;(case hx|hH => rfl);(case hf|hg|hα => infer_instance);(case hk => omega);(case hc|hN => rfl))|(apply aP;rfl;rfl;rfl;rfl)|(apply aR;rfl;rfl;(exact (rfl:_=[_, _]));rfl;rfl;rfl))|(apply aD;rfl;rfl;rfl)|(apply aU;rfl;rfl;rfl;rfl)|(apply aC;rfl;rfl)|(apply cE;rfl;rfl;(assumption);rfl)|(apply aF;kernel_rfl)|(apply cB;rfl;rfl;rfl)|(apply bA;rfl;rfl;rfl;rfl)|(apply bD;rfl;rfl))|(apply aM;first|apply aH|apply aB|(apply b9;rfl;(rfl))|apply aV)|with_reducible apply aA)
 refine dB ?_
 rw [hog]
 dsimp only
 by_cases hf : lB m j r
 ·have eM : iD m m j true r = m := by unfold iD; rw [if_pos hf]
  have eP : iG m j r = ⟨0, 0⟩ := by unfold iG;rw [if_pos hf]
  have eK : iF m j r = 4 := by unfold iF;rw [if_pos hf]
  rw [eM, eP, eK]
  unfold lB at hf
  repeat' (first|(apply aL;first|(apply fX;rfl;exact iU m hm;rfl;rfl)|(with_reducible apply cF (d := 44))|(apply aE;rfl;rfl)|(apply cH;(case hx|hH => rfl);(case hf|hg|hα => infer_instance);(case hk => omega);(case hc|hN => rfl))|(apply aD;rfl;rfl;rfl)|(first|(apply aY;rfl;rfl;rfl;(assumption))|(apply a7;rfl;rfl;rfl;(assumption))|(apply bE;(case hj|hb|hN => rfl);all_goals (intro hg;have hq := hg;(try simp only [cC] at hq);(try (exfalso;omega)))))|(apply aU;rfl;rfl;rfl;rfl)|(apply aC;rfl;rfl)|(first|(apply bJ;rfl;(assumption);rfl;rfl)|(apply bC;rfl;(assumption);rfl;rfl))|(apply bM;rfl;rfl;rfl)|(apply aF;kernel_rfl)|(apply bY;rfl;(exact (rfl:_=some [_, _]));(exact (rfl:_=[_, _]));rfl)|(apply cB;rfl;rfl;rfl)|(apply aW;rfl;rfl;rfl;rfl;rfl;(decide);(exact (rfl:_=[_, _]))))|(apply aM;first|apply aH|apply aB|(apply bR;rfl;(rfl))|(apply aQ;rfl;all_goals intro hc;have hq:=hc;(try simp only [cC] at hq);try exfalso;omega)|apply aV|apply aO)|with_reducible apply aA|with_reducible apply a8)
  ·refine b0 (Le.frzD (d := 6) (i := 6) rfl rfl) ?_
   exact aK (l := [sl cK m, .agg [iv 0, iv 0], iv 4]) rfl ⟨rfl, by (exact Pur.pf)⟩
  ·exfalso
   have h : ¬ (dI m j (.own (0 + 1 + 1 + 2) 0 r.length 2))[j]!.next = 1000 := by assumption
   rw [hog] at h
   dsimp only at h
   omega
  ·refine b0 (Le.frzD (d := 6) (i := 6) rfl rfl) ?_
   exact aK (l := [sl cK m, .agg [iv 0, iv 0], iv 4]) rfl ⟨rfl, by (exact Pur.pf)⟩
 ·have eM : iD m m j true r = m.set j (psh { m[j]! with stk := r } true) := by unfold iD; rw [if_neg hf]
  have eP : iG m j r = ⟨j, m[j]!.next⟩ := by unfold iG;rw [if_neg hf]
  have eK : iF m j r = 0 := by unfold iF;rw [if_neg hf]
  rw [eM] at hok
  rw [eM, eP, eK]
  unfold lB at hf
  have hown := iU _ hok
  repeat' (first|(apply aL;first|(with_reducible apply cF (d := 41))|(with_reducible apply cF (d := 54))|(apply aE;rfl;rfl)|(apply cH;(case hx|hH => rfl);(case hf|hg|hα => infer_instance);(case hk => omega);(case hc|hN => rfl))|(apply aD;rfl;rfl;rfl)|(first|(apply aY;rfl;rfl;rfl;(assumption))|(apply bE;(case hj|hb|hN => rfl);all_goals (intro hg;have hq := hg;(try simp only [cC] at hq);(try (exfalso;omega)))))|(apply aU;rfl;rfl;rfl;rfl)|(apply aC;rfl;rfl)|(apply bC;rfl;(assumption);rfl;rfl)|(apply bM;rfl;rfl;rfl)|(apply aF;kernel_rfl)|(apply cB;rfl;rfl;rfl))|(apply aM;first|apply aH|apply aB|(apply aQ;rfl;all_goals intro hc;have hq:=hc;(try simp only [cC] at hq);try exfalso;omega)|apply aV)|with_reducible apply aA)
  ·exfalso
   have h : (dI m j (.own (0 + 1 + 1 + 2) 0 r.length 2))[j]!.next = 1000 := by assumption
   rw [hog] at h
   dsimp only at h
   omega
  ·refine dB ?_
   rw [hog]
   dsimp only
   repeat' (first|(apply aL;first|(apply aW;rfl;rfl;rfl;rfl;rfl;(rw [aT, dH]; simp only [List.length_append, List.length_cons, List.length_nil]; omega);(first|exact pA hj|exact s9 hj))|(apply aE;rfl;rfl)|(apply aD;rfl;rfl;rfl)|(apply bN;rfl;rfl;omega;rfl)|(apply bV;rfl;rfl;rfl;rfl;rfl;(rw [aT]; omega);(rfl);omega;omega;(exact pD (by (omega)));rfl;rfl)|(apply aF;kernel_rfl)|(apply bY;rfl;(exact (rfl:_=some [_, _]));(exact (rfl:_=[_, _]));rfl)|(apply cB;rfl;rfl;rfl)|((apply bF (t := _));(case hze|hsm|hl => rfl);(case hfl => (exact (rfl:_=some [_, _])));(case hM|hN => rfl)))|(apply aM;(apply aH))|with_reducible apply aA)
   refine AW.le ?_ (Le.cls (o := 3) (q := 0 + 1 + 1 + 3 + 0 + 1) (j := j) (k := r.length + 1) (m := m.set j { m[j]! with next := m[j]!.next + 1 }) (r := r ++ [⟨m[j]!.next, true⟩]) rfl rfl (by (rw [List.length_append]; rfl)) (by omega) (by decide))
   refine AW.le ?_ (Le.frzD (d := 9) (i := 3) rfl rfl)
   have e : (m.set j { m[j]! with next := m[j]!.next + 1 }).set j { (m.set j { m[j]! with next := m[j]!.next + 1 })[j]! with stk := r ++ [⟨m[j]!.next, true⟩] } = m.set j (psh { m[j]! with stk := r } true) := by
    rw [jN hj, set_set]; rfl
   rw [e, eH (f := cK) (xs := m.set j (psh { m[j]! with stk := r } true)) (by rw [List.length_set])]
   repeat' (first|(apply aL;first|(apply fX;rfl;exact hown;rfl;rfl)|(apply aE;rfl;rfl)|(apply aP;rfl;rfl;rfl;rfl)|(apply aD;rfl;rfl;rfl)|(apply aC;rfl;rfl)|(apply aF;kernel_rfl)|(apply bY;rfl;(exact (rfl:_=some [_, _]));(exact (rfl:_=[_, _]));rfl)|(apply aW;rfl;rfl;rfl;rfl;rfl;(case hl => (simp;done));(exact (rfl:_=[_, _]))))|(apply aM;first|(apply bZ;kernel_rfl)|apply aO)|with_reducible apply aA)
   refine b0 (Le.frzD (d := 6) (i := 8) rfl rfl) ?_
   exact aK (l := [sl cK (m.set j (psh { m[j]! with stk := r } true)), .agg [iv (j : Int), iv m[j]!.next], iv 0]) rfl ⟨rfl, by (exact Pur.pf)⟩
  all_goals (exfalso;omega)
theorem DQ (m : List Cl) (hm : OkM m) (x : Pt) (u : Bool) : PC Tryz.prog 132 [sl cK m, kQ x, bv u] (fun r => r = .tup [sl cK (kW m x u), kQ (nN m x u), iv (j1 m x u)]) := by
 have hml := hm.l
 by_cases hk : cD m x u = 0
 ·obtain ⟨c, t⟩ := x
  obtain ⟨h1, h2, h3, h4, hu⟩ := dN hk
  obtain ⟨j, rfl⟩ := Int.eq_ofNat_of_zero_le (show 0 ≤ c from h1)
  have hj : j < m.length := by have : (j : Int) < m.length := h2;omega
  obtain ⟨k, hkk⟩ := Int.eq_ofNat_of_zero_le (show 0 ≤ c5 m[j]!.stk t from h4)
  obtain ⟨r, hr⟩ : ∃ r, r = fM m[j]!.stk k u := ⟨_, rfl⟩
  obtain ⟨e1, e2, e3⟩ := qT hk (r := r) (by rw [hr]; show _ = fM m[j]!.stk (c5 m[j]!.stk t).toNat u;rw [hkk]; rfl)
  rw [e1, e2, e3]
  cases u
  ·exact C5 m hm j k t r hj hkk hk hr
  ·exact Df m hm j k t r hj hkk hk hr
 ·obtain ⟨e1, e2, e3⟩ := Bx hk
  rw [e1, e2, e3]
  (refine aS Tryz.func132 rfl (by simp [Tryz.ntmps132]) ?_; rw [Tryz.ntmps132])
  repeat' (first|(apply aL;first|(apply fX;rfl;exact iU m hm;rfl;rfl)|((apply kO (m := m) (x := x) (wr := u) (n := m.length));(case ha0|ha1|ha2|hH0 => rfl);(case hmc => exact lE m x u _ hm rfl hk);(case hM|hN => rfl))|(apply aE;rfl;rfl)|(apply aR;rfl;rfl;(exact (rfl:_=[_, _]));rfl;rfl;rfl)|(apply aU;rfl;rfl;rfl;rfl)|(apply aC;rfl;rfl)|(apply aF;kernel_rfl)|(apply bY;rfl;(exact (rfl:_=some [_, _]));(exact (rfl:_=[_, _]));rfl)|(apply bA;rfl;rfl;rfl;rfl)|(apply bD;rfl;rfl)|(apply aW;rfl;rfl;rfl;rfl;rfl;(decide);(exact (rfl:_=[_, _]))))|(apply aM;first|apply aH|apply aB|(apply aQ;rfl;all_goals intro hc;have hq:=hc;(try simp only [cC] at hq);try exfalso;omega)|apply aO)|with_reducible apply aA|with_reducible apply a8)
  refine b0 (Le.frzD (d := 6) (i := 3) rfl rfl) ?_
  exact aK (l := [sl cK m, .agg [iv 0, iv 0], iv (cD m x u)]) rfl ⟨rfl, by (exact Pur.pf)⟩
abbrev mO (ts : List Int) (bd : List AL.Stmt) (pts : List Pnt) (i1 i2 : Nat) (s : Mc) : List AV := [aG ts bd pts, .own i1 0 ts.length 4, sl cK s.cells, .own i2 0 s.read.length 1]
theorem uT {ts : List Int} {bd : List AL.Stmt} {pts : List Pnt} {s : Mc} {v : Nat} {N : Nat} {Q : Exit → AS → Prop} {all : Array Oper} {rest : List Oper} {tsl : List (Nat × AV)} {hsl : List (Nat × Option (List AV))} {nidl : Nat} {z0 : Lo} {md : Md} {d : Nat} {ty : TypeId} {pos : String} {af : Array Edge} {tys : Array TypeId} {x0 x1 : Operand} {i0 i1 i2 : Nat} (ha0 : ev (lk tsl) x0 = some (.optr i0 0)) (ha1 : ev (lk tsl) x1 = some (iv (v : Int))) (hH0 : b8 hsl i0 = some (mO ts bd pts i1 i2 s)) (hH1 : b8 hsl i1 = some (aI dK s.slots)) (hH2 : b8 hsl i2 = some (aI cI s.read)) (hdd : Go.AL.distinct [i0, i1, i2] = true) (hmc : MC Tryz.prog 136 [.optr 0 0, iv (v : Int)] [(0, some (mO ts bd pts 1 2 s)), (1, some (aI dK s.slots)), (2, some (aI cI s.read))] 3 (fun _ : Unit => True) (fun _ => iv (lD (cD s.cells s.slots[v]!.ptr true))) (fun _ => [(0, some ([aG ts bd pts, .own 1 0 ts.length 4, sl cK (jW s.cells s.slots[v]!.ptr), .own 2 0 s.read.length 1])), (1, some (aI dK s.slots)), (2, some (aI cI s.read))])) (hM : Nat.ble (nidl + 0) dR = true) (hN : Nat.blt d N = true) {md' : Md} [hmd : MdA md (e7 [x0, x1] ++ [.inr i0, .inr i1, .inr i2]) (List.map Sum.inr (List.map Prod.fst ([(i0, some ([aG ts bd pts, .own i1 0 ts.length 4, sl cK (jW s.cells s.slots[v]!.ptr), .own i2 0 s.read.length 1])), (i1, some (aI dK s.slots)), (i2, some (aI cI s.read))] : List (Nat × Option (List AV)))) ++ [.inl d]) md'] (kk : RW Tryz.prog N all Q md' rest ⟨(d, iv (lD (cD s.cells s.slots[v]!.ptr true))) :: tsl, fS hsl [(i0, some ([aG ts bd pts, .own i1 0 ts.length 4, sl cK (jW s.cells s.slots[v]!.ptr), .own i2 0 s.read.length 1])), (i1, some (aI dK s.slots)), (i2, some (aI cI s.read))], nidl + 0, z0⟩) : RW Tryz.prog N all Q md (⟨some d, .call ⟨.value (.func 136), #[x0, x1], tys⟩, ty, pos, af, none⟩ :: rest) ⟨tsl, hsl, nidl, z0⟩ := by
 refine bP [i0, i1, i2] 3 [(i0, some ([aG ts bd pts, .own i1 0 ts.length 4, sl cK (jW s.cells s.slots[v]!.ptr), .own i2 0 s.read.length 1])), (i1, some (aI dK s.slots)), (i2, some (aI cI s.read))] hmc (avs := [.optr i0 0, iv (v : Int)]) ?_ hdd ?_ rfl ?_ (by simpa using hM) ?_ ?_ ?_ hN (md' := md') (hmd := hmd) kk
 ·show evL (lk tsl) [x0, x1] = _
  simp only [evL, ha0, ha1]
 ·exact ⟨⟨_, _, rfl, hH0, by (repeat' (first|exact RnL.purI inferInstance|exact RnV.purI inferInstance|exact RnV.own rfl|refine RnL.cons ?_ ?_))⟩, ⟨⟨_, _, rfl, hH1, by (repeat' (exact RnL.purI inferInstance))⟩, ⟨⟨_, _, rfl, hH2, by (repeat' (exact RnL.purI inferInstance))⟩, trivial⟩⟩⟩
 ·(repeat' (first|exact RnL.purI inferInstance|exact RnV.optr rfl|refine RnL.cons ?_ ?_))
 ·(repeat' (exact RnV.purI inferInstance))
 ·simp [cZ]
 ·(repeat' (first|exact trivial|(refine And.intro ⟨0, _, rfl, rfl, ?_⟩ ?_)|(refine And.intro ⟨1, _, rfl, rfl, ?_⟩ ?_)|(refine And.intro ⟨2, _, rfl, rfl, ?_⟩ ?_)|exact RnL.purI inferInstance|exact RnV.purI inferInstance|exact RnV.own rfl|refine RnL.cons ?_ ?_))
theorem rW (ts : List Int) (bd : List AL.Stmt) (pts : List Pnt) (s : Mc) (v : Nat) (hm : OkM s.cells) (hsl : s.slots.length = ts.length) (hv : v < ts.length) : MC Tryz.prog 136 [.optr 0 0, iv (v : Int)] [(0, some (mO ts bd pts 1 2 s)), (1, some (aI dK s.slots)), (2, some (aI cI s.read))] 3 (fun _ : Unit => True) (fun _ => iv (lD (cD s.cells s.slots[v]!.ptr true))) (fun _ => [(0, some ([aG ts bd pts, .own 1 0 ts.length 4, sl cK (jW s.cells s.slots[v]!.ptr), .own 2 0 s.read.length 1])), (1, some (aI dK s.slots)), (2, some (aI cI s.read))]) := by
 have hfc := vH s.cells hm s.slots[v]!.ptr
 (refine bK Tryz.func136 rfl (by simp [Tryz.ntmps136]) ?_; rw [Tryz.ntmps136])
 repeat' (first|(apply aL;first|(apply gU;(case hx|hH => rfl);(case hf|hg|hα => infer_instance);(case hk => omega);(case hj => decide);(case hc => exact (rfl:_=[_, _]));(case h0|hN => rfl))|((with_reducible apply aJ (k := 188));(case ha => rfl);(case h => exact hfc);(case hp => (exact Pur.pf));(case hN => rfl))|(apply aE;rfl;rfl)|(apply aP;rfl;rfl;rfl;rfl)|(apply aD;rfl;rfl;rfl)|(apply aU;rfl;rfl;rfl;rfl)|(apply aC;rfl;rfl)|(apply cE;rfl;rfl;(assumption);rfl)|((with_reducible apply aJ (k := 133));(case ha => rfl);(case h => (apply nG <;> (fail)));(case hp => (rfl));(case hN => rfl))|(apply aF;kernel_rfl)|(apply cB;rfl;rfl;rfl)|(apply aZ;rfl;rfl;rfl)|(apply aW;rfl;rfl;rfl;rfl;rfl;(case hl => (simp;done));(exact (rfl:_=[_, _, _, _]))))|(apply aM;first|apply aH|apply aB|(apply bZ;kernel_rfl)|(apply aQ;rfl;all_goals intro hc;have hq:=hc;(try simp only [cC] at hq);try exfalso;omega)|apply aV|apply aO)|with_reducible apply aA|with_reducible apply a8)
 ·have hk : ¬ cD s.cells s.slots[v]!.ptr true = 0 := by assumption
  (refine aK rfl ?_; refine bG () trivial ?_ ⟨.inr (Eq.trans (b := some _) rfl ?_), ⟨.inr (Eq.trans (b := some _) rfl ?_), ⟨.inr (Eq.trans (b := some _) rfl ?_), trivial⟩⟩⟩)
  ·show iv (eU _) = iv (lD _)
   unfold lD;rw [if_neg hk]
  ·rfl
  ·rfl
  ·rfl
 ·have hk : cD s.cells s.slots[v]!.ptr true = 0 := by assumption
  (refine aK rfl ?_; refine bG () trivial ?_ ⟨.inr (Eq.trans (b := some _) rfl ?_), ⟨.inr (Eq.trans (b := some _) rfl ?_), ⟨.inr (Eq.trans (b := some _) rfl ?_), trivial⟩⟩⟩)
  ·rw [hk]; rfl
  ·rfl
  ·rfl
  ·rfl
theorem EF (ts : List Int) (bd : List AL.Stmt) (pts : List Pnt) (s : Mc) (v : Nat) (y : Sl) (hm : OkM s.cells) (hsl : s.slots.length = ts.length) (hv : v < ts.length) : MC Tryz.prog 129 [.optr 0 0, iv (v : Int), Cp y] [(0, some (mO ts bd pts 1 2 s)), (1, some (aI dK s.slots)), (2, some (aI cI s.read))] 3 (fun _ : Unit => True) (fun _ => iv (cR ts s v y).2) (fun _ => [(0, some (mO ts bd pts 1 2 (cR ts s v y).1)), (1, some (aI dK (cR ts s v y).1.slots)), (2, some (aI cI (cR ts s v y).1.read))]) := by
 have hfr := rW ts bd pts s v hm hsl hv
 (refine bK Tryz.func129 rfl (by simp [Tryz.ntmps129]) ?_; rw [Tryz.ntmps129])
 repeat' (first|(apply aL;first|((apply uT (ts := ts) (bd := bd) (pts := pts) (s := s) (v := v));(case ha0|ha1|hH0|hH1|hH2|hdd => rfl);(case hmc => exact hfr);(case hM|hN => rfl))|(apply aE;rfl;rfl)|(first|(apply cH;(case hx|hH => rfl);(case hf|hg|hα => infer_instance);(case hk => omega);(case hc|hN => rfl))|(apply aP;rfl;rfl;rfl;rfl)|(apply aR;rfl;rfl;(exact (rfl:_=[_, _, _, _]));rfl;rfl;rfl))|(apply aD;rfl;rfl;rfl)|(first|(apply aY;rfl;rfl;rfl;(assumption))|(apply a7;rfl;rfl;rfl;(assumption))|(apply bE;(case hj|hb|hN => rfl);all_goals (intro hg;have hq := hg;(try simp only [cC] at hq);(try (exfalso;omega)))))|(apply aU;rfl;rfl;rfl;rfl)|(apply aC;rfl;rfl)|(first|(apply bJ;rfl;(assumption);rfl;rfl)|(apply bC;rfl;(assumption);rfl;rfl))|(first|(apply bI;(case hx|hi => rfl);(case hm => (assumption));(case hml => (rfl));(case hα | hf|hg => infer_instance);(case hN => rfl))|(apply cE;rfl;rfl;(assumption);rfl))|(apply aF;kernel_rfl)|(apply cB;rfl;rfl;rfl)|(apply bA;rfl;rfl;rfl;rfl)|(apply aW;rfl;rfl;rfl;rfl;rfl;(rw [aT]; simp only [gY] <;> omega);(exact rM (by (omega)))))|(apply aM;first|apply aH|apply aB|(apply bZ;kernel_rfl)|(apply b9;rfl;(rfl))|(apply aQ;rfl;all_goals intro hc;have hq:=hc;(try simp only [cC] at hq);try exfalso;omega)|apply aV|apply aO)|with_reducible apply aA)
 ·have hp : cR ts s v y = (⟨s.slots.set v y, jW s.cells s.slots[v]!.ptr, s.read⟩, lD (cD s.cells s.slots[v]!.ptr true)) := if_pos ⟨by assumption, by assumption⟩
  rw [hp]
  (refine aK rfl ?_; refine bG () trivial ?_ ⟨.inr (Eq.trans (b := some _) rfl ?_), ⟨.inr (Eq.trans (b := some _) rfl ?_), ⟨.inr (Eq.trans (b := some _) rfl ?_), trivial⟩⟩⟩)
  ·rfl
  ·rfl
  ·rfl
  ·rfl
 all_goals (
  have hp : cR ts s v y = (⟨s.slots.set v y, s.cells, s.read⟩, -1) := if_neg (by
   rintro ⟨q1, q2⟩
   first|(exact (by assumption : ¬ ts[v]! = 2) q1)|(rw [(by assumption : s.slots[v]!.set = false)] at q2;exact absurd q2 (by decide)))
  rw [hp]
  (refine aK rfl ?_; refine bG () trivial ?_ ⟨.inr (Eq.trans (b := some _) rfl ?_), ⟨.inr (Eq.trans (b := some _) rfl ?_), ⟨.inr (Eq.trans (b := some _) rfl ?_), trivial⟩⟩⟩)
  ·rfl
  ·rfl
  ·rfl
  ·rfl)
theorem CU {ts : List Int} {bd : List AL.Stmt} {pts : List Pnt} {s : Mc} {N : Nat} {Q : Exit → AS → Prop} {all : Array Oper} {rest : List Oper} {tsl : List (Nat × AV)} {hsl : List (Nat × Option (List AV))} {nidl : Nat} {z0 : Lo} {md : Md} {d : Nat} {ty : TypeId} {pos : String} {af : Array Edge} {tys : Array TypeId} {x0 : Operand} {i0 i1 i2 : Nat} (ha0 : ev (lk tsl) x0 = some (.optr i0 0)) (hH0 : b8 hsl i0 = some (mO ts bd pts i1 i2 s)) (hH1 : b8 hsl i1 = some (aI dK s.slots)) (hH2 : b8 hsl i2 = some (aI cI s.read)) (hdd : Go.AL.distinct [i0, i1, i2] = true) (hmc : MC Tryz.prog 137 [.optr 0 0] [(0, some (mO ts bd pts 1 2 s)), (1, some (aI dK s.slots)), (2, some (aI cI s.read))] 3 (fun _ : Unit => True) (fun _ => iv (dE ts ts.length 0 s).2) (fun _ => [(0, some (mO ts bd pts 1 2 (dE ts ts.length 0 s).1)), (1, some (aI dK (dE ts ts.length 0 s).1.slots)), (2, some (aI cI (dE ts ts.length 0 s).1.read))])) (hM : Nat.ble (nidl + 0) dR = true) (hN : Nat.blt d N = true) {md' : Md} [hmd : MdA md (e7 [x0] ++ [.inr i0, .inr i1, .inr i2]) (List.map Sum.inr (List.map Prod.fst ([(i0, some (mO ts bd pts i1 i2 (dE ts ts.length 0 s).1)), (i1, some (aI dK (dE ts ts.length 0 s).1.slots)), (i2, some (aI cI (dE ts ts.length 0 s).1.read))] : List (Nat × Option (List AV)))) ++ [.inl d]) md'] (kk : RW Tryz.prog N all Q md' rest ⟨(d, iv (dE ts ts.length 0 s).2) :: tsl, fS hsl [(i0, some (mO ts bd pts i1 i2 (dE ts ts.length 0 s).1)), (i1, some (aI dK (dE ts ts.length 0 s).1.slots)), (i2, some (aI cI (dE ts ts.length 0 s).1.read))], nidl + 0, z0⟩) : RW Tryz.prog N all Q md (⟨some d, .call ⟨.value (.func 137), #[x0], tys⟩, ty, pos, af, none⟩ :: rest) ⟨tsl, hsl, nidl, z0⟩ := by
 refine bP [i0, i1, i2] 3 [(i0, some (mO ts bd pts i1 i2 (dE ts ts.length 0 s).1)), (i1, some (aI dK (dE ts ts.length 0 s).1.slots)), (i2, some (aI cI (dE ts ts.length 0 s).1.read))] hmc (avs := [.optr i0 0]) ?_ hdd ?_ rfl ?_ (by simpa using hM) ?_ ?_ ?_ hN (md' := md') (hmd := hmd) kk
 ·show evL (lk tsl) [x0] = _
  simp only [evL, ha0]
 ·exact ⟨⟨_, _, rfl, hH0, by (repeat' (first|exact RnL.purI inferInstance|exact RnV.purI inferInstance|exact RnV.own rfl|refine RnL.cons ?_ ?_))⟩, ⟨⟨_, _, rfl, hH1, by (repeat' (exact RnL.purI inferInstance))⟩, ⟨⟨_, _, rfl, hH2, by (repeat' (exact RnL.purI inferInstance))⟩, trivial⟩⟩⟩
 ·(repeat' (first|exact RnL.purI inferInstance|exact RnV.optr rfl|refine RnL.cons ?_ ?_))
 ·(repeat' (exact RnV.purI inferInstance))
 ·simp [cZ]
 ·(repeat' (first|exact trivial|(refine And.intro ⟨0, _, rfl, rfl, ?_⟩ ?_)|(refine And.intro ⟨1, _, rfl, rfl, ?_⟩ ?_)|(refine And.intro ⟨2, _, rfl, rfl, ?_⟩ ?_)|exact RnL.purI inferInstance|exact RnV.purI inferInstance|exact RnV.own rfl|refine RnL.cons ?_ ?_))
theorem Es (ts : List Int) (bd : List AL.Stmt) (pts : List Pnt) (s : Mc) (hm : OkM s.cells) (hsl : s.slots.length = ts.length) (hl : ts.length ≤ 1000000) : MC Tryz.prog 137 [.optr 0 0] [(0, some (mO ts bd pts 1 2 s)), (1, some (aI dK s.slots)), (2, some (aI cI s.read))] 3 (fun _ : Unit => True) (fun _ => iv (dE ts ts.length 0 s).2) (fun _ => [(0, some (mO ts bd pts 1 2 (dE ts ts.length 0 s).1)), (1, some (aI dK (dE ts ts.length 0 s).1.slots)), (2, some (aI cI (dE ts ts.length 0 s).1.read))]) := by
 (refine bK Tryz.func137 rfl (by simp [Tryz.ntmps137]) ?_; rw [Tryz.ntmps137])
 repeat' (first|(apply aL;first|(apply aE;rfl;rfl)|(apply aP;rfl;rfl;rfl;rfl)|(apply aD;rfl;rfl;rfl)|(apply aC;rfl;rfl)|(apply bM;rfl;rfl;rfl)|(apply aF;kernel_rfl)|(apply cB;rfl;rfl;rfl))|(apply aM;first|apply aH|apply aB|apply aN)|with_reducible apply aA)
 refine bL (σ := Nat × Mc) [0, 13, 14] [(0, _), (13, _), (14, _)] [] [] (fun k => [(15, iv (k.1 : Int))]) (fun k => [(0, some (mO ts bd pts 1 2 k.2)), (1, some (aI dK k.2.slots)), (2, some (aI cI k.2.read))]) (fun k => k.1 ≤ ts.length ∧ dE ts (ts.length - k.1) k.1 k.2 = dE ts ts.length 0 s ∧ OkM k.2.cells ∧ k.2.slots.length = ts.length) (fun k => ts.length - k.1) (0, s) ⟨Nat.zero_le _, rfl, hm, hsl⟩ rfl rfl (by repeat' (first|exact trivial|refine And.intro rfl ?_)) (by repeat' (first|exact trivial|refine And.intro (.inr rfl) ?_)) ?_
 rintro ⟨v, q⟩ ⟨hv, hf, hmq, hlq⟩
 dsimp only at hv hf hmq hlq ⊢
 by_cases hvn : v < ts.length
 ·have hfr := rW ts bd pts q v hmq hlq hvn
  repeat' (first|(apply aL;first|((apply uT (ts := ts) (bd := bd) (pts := pts) (s := q) (v := v));(case ha0|ha1|hH0|hH1|hH2|hdd => rfl);(case hmc => exact hfr);(case hM|hN => rfl))|(apply aE;rfl;rfl)|(first|(apply cH;(case hx|hH => rfl);(case hf|hg|hα => infer_instance);(case hk => omega);(case hc|hN => rfl))|(apply aP;rfl;rfl;rfl;rfl))|(apply aD;rfl;rfl;rfl)|(first|(apply aY;rfl;rfl;rfl;(assumption))|(apply a7;rfl;rfl;rfl;(assumption))|(apply bE;(case hj|hb|hN => rfl);all_goals (intro hg;have hq := hg;(try simp only [cC] at hq);(try (exfalso;omega)))))|(first|(apply bN;rfl;rfl;omega;rfl)|(apply aU;rfl;rfl;rfl;rfl))|(apply aC;rfl;rfl)|(first|(apply bJ;rfl;(assumption);rfl;rfl)|(apply bC;rfl;(assumption);rfl;rfl))|(first|(apply bI;(case hx|hi => rfl);(case hm => (assumption));(case hml => (rfl));(case hα | hf|hg => infer_instance);(case hN => rfl))|(apply cE;rfl;rfl;(assumption);rfl))|(apply aF;kernel_rfl)|(apply bY;rfl;(exact (rfl:_=some [_, _, _, _]));(exact (rfl:_=[_, _, _, _]));rfl)|(apply bW;rfl;rfl)|(apply cB;rfl;rfl;rfl)|(apply aW;rfl;rfl;rfl;rfl;rfl;(rw [aT]; simp only [gY] <;> omega);(exact rM (by (omega)))))|(apply aM;first|apply aH|apply aB|(apply bR;rfl;(rfl))|(apply aQ;rfl;all_goals intro hc;have hq:=hc;(try simp only [cC] at hq);try exfalso;omega)|apply aN|apply aV|apply bS|apply aO)|with_reducible apply aA|with_reducible apply a8|with_reducible apply bU|with_reducible apply aX|with_reducible apply cA|with_reducible apply bT)
  ·(apply dG (v + 1, q); focus (refine Le.ren [] rfl (by decide) ?_ ?_ <;> repeat' (first | exact trivial | refine And.intro ⟨_, rfl, ?_⟩ ?_ | refine And.intro ⟨_, _, rfl, rfl, ?_⟩ ?_ | exact Or.inr rfl | refine Or.inl ⟨?_, (by first | rfl | exact bH _ _ | exact Pur.pf)⟩ | refine Or.inr (All2.cons ?_ ?_) | refine All2.cons ?_ ?_ | exact All2.nil | rfl)))
   ·refine ⟨by omega, ?_, hmq, hlq⟩
    dsimp only
    rw [← hf, show ts.length - v = (ts.length - (v + 1)) + 1 by omega, tA (fun h => by
     have h2 : q.slots[v]!.set = false := by assumption
     rw [h2] at h;exact absurd h.2 (by decide))]
   ·dsimp only;omega
  ·have hk : ¬ cD q.cells q.slots[v]!.ptr true = 0 := fun h => by
    have h2 : ¬ lD (cD q.cells q.slots[v]!.ptr true) = -1 := by assumption
    rw [h] at h2;exact h2 rfl
   have hq2 : dE ts ts.length 0 s = (⟨q.slots, jW q.cells q.slots[v]!.ptr, q.read⟩, eU (cD q.cells q.slots[v]!.ptr true)) := by
    rw [← hf, show ts.length - v = (ts.length - (v + 1)) + 1 by omega, Ca ⟨by assumption, by assumption⟩ hk]
   rw [hq2]
   (refine aK rfl ?_; refine bG () trivial ?_ ⟨.inr (Eq.trans (b := some _) rfl ?_), ⟨.inr (Eq.trans (b := some _) rfl ?_), ⟨.inr (Eq.trans (b := some _) rfl ?_), trivial⟩⟩⟩)
   ·show iv (lD _) = iv (eU _)
    unfold lD;rw [if_neg hk]
   ·rfl
   ·rfl
   ·rfl
  ·have hk : cD q.cells q.slots[v]!.ptr true = 0 := by
    have h2 : lD (cD q.cells q.slots[v]!.ptr true) = -1 := by assumption
    unfold lD at h2
    by_cases h : cD q.cells q.slots[v]!.ptr true = 0
    ·exact h
    ·rw [if_neg h] at h2;unfold eU at h2;split at h2 <;> cases h2
   have hls : (q.slots.set v kG).length = q.slots.length := List.length_set
   (apply dG (v + 1, ⟨q.slots.set v kG, jW q.cells q.slots[v]!.ptr, q.read⟩);focus (refine Le.ren [] rfl (by decide) ?_ ?_ <;> repeat' (first|exact trivial|refine And.intro ⟨_, rfl, ?_⟩ ?_|refine And.intro ⟨_, _, rfl, rfl, ?_⟩ ?_|exact Or.inr rfl|refine Or.inl ⟨?_, (by first|rfl|exact bH _ _|exact Pur.pf)⟩|refine Or.inr (All2.cons ?_ ?_)|refine All2.cons ?_ ?_|exact All2.nil|rfl)))
   ·refine ⟨by dsimp only; omega, ?_, hmq.fr _, by show (q.slots.set v kG).length = _; rw [List.length_set]; exact hlq⟩
    dsimp only
    rw [← hf, show ts.length - v = (ts.length - (v + 1)) + 1 by omega, Cz ⟨by assumption, by assumption⟩ hk]
   ·dsimp only;omega
  ·(apply dG (v + 1, q); focus (refine Le.ren [] rfl (by decide) ?_ ?_ <;> repeat' (first | exact trivial | refine And.intro ⟨_, rfl, ?_⟩ ?_ | refine And.intro ⟨_, _, rfl, rfl, ?_⟩ ?_ | exact Or.inr rfl | refine Or.inl ⟨?_, (by first | rfl | exact bH _ _ | exact Pur.pf)⟩ | refine Or.inr (All2.cons ?_ ?_) | refine All2.cons ?_ ?_ | exact All2.nil | rfl)))
   ·refine ⟨by omega, ?_, hmq, hlq⟩
    dsimp only
    rw [← hf, show ts.length - v = (ts.length - (v + 1)) + 1 by omega, tA (fun h => by
     have h2 : ¬ ts[v]! = 2 := by assumption
     exact h2 h.1)]
   ·dsimp only;omega
 ·have hve : v = ts.length := by omega
  have hq2 : dE ts ts.length 0 s = (q, 0) := by rw [← hf, hve, Nat.sub_self]; rfl
  repeat' (first|(apply aL;first|(apply aU;rfl;rfl;rfl;rfl)|(apply aC;rfl;rfl)|(apply aF;kernel_rfl))|(apply aM;first|apply aH|apply aB|(apply aQ;rfl;all_goals intro hc;have hq:=hc;(try simp only [cC] at hq);try exfalso;omega)|apply bS|apply aO)|with_reducible apply aA|with_reducible apply bU|with_reducible apply bT)
  rw [hq2]
  (refine aK rfl ?_; refine bG () trivial ?_ ⟨.inr (Eq.trans (b := some _) rfl ?_), ⟨.inr (Eq.trans (b := some _) rfl ?_), ⟨.inr (Eq.trans (b := some _) rfl ?_), trivial⟩⟩⟩)
  ·rfl
  ·rfl
  ·rfl
  ·rfl
def dS (ts : List Int) (s : Mc) (x : Pnt) : Mc × Int := if dD ts s x = true then (s, 2) else dM ts s x
theorem pQ {ts : List Int} {s : Mc} {x : Pnt} (h : dD ts s x = true) : dS ts s x = (s, 2) := if_pos h
theorem nB {ts : List Int} {s : Mc} {x : Pnt} (h : dD ts s x = false) : dS ts s x = dM ts s x := if_neg (by rw [h]; decide)
theorem fZ {ts : List Int} {x : Pnt} {v : Int} (h : v ∈ fI (wS ts x [1, 2, 3])) : 0 ≤ v ∧ v < ts.length := by
 obtain ⟨v', h3, h4, rfl⟩ := mR.1 h
 rw [kY, Bool.and_eq_true, decide_eq_true_eq] at h4
 omega
theorem c7 {ts : List Int} {s : Mc} {x : Pnt} (htl : ts.length ≤ 6) : dD ts s x = true ↔ ∃ v ∈ fI (wS ts x [1, 2, 3]), s.slots[v.toNat]!.set = false := by
 constructor
 ·intro h
  obtain ⟨v, hv, hne, hs⟩ := tK h
  refine ⟨(v : Int), mR.2 ⟨v, by omega, ?_, rfl⟩, hs⟩
  have hb := BD ts x v
  rw [kY, decide_eq_true hv, Bool.true_and, decide_eq_true_eq]
  simp only [List.mem_cons, List.not_mem_nil, or_false]; omega
 ·rintro ⟨v, hv, hs⟩
  obtain ⟨v', h3, h4, rfl⟩ := mR.1 hv
  rw [kY, Bool.and_eq_true, decide_eq_true_eq, decide_eq_true_eq] at h4
  unfold dD
  refine List.any_eq_true.2 ⟨v', List.mem_range.2 h4.1, ?_⟩
  rw [Bool.and_eq_true, decide_eq_true_eq]
  refine ⟨fun e => ?_, by rw [show s.slots[v']!.set = false from hs]; rfl⟩
  have h5 := h4.2
  simp only [List.mem_cons, List.not_mem_nil, or_false] at h5;omega
theorem FA {ts : List Int} {bd : List AL.Stmt} {pts : List Pnt} {s : Mc} {x : Pnt} {N : Nat} {Q : Exit → AS → Prop} {all : Array Oper} {rest : List Oper} {tsl : List (Nat × AV)} {hsl : List (Nat × Option (List AV))} {nidl : Nat} {z0 : Lo} {md : Md} {d : Nat} {ty : TypeId} {pos : String} {af : Array Edge} {tys : Array TypeId} {x0 x1 : Operand} {i0 i1 i2 : Nat} (ha0 : ev (lk tsl) x0 = some (.optr i0 0)) (ha1 : ev (lk tsl) x1 = some (eX x)) (hH0 : b8 hsl i0 = some (mO ts bd pts i1 i2 s)) (hH1 : b8 hsl i1 = some (aI dK s.slots)) (hH2 : b8 hsl i2 = some (aI cI s.read)) (hdd : Go.AL.distinct [i0, i1, i2] = true) (hmc : MC Tryz.prog 86 [.optr 0 0, eX x] [(0, some (mO ts bd pts 1 2 s)), (1, some (aI dK s.slots)), (2, some (aI cI s.read))] 3 (fun _ : Unit => True) (fun _ => iv (dS ts s x).2) (fun _ => [(0, some (mO ts bd pts 1 2 (dS ts s x).1)), (1, some (aI dK (dS ts s x).1.slots)), (2, some (aI cI (dS ts s x).1.read))])) (hM : Nat.ble (nidl + 0) dR = true) (hN : Nat.blt d N = true) {md' : Md} [hmd : MdA md (e7 [x0, x1] ++ [.inr i0, .inr i1, .inr i2]) (List.map Sum.inr (List.map Prod.fst ([(i0, some (mO ts bd pts i1 i2 (dS ts s x).1)), (i1, some (aI dK (dS ts s x).1.slots)), (i2, some (aI cI (dS ts s x).1.read))] : List (Nat × Option (List AV)))) ++ [.inl d]) md'] (kk : RW Tryz.prog N all Q md' rest ⟨(d, iv (dS ts s x).2) :: tsl, fS hsl [(i0, some (mO ts bd pts i1 i2 (dS ts s x).1)), (i1, some (aI dK (dS ts s x).1.slots)), (i2, some (aI cI (dS ts s x).1.read))], nidl + 0, z0⟩) : RW Tryz.prog N all Q md (⟨some d, .call ⟨.value (.func 86), #[x0, x1], tys⟩, ty, pos, af, none⟩ :: rest) ⟨tsl, hsl, nidl, z0⟩ := by
 refine bP [i0, i1, i2] 3 [(i0, some (mO ts bd pts i1 i2 (dS ts s x).1)), (i1, some (aI dK (dS ts s x).1.slots)), (i2, some (aI cI (dS ts s x).1.read))] hmc (avs := [.optr i0 0, eX x]) ?_ hdd ?_ rfl ?_ (by simpa using hM) ?_ ?_ ?_ hN (md' := md') (hmd := hmd) kk
 ·show evL (lk tsl) [x0, x1] = _
  simp only [evL, ha0, ha1]
 ·exact ⟨⟨_, _, rfl, hH0, by (repeat' (first|exact RnL.purI inferInstance|exact RnV.purI inferInstance|exact RnV.own rfl|refine RnL.cons ?_ ?_))⟩, ⟨⟨_, _, rfl, hH1, by (repeat' (exact RnL.purI inferInstance))⟩, ⟨⟨_, _, rfl, hH2, by (repeat' (exact RnL.purI inferInstance))⟩, trivial⟩⟩⟩
 ·(repeat' (first|exact RnL.purI inferInstance|exact RnV.optr rfl|refine RnL.cons ?_ ?_))
 ·(repeat' (exact RnV.purI inferInstance))
 ·simp [cZ]
 ·(repeat' (first|exact trivial|(refine And.intro ⟨0, _, rfl, rfl, ?_⟩ ?_)|(refine And.intro ⟨1, _, rfl, rfl, ?_⟩ ?_)|(refine And.intro ⟨2, _, rfl, rfl, ?_⟩ ?_)|exact RnL.purI inferInstance|exact RnV.purI inferInstance|exact RnV.own rfl|refine RnL.cons ?_ ?_))
theorem jC {ts : List Int} {bd : List AL.Stmt} {pts : List Pnt} {s : Mc} {v : Int} {y : Sl} {N : Nat} {Q : Exit → AS → Prop} {all : Array Oper} {rest : List Oper} {tsl : List (Nat × AV)} {hsl : List (Nat × Option (List AV))} {nidl : Nat} {z0 : Lo} {md : Md} {d : Nat} {ty : TypeId} {pos : String} {af : Array Edge} {tys : Array TypeId} {x0 x1 x2 : Operand} {i0 i1 i2 : Nat} (ha0 : ev (lk tsl) x0 = some (.optr i0 0)) (ha1 : ev (lk tsl) x1 = some (iv v)) (ha2 : ev (lk tsl) x2 = some (Cp y)) (hH0 : b8 hsl i0 = some (mO ts bd pts i1 i2 s)) (hH1 : b8 hsl i1 = some (aI dK s.slots)) (hH2 : b8 hsl i2 = some (aI cI s.read)) (hdd : Go.AL.distinct [i0, i1, i2] = true) (hmc : MC Tryz.prog 129 [.optr 0 0, iv v, Cp y] [(0, some (mO ts bd pts 1 2 s)), (1, some (aI dK s.slots)), (2, some (aI cI s.read))] 3 (fun _ : Unit => True) (fun _ => iv (cR ts s v.toNat y).2) (fun _ => [(0, some (mO ts bd pts 1 2 (cR ts s v.toNat y).1)), (1, some (aI dK (cR ts s v.toNat y).1.slots)), (2, some (aI cI (cR ts s v.toNat y).1.read))])) (hM : Nat.ble (nidl + 0) dR = true) (hN : Nat.blt d N = true) {md' : Md} [hmd : MdA md (e7 [x0, x1, x2] ++ [.inr i0, .inr i1, .inr i2]) (List.map Sum.inr (List.map Prod.fst ([(i0, some (mO ts bd pts i1 i2 (cR ts s v.toNat y).1)), (i1, some (aI dK (cR ts s v.toNat y).1.slots)), (i2, some (aI cI (cR ts s v.toNat y).1.read))] : List (Nat × Option (List AV)))) ++ [.inl d]) md'] (kk : RW Tryz.prog N all Q md' rest ⟨(d, iv (cR ts s v.toNat y).2) :: tsl, fS hsl [(i0, some (mO ts bd pts i1 i2 (cR ts s v.toNat y).1)), (i1, some (aI dK (cR ts s v.toNat y).1.slots)), (i2, some (aI cI (cR ts s v.toNat y).1.read))], nidl + 0, z0⟩) : RW Tryz.prog N all Q md (⟨some d, .call ⟨.value (.func 129), #[x0, x1, x2], tys⟩, ty, pos, af, none⟩ :: rest) ⟨tsl, hsl, nidl, z0⟩ := by
 refine bP [i0, i1, i2] 3 [(i0, some (mO ts bd pts i1 i2 (cR ts s v.toNat y).1)), (i1, some (aI dK (cR ts s v.toNat y).1.slots)), (i2, some (aI cI (cR ts s v.toNat y).1.read))] hmc (avs := [.optr i0 0, iv v, Cp y]) ?_ hdd ?_ rfl ?_ (by simpa using hM) ?_ ?_ ?_ hN (md' := md') (hmd := hmd) kk
 ·show evL (lk tsl) [x0, x1, x2] = _
  simp only [evL, ha0, ha1, ha2]
 ·exact ⟨⟨_, _, rfl, hH0, by (repeat' (first|exact RnL.purI inferInstance|exact RnV.purI inferInstance|exact RnV.own rfl|refine RnL.cons ?_ ?_))⟩, ⟨⟨_, _, rfl, hH1, by (repeat' (exact RnL.purI inferInstance))⟩, ⟨⟨_, _, rfl, hH2, by (repeat' (exact RnL.purI inferInstance))⟩, trivial⟩⟩⟩
 ·(repeat' (first|exact RnL.purI inferInstance|exact RnV.optr rfl|refine RnL.cons ?_ ?_))
 ·(repeat' (exact RnV.purI inferInstance))
 ·simp [cZ]
 ·(repeat' (first|exact trivial|(refine And.intro ⟨0, _, rfl, rfl, ?_⟩ ?_)|(refine And.intro ⟨1, _, rfl, rfl, ?_⟩ ?_)|(refine And.intro ⟨2, _, rfl, rfl, ?_⟩ ?_)|exact RnL.purI inferInstance|exact RnV.purI inferInstance|exact RnV.own rfl|refine RnL.cons ?_ ?_))
theorem kM (ts : List Int) (bd : List AL.Stmt) (pts : List Pnt) (s : Mc) (v : Int) (y : Sl) (hm : OkM s.cells) (hsl : s.slots.length = ts.length) (hv : 0 ≤ v ∧ v < ts.length) : MC Tryz.prog 129 [.optr 0 0, iv v, Cp y] [(0, some (mO ts bd pts 1 2 s)), (1, some (aI dK s.slots)), (2, some (aI cI s.read))] 3 (fun _ : Unit => True) (fun _ => iv (cR ts s v.toNat y).2) (fun _ => [(0, some (mO ts bd pts 1 2 (cR ts s v.toNat y).1)), (1, some (aI dK (cR ts s v.toNat y).1.slots)), (2, some (aI cI (cR ts s v.toNat y).1.read))]) := by
 have h := EF ts bd pts s v.toNat y hm hsl (by omega)
 rw [Int.toNat_of_nonneg hv.1] at h
 exact h
theorem zJ {ts : List Int} {bd : List AL.Stmt} {pts : List Pnt} {s : Mc} {v : Int} {N : Nat} {Q : Exit → AS → Prop} {all : Array Oper} {rest : List Oper} {tsl : List (Nat × AV)} {hsl : List (Nat × Option (List AV))} {nidl : Nat} {z0 : Lo} {md : Md} {d : Nat} {ty : TypeId} {pos : String} {af : Array Edge} {tys : Array TypeId} {x0 x1 : Operand} {i0 i1 i2 : Nat} (ha0 : ev (lk tsl) x0 = some (.optr i0 0)) (ha1 : ev (lk tsl) x1 = some (iv v)) (hH0 : b8 hsl i0 = some (mO ts bd pts i1 i2 s)) (hH1 : b8 hsl i1 = some (aI dK s.slots)) (hH2 : b8 hsl i2 = some (aI cI s.read)) (hdd : Go.AL.distinct [i0, i1, i2] = true) (hmc : MC Tryz.prog 136 [.optr 0 0, iv v] [(0, some (mO ts bd pts 1 2 s)), (1, some (aI dK s.slots)), (2, some (aI cI s.read))] 3 (fun _ : Unit => True) (fun _ => iv (lD (cD s.cells s.slots[v.toNat]!.ptr true))) (fun _ => [(0, some ([aG ts bd pts, .own 1 0 ts.length 4, sl cK (jW s.cells s.slots[v.toNat]!.ptr), .own 2 0 s.read.length 1])), (1, some (aI dK s.slots)), (2, some (aI cI s.read))])) (hM : Nat.ble (nidl + 0) dR = true) (hN : Nat.blt d N = true) {md' : Md} [hmd : MdA md (e7 [x0, x1] ++ [.inr i0, .inr i1, .inr i2]) (List.map Sum.inr (List.map Prod.fst ([(i0, some ([aG ts bd pts, .own i1 0 ts.length 4, sl cK (jW s.cells s.slots[v.toNat]!.ptr), .own i2 0 s.read.length 1])), (i1, some (aI dK s.slots)), (i2, some (aI cI s.read))] : List (Nat × Option (List AV)))) ++ [.inl d]) md'] (kk : RW Tryz.prog N all Q md' rest ⟨(d, iv (lD (cD s.cells s.slots[v.toNat]!.ptr true))) :: tsl, fS hsl [(i0, some ([aG ts bd pts, .own i1 0 ts.length 4, sl cK (jW s.cells s.slots[v.toNat]!.ptr), .own i2 0 s.read.length 1])), (i1, some (aI dK s.slots)), (i2, some (aI cI s.read))], nidl + 0, z0⟩) : RW Tryz.prog N all Q md (⟨some d, .call ⟨.value (.func 136), #[x0, x1], tys⟩, ty, pos, af, none⟩ :: rest) ⟨tsl, hsl, nidl, z0⟩ := by
 refine bP [i0, i1, i2] 3 [(i0, some ([aG ts bd pts, .own i1 0 ts.length 4, sl cK (jW s.cells s.slots[v.toNat]!.ptr), .own i2 0 s.read.length 1])), (i1, some (aI dK s.slots)), (i2, some (aI cI s.read))] hmc (avs := [.optr i0 0, iv v]) ?_ hdd ?_ rfl ?_ (by simpa using hM) ?_ ?_ ?_ hN (md' := md') (hmd := hmd) kk
 ·show evL (lk tsl) [x0, x1] = _
  simp only [evL, ha0, ha1]
 ·exact ⟨⟨_, _, rfl, hH0, by (repeat' (first|exact RnL.purI inferInstance|exact RnV.purI inferInstance|exact RnV.own rfl|refine RnL.cons ?_ ?_))⟩, ⟨⟨_, _, rfl, hH1, by (repeat' (exact RnL.purI inferInstance))⟩, ⟨⟨_, _, rfl, hH2, by (repeat' (exact RnL.purI inferInstance))⟩, trivial⟩⟩⟩
 ·(repeat' (first|exact RnL.purI inferInstance|exact RnV.optr rfl|refine RnL.cons ?_ ?_))
 ·(repeat' (exact RnV.purI inferInstance))
 ·simp [cZ]
 ·(repeat' (first|exact trivial|(refine And.intro ⟨0, _, rfl, rfl, ?_⟩ ?_)|(refine And.intro ⟨1, _, rfl, rfl, ?_⟩ ?_)|(refine And.intro ⟨2, _, rfl, rfl, ?_⟩ ?_)|exact RnL.purI inferInstance|exact RnV.purI inferInstance|exact RnV.own rfl|refine RnL.cons ?_ ?_))
theorem Bd (ts : List Int) (bd : List AL.Stmt) (pts : List Pnt) (s : Mc) (v : Int) (hm : OkM s.cells) (hsl : s.slots.length = ts.length) (hv : 0 ≤ v ∧ v < ts.length) : MC Tryz.prog 136 [.optr 0 0, iv v] [(0, some (mO ts bd pts 1 2 s)), (1, some (aI dK s.slots)), (2, some (aI cI s.read))] 3 (fun _ : Unit => True) (fun _ => iv (lD (cD s.cells s.slots[v.toNat]!.ptr true))) (fun _ => [(0, some ([aG ts bd pts, .own 1 0 ts.length 4, sl cK (jW s.cells s.slots[v.toNat]!.ptr), .own 2 0 s.read.length 1])), (1, some (aI dK s.slots)), (2, some (aI cI s.read))]) := by
 have h := rW ts bd pts s v.toNat hm hsl (by omega)
 rw [Int.toNat_of_nonneg hv.1] at h
 exact h
end Go.Proofs.YtckihjkcgfphmaaGreat
