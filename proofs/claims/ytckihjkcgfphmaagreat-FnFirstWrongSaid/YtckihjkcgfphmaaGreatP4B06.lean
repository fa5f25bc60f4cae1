/-
 A part of the proofs over this program: rules and contracts of its functions (the contracts).
-/
import Derived.Test.YtckihjkcgfphmaaGreatP4B05
set_option linter.unusedVariables false
set_option linter.unusedSimpArgs false
set_option maxHeartbeats 8000000
set_option maxRecDepth 4000
attribute [local irreducible] Go.AL.RW Go.AL.AW Go.AL.Stop
namespace Go.Proofs.YtckihjkcgfphmaaGreat
open Go.AL Go.RowKit
theorem iN {m : List Cl} {N : Nat} {Q : Exit → AS → Prop} {all : Array Oper} {rest : List Oper} {tsl : List (Nat × AV)} {hsl : List (Nat × Option (List AV))} {nidl : Nat} {z0 : Lo} {md : Md} {d : Nat} {ty : TypeId} {pos : String} {af : Array Edge} {tys : Array TypeId} {x0 : Operand} (ha0 : ev (lk tsl) x0 = some (sl cZ m)) (hmc : MC Tryz.prog 186 [sl cZ m] [] 0 (fun _ : Unit => True) (fun _ => .own 1 0 m.length 4) (fun _ => [(1, some (aI cZ m))])) (hM : Nat.ble (nidl + 2) eR = true) (hN : Nat.blt d N = true) {md' : Md} [hmd : MdA md (gL [x0] ++ []) (List.map Sum.inr (List.map Prod.fst ([((nidl + 1), some (aI cZ m))] : List (Nat × Option (List AV)))) ++ [.inl d]) md'] (kk : RW Tryz.prog N all Q md' rest ⟨(d, .own (nidl + 1) 0 m.length 4) :: tsl, iF hsl [((nidl + 1), some (aI cZ m))], nidl + 2, z0⟩) : RW Tryz.prog N all Q md (⟨some d, .call ⟨.value (.func 186), #[x0], tys⟩, ty, pos, af, none⟩ :: rest) ⟨tsl, hsl, nidl, z0⟩ := by
 refine cB [] 2 [((nidl + 1), some (aI cZ m))] hmc (avs := [sl cZ m]) ?_ rfl ?_ rfl ?_ (by simpa using hM) ?_ ?_ ?_ hN (md' := md') (hmd := hmd) kk
 ·show evL (lk tsl) [x0] = _
  simp only [evL, ha0]
 ·exact trivial
 ·(repeat' (exact RnL.purI inferInstance))
 ·(repeat' (exact RnV.own rfl))
 ·simp [dI]
 ·(repeat' (first|exact trivial|(refine And.intro ⟨1, _, rfl, rfl, ?_⟩ ?_)|exact RnL.purI inferInstance))
theorem oX {m : List Cl} {j : Nat} {N : Nat} {Q : Exit → AS → Prop} {all : Array Oper} {rest : List Oper} {tsl : List (Nat × AV)} {hsl : List (Nat × Option (List AV))} {nidl : Nat} {z0 : Lo} {md : Md} {d : Nat} {ty : TypeId} {pos : String} {af : Array Edge} {tys : Array TypeId} {x0 : Operand} (ha0 : ev (lk tsl) x0 = some (sl cZ m)) (hmc : MC Tryz.prog 186 [sl cZ m] [] 0 (fun _ : Unit => True) (fun _ => .own 1 0 m.length 4) (fun _ => [(1, some (aI fR (eB m j (.own 2 0 m[j]!.stk.length 2)))), (2, some (aI dK m[j]!.stk))])) (hM : Nat.ble (nidl + 3) eR = true) (hN : Nat.blt d N = true) {md' : Md} [hmd : MdA md (gL [x0] ++ []) (List.map Sum.inr (List.map Prod.fst ([((nidl + 1), some (aI fR (eB m j (.own (nidl + 2) 0 m[j]!.stk.length 2)))), ((nidl + 2), some (aI dK m[j]!.stk))] : List (Nat × Option (List AV)))) ++ [.inl d]) md'] (kk : RW Tryz.prog N all Q md' rest ⟨(d, .own (nidl + 1) 0 m.length 4) :: tsl, iF hsl [((nidl + 1), some (aI fR (eB m j (.own (nidl + 2) 0 m[j]!.stk.length 2)))), ((nidl + 2), some (aI dK m[j]!.stk))], nidl + 3, z0⟩) : RW Tryz.prog N all Q md (⟨some d, .call ⟨.value (.func 186), #[x0], tys⟩, ty, pos, af, none⟩ :: rest) ⟨tsl, hsl, nidl, z0⟩ := by
 refine cB [] 3 [((nidl + 1), some (aI fR (eB m j (.own (nidl + 2) 0 m[j]!.stk.length 2)))), ((nidl + 2), some (aI dK m[j]!.stk))] hmc (avs := [sl cZ m]) ?_ rfl ?_ rfl ?_ (by simpa using hM) ?_ ?_ ?_ hN (md' := md') (hmd := hmd) kk
 ·show evL (lk tsl) [x0] = _
  simp only [evL, ha0]
 ·exact trivial
 ·(repeat' (exact RnL.purI inferInstance))
 ·(repeat' (exact RnV.own rfl))
 ·simp [dI]
 ·(repeat' (first|exact trivial|(refine And.intro ⟨1, _, rfl, rfl, ?_⟩ ?_)|(refine And.intro ⟨2, _, rfl, rfl, ?_⟩ ?_)|exact RnL.purI inferInstance|exact kQ rfl))
theorem mJ {α : Type} [Inhabited α] (l : List α) (k : Nat) : l.set k l[k]! = l := by
 rcases Nat.lt_or_ge k l.length with h|h
 ·rw [cT _ _ h]; simp
 ·exact List.set_eq_of_length_le h
theorem Dk {m : List Cl} {i : Nat} (hi : i < m.length) : iV (aI cZ m) (0 + i * 4 + 3) [sl dK m[i]!.stk] = aI cZ m := by
 have h := BL (xs := m) (k := i) (s := m[i]!.stk) hi
 rw [show m.set i { m[i]! with stk := m[i]!.stk } = m from mJ m i] at h
 exact h
theorem BF {m : List Cl} {i j : Nat} {X : AV} (hi : i < m.length) (h : i ≠ j) : (eB m j X)[i]! = qS m[i]! := by
 unfold eB
 rw [cT _ _ (by rw [List.length_set, List.length_map]; exact hi), List.getElem_set_ne (fun e => h e.symm), List.getElem_map, cT _ _ hi]
theorem Ic {m : List Cl} {i j : Nat} {X : AV} (h : i < m.length ∧ i ≠ j) : iV (aI fR (eB m j X)) (0 + i * 4 + 3) [sl dK m[i]!.stk] = aI fR (eB m j X) := by
 have hl := eA (m := m) (j := j) (X := X)
 have e : (eB m j X).set i { (eB m j X)[i]! with av := sl dK m[i]!.stk } = eB m j X := by
  rw [BF h.1 h.2]
  have : ({ qS m[i]! with av := sl dK m[i]!.stk } : Co) = (eB m j X)[i]! := by rw [BF h.1 h.2]; rfl
  rw [this]; exact mJ _ _
 rw [← e]
 have := fI (f := fR) (xs := eB m j X) (k := i) (j := 3) (new := [sl dK m[i]!.stk]) (y := { (eB m j X)[i]! with av := sl dK m[i]!.stk }) (by rw [hl]; exact h.1) (by simp) rfl
 rw [e] at this ⊢
 exact this
theorem pC {mp : List (Nat × Nat)} {lo : Lo} : ∀ {cs : List AV}, c9 cs = true → All2 (uW mp lo) cs cs
 | [], _ => .nil
 | c :: cs, h => by
  simp only [c9, Bool.and_eq_true] at h
  exact .cons (.inl ⟨rfl, h.1⟩) (pC h.2)
theorem tM {α β : Type} {R : α → β → Prop} : ∀ {a : List α} {b : List β} {c : List α} {d : List β}, All2 R a b → All2 R c d → All2 R (a ++ c) (b ++ d)
 | _, _, _, _, .nil, h => h
 | _, _, _, _, .cons h1 h2, h => .cons h1 (tM h2 h)
theorem CN {mp : List (Nat × Nat)} {lo : Lo} {m : List Cl} {j k i i' : Nat} (h : j < m.length) (hr : IP mp lo (.own i 0 k 2) = some (.own i' 0 k 2)) : All2 (uW mp lo) (aI fR (eB m j (.own i 0 k 2))) (aI fR (eB m j (.own i' 0 k 2))) := by
 rw [jS h, jS h]
 exact tM (pC (inferInstance : Pur (aI cZ _)).pf) (tM (pC (inferInstance : Pur [iv _, bv _, iv _]).pf) (.cons (.inr hr) (pC (inferInstance : Pur (aI cZ _)).pf)))
theorem kS (m : List Cl) (hm : OkM m) : MC Tryz.prog 186 [sl cZ m] [] 0 (fun _ : Unit => True) (fun _ => .own 1 0 m.length 4) (fun _ => [(1, some (aI cZ m))]) := by
 have hml := hm.l
 have hcc := y0 m (by omega)
 (refine bX Tryz.func186 rfl (by simp [Tryz.ntmps186]) ?_; rw [Tryz.ntmps186])
 repeat' (first|(apply aK;first|(apply wW;rfl;exact hcc;rfl;rfl)|(apply aE;rfl;rfl)|(apply aC;rfl;rfl)|(apply bQ;rfl;rfl;rfl)|(apply aF;kernel_rfl))|(apply aL;first|apply aH|apply aB|apply aM)|with_reducible apply aA)
 refine a8 (σ := Nat) [3, 8, 9] [(3, _), (8, _), (9, _)] [] [] (fun k => [(10, iv (k : Int))]) (fun k => [(1, some (aI cZ m))]) (fun k => k ≤ m.length) (fun k => m.length - k) (0) (Nat.zero_le _) rfl rfl (by repeat' (first|exact trivial|refine And.intro rfl ?_)) (by repeat' (first|exact trivial|refine And.intro (.inr rfl) ?_)) ?_
 rintro i hi
 by_cases hin : i < m.length
 ·have hst : m[i]!.stk.length ≤ 200 := (((dX m).1 hm).2 i hin).l.2
  have hct := Ai m[i]!.stk (by omega)
  repeat' (first|(apply aK;first|(apply pJ;rfl;exact hct;rfl;rfl)|(with_reducible apply cS (d := 20))|(apply aE;rfl;rfl)|(first|(apply gS;(case hx|hH => rfl);(case hf|hg|hα => infer_instance);(case hk => omega);(case h0|hN => rfl))|(apply aN;rfl;rfl;rfl;rfl))|(apply aD;rfl;rfl;rfl)|(apply aU;rfl;rfl;rfl;rfl)|(apply aC;rfl;rfl)|(apply cM;rfl;rfl;(assumption);rfl)|(apply aF;kernel_rfl)|(apply bD;rfl;rfl)|(apply aW;rfl;rfl;rfl;rfl;rfl;(case hl => (simp;done));(exact (rfl:_=[_, _, _, _]))))|(apply aL;first|apply aH|apply aB|(apply aP;rfl;all_goals intro hc;have hq:=hc;(try simp only [cH] at hq);try exfalso;omega)|apply aM|apply aT)|with_reducible apply aA)
  refine dV (iO ?_ (Le.frzD (d := 19) (i := 4) rfl rfl))
  repeat' (first|(apply aK;first|(apply aE;rfl;rfl)|(apply aD;rfl;rfl;rfl)|(apply bS;rfl;rfl;omega;rfl)|(apply cM;rfl;rfl;(assumption);rfl)|(apply aF;kernel_rfl)|(apply aW;rfl;rfl;rfl;rfl;rfl;(rw [aR]; simp only [gA] <;> omega);(exact Dk (by (assumption)))))|(apply aL;(apply aB))|with_reducible apply aA|with_reducible apply aX)
  (apply dJ (i + 1);focus (refine Le.ren [(1, 1)] rfl (by decide) ?_ ?_ <;> repeat' (first|exact trivial|refine And.intro ⟨_, rfl, ?_⟩ ?_|refine And.intro ⟨_, _, rfl, rfl, ?_⟩ ?_|exact Or.inr rfl|refine Or.inl ⟨?_, (by first|rfl|exact aY _ _)⟩|rfl)))
  ·omega
  ·omega
 ·repeat' (first | (apply aK; first | (apply aE;rfl;rfl) | (apply aU;rfl;rfl;rfl;rfl) | (apply aC;rfl;rfl) | (apply aF;kernel_rfl)) | (apply aL; first | apply aH | apply aB | (apply aP;rfl;all_goals intro hc;have hq:=hc;(try simp only [cH] at hq);try exfalso;omega) | apply bK | apply aQ) | with_reducible apply aA | with_reducible apply bI | with_reducible apply bJ)
  (refine aO rfl ?_; refine bV () trivial ?_ ⟨.inr (Eq.trans (b := some _) rfl ?_), trivial⟩)
  ·rfl
  ·rfl
theorem s7 (m : List Cl) (j : Nat) (hm : OkM m) (hj : j < m.length) : MC Tryz.prog 186 [sl cZ m] [] 0 (fun _ : Unit => True) (fun _ => .own 1 0 m.length 4) (fun _ => [(1, some (aI fR (eB m j (.own 2 0 m[j]!.stk.length 2)))), (2, some (aI dK m[j]!.stk))]) := by
 have hml := hm.l
 have hcc := y0 m (by omega)
 (refine bX Tryz.func186 rfl (by simp [Tryz.ntmps186]) ?_; rw [Tryz.ntmps186])
 repeat' (first|(apply aK;first|(apply wW;rfl;exact hcc;rfl;rfl)|(apply aE;rfl;rfl)|(apply aC;rfl;rfl)|(apply bQ;rfl;rfl;rfl)|(apply aF;kernel_rfl))|(apply aL;first|apply aH|apply aB|apply aM)|with_reducible apply aA)
 refine AW.le ?_ (Le.bump 1)
 refine a8 (σ := Nat × Bool) [3, 8, 9] [(3, _), (8, _), (9, _)] [] [] (fun k => [(10, iv (k.1 : Int))]) (fun k => [(1, some (cond k.2 (aI fR (eB m j (.own 2 0 m[j]!.stk.length 2))) (aI cZ m))), (2, cond k.2 (some (aI dK m[j]!.stk)) none)]) (fun k => k.1 ≤ m.length ∧ k.2 = decide (j < k.1)) (fun k => m.length - k.1) (0, false) ⟨Nat.zero_le _, by simp⟩ rfl rfl (by repeat' (first|exact trivial|refine And.intro rfl ?_)) (by repeat' (first|exact trivial|refine And.intro (.inr rfl) ?_)) ?_
 rintro ⟨i, b⟩ ⟨hi, hb⟩
 dsimp only at hi hb ⊢
 by_cases hin : i < m.length
 ·have hst : m[i]!.stk.length ≤ 200 := (((dX m).1 hm).2 i hin).l.2
  have hct := Ai m[i]!.stk (by omega)
  by_cases hij : j < i
  ·rw [decide_eq_true hij] at hb; subst hb
   simp only [cond_true]
   have hol := eA (m := m) (j := j) (X := .own 2 0 m[j]!.stk.length 2)
   have hon := BF (m := m) (i := i) (j := j) (X := .own 2 0 m[j]!.stk.length 2) hin (by omega)
   repeat' (first|(apply aK;first|(with_reducible apply cS (d := 5))|(apply aE;rfl;rfl)|(apply gS;(case hx|hH => rfl);(case hf|hg|hα => infer_instance);(case hk => omega);(case h0|hN => rfl))|(apply aU;rfl;rfl;rfl;rfl)|(apply cM;rfl;rfl;(assumption);rfl)|(apply aF;kernel_rfl))|(apply aL;first|apply aH|apply aB|(apply aP;rfl;all_goals intro hc;have hq:=hc;(try simp only [cH] at hq);try exfalso;omega)|apply aM|apply aT)|with_reducible apply aA)
   refine dV ?_
   rw [hon]
   dsimp only [qS]
   repeat' (first|(apply aK;first|(apply pJ;rfl;exact hct;rfl;rfl)|(with_reducible apply cS (d := 20))|(apply aE;rfl;rfl)|(apply aN;rfl;rfl;rfl;rfl)|(apply aD;rfl;rfl;rfl)|(apply aC;rfl;rfl)|(apply aF;kernel_rfl)|(apply bD;rfl;rfl)|(apply aW;rfl;rfl;rfl;rfl;rfl;(case hl => (simp;done));(exact (rfl:_=[_, _, _, _]))))|(apply aL;(apply aB))|with_reducible apply aA)
   refine dV (iO ?_ (Le.frzD (d := 19) (i := 5) rfl rfl))
   repeat' (first|(apply aK;first|(apply aE;rfl;rfl)|(apply aD;rfl;rfl;rfl)|(apply bS;rfl;rfl;omega;rfl)|(apply cM;rfl;rfl;(assumption);rfl)|(apply aF;kernel_rfl)|(apply aW;rfl;rfl;rfl;rfl;rfl;(rw [aR]; simp only [gA] <;> omega);(exact Ic (by (omega)))))|(apply aL;(apply aB))|with_reducible apply aA|with_reducible apply aX)
   (apply dJ (i + 1, true);focus (refine Le.ren [(1, 1), (2, 2)] rfl (by decide) ?_ ?_ <;> repeat' (first|exact trivial|refine And.intro ⟨_, rfl, ?_⟩ ?_|refine And.intro ⟨_, _, rfl, rfl, ?_⟩ ?_|exact Or.inr rfl|refine Or.inl ⟨?_, (by first|rfl|exact aY _ _)⟩|rfl)))
   ·exact Or.inr (CN hj rfl)
   ·exact ⟨by dsimp only;omega, by dsimp only;rw [decide_eq_true (by omega)]⟩
   ·dsimp only;omega
  ·rw [decide_eq_false hij] at hb; subst hb
   simp only [cond_false]
   repeat' (first|(apply aK;first|(apply pJ;rfl;exact hct;rfl;rfl)|(with_reducible apply cS (d := 20))|(apply aE;rfl;rfl)|(first|(apply gS;(case hx|hH => rfl);(case hf|hg|hα => infer_instance);(case hk => omega);(case h0|hN => rfl))|(apply aN;rfl;rfl;rfl;rfl))|(apply aD;rfl;rfl;rfl)|(apply aU;rfl;rfl;rfl;rfl)|(apply aC;rfl;rfl)|(apply cM;rfl;rfl;(assumption);rfl)|(apply aF;kernel_rfl)|(apply bD;rfl;rfl)|(apply aW;rfl;rfl;rfl;rfl;rfl;(case hl => (simp;done));(exact (rfl:_=[_, _, _, _]))))|(apply aL;first|apply aH|apply aB|(apply aP;rfl;all_goals intro hc;have hq:=hc;(try simp only [cH] at hq);try exfalso;omega)|apply aM|apply aT)|with_reducible apply aA)
   by_cases hie : i = j
   ·subst hie
    refine dV ?_
    repeat' (first|(apply aK;first|(apply aE;rfl;rfl)|(apply aD;rfl;rfl;rfl)|(apply bS;rfl;rfl;omega;rfl)|(apply cM;rfl;rfl;(assumption);rfl)|(apply aF;kernel_rfl)|(apply aW;rfl;rfl;rfl;rfl;rfl;(rw [aR]; simp only [gA] <;> omega);(exact yU (by (assumption)))))|(apply aL;(apply aB))|with_reducible apply aA|with_reducible apply aX)
    (apply dJ (i + 1, true);focus (refine Le.ren [(1, 1), (2, 5)] rfl (by decide) ?_ ?_ <;> repeat' (first|exact trivial|refine And.intro ⟨_, rfl, ?_⟩ ?_|refine And.intro ⟨_, _, rfl, rfl, ?_⟩ ?_|exact Or.inr rfl|refine Or.inl ⟨?_, (by first|rfl|exact aY _ _)⟩|rfl)))
    ·exact Or.inr (CN hin rfl)
    ·exact ⟨by dsimp only;omega, by dsimp only;rw [decide_eq_true (by omega)]⟩
    ·dsimp only;omega
   ·refine dV (iO ?_ (Le.frzD (d := 19) (i := 5) rfl rfl))
    repeat' (first|(apply aK;first|(apply aE;rfl;rfl)|(apply aD;rfl;rfl;rfl)|(apply bS;rfl;rfl;omega;rfl)|(apply cM;rfl;rfl;(assumption);rfl)|(apply aF;kernel_rfl)|(apply aW;rfl;rfl;rfl;rfl;rfl;(rw [aR]; simp only [gA] <;> omega);(exact Dk (by (assumption)))))|(apply aL;(apply aB))|with_reducible apply aA|with_reducible apply aX)
    (apply dJ (i + 1, false);focus (refine Le.ren [(1, 1)] rfl (by decide) ?_ ?_ <;> repeat' (first|exact trivial|refine And.intro ⟨_, rfl, ?_⟩ ?_|refine And.intro ⟨_, _, rfl, rfl, ?_⟩ ?_|exact Or.inr rfl|refine Or.inl ⟨?_, (by first|rfl|exact aY _ _)⟩|rfl)))
    ·exact ⟨by dsimp only;omega, by dsimp only;rw [decide_eq_false (by omega)]⟩
    ·dsimp only;omega
 ·rw [decide_eq_true (by omega)] at hb; subst hb
  simp only [cond_true]
  repeat' (first|(apply aK;first|(apply aE;rfl;rfl)|(apply aU;rfl;rfl;rfl;rfl)|(apply aC;rfl;rfl)|(apply aF;kernel_rfl))|(apply aL;first|apply aH|apply aB|(apply aP;rfl;all_goals intro hc;have hq:=hc;(try simp only [cH] at hq);try exfalso;omega)|apply bK|apply aQ)|with_reducible apply aA|with_reducible apply bI|with_reducible apply bJ)
  (refine aO rfl ?_; refine bV () trivial ?_ ⟨.inr (Eq.trans (b := some _) rfl ?_), ⟨.inr (Eq.trans (b := some _) rfl ?_), trivial⟩⟩)
  ·rfl
  ·rfl
  ·rfl
theorem mS {m : List Cl} {x : Pt} {wr : Bool} {n : Nat} {N : Nat} {Q : Exit → AS → Prop} {all : Array Oper} {rest : List Oper} {tsl : List (Nat × AV)} {hsl : List (Nat × Option (List AV))} {nidl : Nat} {z0 : Lo} {md : Md} {d : Nat} {ty : TypeId} {pos : String} {af : Array Edge} {tys : Array TypeId} {x0 x1 x2 : Operand} {i0 : Nat} (ha0 : ev (lk tsl) x0 = some (.own i0 0 n 4)) (ha1 : ev (lk tsl) x1 = some (nB x)) (ha2 : ev (lk tsl) x2 = some (bv wr)) (hH0 : cK hsl i0 = some (aI cZ m)) (hmc : MC Tryz.prog 187 [.own 0 0 n 4, nB x, bv wr] [(0, some (aI cZ m))] 1 (fun _ : Unit => True) (fun _ => iv (cL m x wr)) (fun _ => [(0, some (aI cZ m))])) (hM : Nat.ble (nidl + 0) eR = true) (hN : Nat.blt d N = true) {md' : Md} [hmd : MdA md (gL [x0, x1, x2] ++ [.inr i0]) (List.map Sum.inr (List.map Prod.fst ([(i0, some (aI cZ m))] : List (Nat × Option (List AV)))) ++ [.inl d]) md'] (kk : RW Tryz.prog N all Q md' rest ⟨(d, iv (cL m x wr)) :: tsl, iF hsl [(i0, some (aI cZ m))], nidl + 0, z0⟩) : RW Tryz.prog N all Q md (⟨some d, .call ⟨.value (.func 187), #[x0, x1, x2], tys⟩, ty, pos, af, none⟩ :: rest) ⟨tsl, hsl, nidl, z0⟩ := by
 refine cB [i0] 1 [(i0, some (aI cZ m))] hmc (avs := [.own i0 0 n 4, nB x, bv wr]) ?_ rfl ?_ rfl ?_ (by simpa using hM) ?_ ?_ ?_ hN (md' := md') (hmd := hmd) kk
 ·show evL (lk tsl) [x0, x1, x2] = _
  simp only [evL, ha0, ha1, ha2]
 ·exact ⟨⟨_, _, rfl, hH0, by (repeat' (exact RnL.purI inferInstance))⟩, trivial⟩
 ·(repeat' (first|exact RnL.purI inferInstance|exact RnV.own rfl|refine RnL.cons ?_ ?_))
 ·(repeat' (exact RnV.purI inferInstance))
 ·simp [dI]
 ·(repeat' (first|exact trivial|(refine And.intro ⟨0, _, rfl, rfl, ?_⟩ ?_)|exact RnL.purI inferInstance))
theorem vL {m : List Cl} {j : Nat} {t : Int} {k n : Nat} {N : Nat} {Q : Exit → AS → Prop} {all : Array Oper} {rest : List Oper} {tsl : List (Nat × AV)} {hsl : List (Nat × Option (List AV))} {nidl : Nat} {z0 : Lo} {md : Md} {d : Nat} {ty : TypeId} {pos : String} {af : Array Edge} {tys : Array TypeId} {x0 x1 x2 : Operand} {i0 i1 : Nat} (ha0 : ev (lk tsl) x0 = some (.own i0 0 n 4)) (ha1 : ev (lk tsl) x1 = some (.agg [iv (j : Int), iv t])) (ha2 : ev (lk tsl) x2 = some (bv true)) (hH0 : cK hsl i0 = some (aI fR (eB m j (.own i1 0 m[j]!.stk.length 2)))) (hH1 : cK hsl i1 = some (aI dK m[j]!.stk)) (hdd : Go.AL.distinct [i0, i1] = true) (hmc : MC Tryz.prog 187 [.own 0 0 n 4, .agg [iv (j : Int), iv t], bv true] [(0, some (aI fR (eB m j (.own 1 0 m[j]!.stk.length 2)))), (1, some (aI dK m[j]!.stk))] 2 (fun _ : Unit => True) (fun _ => iv 0) (fun _ => [(0, some (aI fR (eB m j (.own 1 0 (k + 1) 2)))), (1, some (aI dK (m[j]!.stk.take (k + 1))))])) (hM : Nat.ble (nidl + 0) eR = true) (hN : Nat.blt d N = true) {md' : Md} [hmd : MdA md (gL [x0, x1, x2] ++ [.inr i0, .inr i1]) (List.map Sum.inr (List.map Prod.fst ([(i0, some (aI fR (eB m j (.own i1 0 (k + 1) 2)))), (i1, some (aI dK (m[j]!.stk.take (k + 1))))] : List (Nat × Option (List AV)))) ++ [.inl d]) md'] (kk : RW Tryz.prog N all Q md' rest ⟨(d, iv 0) :: tsl, iF hsl [(i0, some (aI fR (eB m j (.own i1 0 (k + 1) 2)))), (i1, some (aI dK (m[j]!.stk.take (k + 1))))], nidl + 0, z0⟩) : RW Tryz.prog N all Q md (⟨some d, .call ⟨.value (.func 187), #[x0, x1, x2], tys⟩, ty, pos, af, none⟩ :: rest) ⟨tsl, hsl, nidl, z0⟩ := by
 refine cB [i0, i1] 2 [(i0, some (aI fR (eB m j (.own i1 0 (k + 1) 2)))), (i1, some (aI dK (m[j]!.stk.take (k + 1))))] hmc (avs := [.own i0 0 n 4, .agg [iv (j : Int), iv t], bv true]) ?_ hdd ?_ rfl ?_ (by simpa using hM) ?_ ?_ ?_ hN (md' := md') (hmd := hmd) kk
 ·show evL (lk tsl) [x0, x1, x2] = _
  simp only [evL, ha0, ha1, ha2]
 ·exact ⟨⟨_, _, rfl, hH0, by (repeat' (exact kQ rfl))⟩, ⟨⟨_, _, rfl, hH1, by (repeat' (exact RnL.purI inferInstance))⟩, trivial⟩⟩
 ·(repeat' (first|exact RnL.purI inferInstance|exact RnV.own rfl|refine RnL.cons ?_ ?_))
 ·(repeat' (exact RnV.purI inferInstance))
 ·simp [dI]
 ·(repeat' (first|exact trivial|(refine And.intro ⟨0, _, rfl, rfl, ?_⟩ ?_)|(refine And.intro ⟨1, _, rfl, rfl, ?_⟩ ?_)|exact RnL.purI inferInstance|exact kQ rfl))
theorem LdL.app {D : List Nat} {H : Nat → Option (List AV)} : ∀ {a b c d : List AV}, LdL D H a b → LdL D H c d → c9 a = true → LdL D H (a ++ c) (a ++ d)
 | [], _, _, _, _, h, _ => h
 | x :: a, b, c, d, h1, h, hp => by
  simp only [c9, Bool.and_eq_true] at hp
  exact .cons (.pur hp.1) (LdL.app (a := a) (b := a) (.pur hp.2) h hp.2)
theorem KZ {D : List Nat} {H : Nat → Option (List AV)} {m : List Cl} {j i k : Nat} {r : List Tg} (hi : i ∈ D) (hH : H i = some (aI dK r)) (hk : k = r.length) (hj : j < m.length) : LdL D H (aI fR (eB m j (.own i 0 k 2))) (aI cZ (m.set j { m[j]! with stk := r })) := by
 subst hk
 rw [← zD, jS hj, jS hj]
 have p1 : c9 (aI cZ (m.take j)) = true := (inferInstance : Pur (aI cZ _)).pf
 have p2 : c9 [iv m[j]!.val, bv m[j]!.alive, iv m[j]!.next] = true := rfl
 exact LdL.app (.pur p1) (LdL.app (.pur p2) (.cons (.own hi hH (.pur (inferInstance : Pur (aI dK r)).pf)) (.pur (inferInstance : Pur (aI cZ _)).pf)) p2) p1
theorem Dn {D : List Nat} {H : Nat → Option (List AV)} {m : List Cl} {j i : Nat} (hi : i ∈ D) (hH : H i = some (aI dK m[j]!.stk)) (hj : j < m.length) : LdL D H (aI fR (eB m j (.own i 0 m[j]!.stk.length 2))) (aI cZ m) := by
 have h := KZ (m := m) (r := m[j]!.stk) hi hH rfl hj
 rwa [show m.set j { m[j]! with stk := m[j]!.stk } = m from mJ m j] at h
theorem K3 {m : List Cl} {x : Pt} {wr : Bool} (h : 0 ≤ x.cell) (h2 : x.cell < m.length) (h3 : m[x.cell.toNat]!.alive = true) (h4 : 0 ≤ dC m[x.cell.toNat]!.stk x.tag) (hw : wr = true) (h5 : m[x.cell.toNat]!.stk[(dC m[x.cell.toNat]!.stk x.tag).toNat]!.uq = false) : cL m x wr = 3 := by
 unfold cL;rw [if_neg (by omega), if_neg (by rw [h3]; decide), if_neg (by omega), if_pos ⟨hw, h5⟩]
theorem pA (m : List Cl) (x : Pt) (wr : Bool) (n : Nat) (hm : OkM m) (hn : n = m.length) (hk : cL m x wr ≠ 0) : MC Tryz.prog 187 [.own 0 0 n 4, nB x, bv wr] [(0, some (aI cZ m))] 1 (fun _ : Unit => True) (fun _ => iv (cL m x wr)) (fun _ => [(0, some (aI cZ m))]) := by
 subst hn
 have hml := hm.l
 have hcv := iJ m hm
 have hst : 0 ≤ x.cell → x.cell < m.length → m[x.cell.toNat]!.stk.length ≤ 200 := fun h1 h2 => (((dX m).1 hm).2 x.cell.toNat (by omega)).l.2
 have hbd := eW m[x.cell.toNat]!.stk x.tag
 have hidx := fun h => yK m[x.cell.toNat]!.stk x.cell x.tag h
 (refine bX Tryz.func187 rfl (by simp [Tryz.ntmps187]) ?_; rw [Tryz.ntmps187])
 repeat' (first|(apply aK;first|((with_reducible apply oG (k := 184));(case ha => rfl);(case hl => (repeat' (first|exact nC|apply lD|exact mY rfl inferInstance)));(case h => exact hcv);(case hfr|hN => rfl);(case hmd => infer_instance))|((apply jD 4);(case hx|hH|hc|hN => rfl))|((with_reducible apply aJ (k := 230));(case ha => rfl);(case h => exact (hidx (by have := hst (by omega) (by omega);omega)));(case hp => (exact Pur.pf));(case hN => rfl))|(with_reducible apply cS (d := 75))|(apply aE;rfl;rfl)|(first|(apply cV;(case hx|hH => rfl);(case hf|hg|hα => infer_instance);(case hk => omega);(case hc|hN => rfl))|(apply aN;rfl;rfl;rfl;rfl))|(apply aD;rfl;rfl;rfl)|(first|(apply a6;rfl;rfl;rfl;(first|rfl|assumption))|(apply bB;rfl;rfl;rfl;(assumption))|(apply bR;(case hj|hb|hN => rfl);all_goals (intro hg;have hq := hg;(try simp only [cH] at hq);(try (exfalso;omega)))))|(first|(apply hU;rfl;rfl;omega;rfl)|(apply aU;rfl;rfl;rfl;rfl))|(apply aC;rfl;rfl)|(first|(apply bU;rfl;(assumption);rfl;rfl)|(apply bG;rfl;(first|rfl|assumption);rfl;rfl))|(first|(apply cP;(case hx|hi => rfl);(case hm => (omega));(case hml => (rfl));(case hα | hf|hg => infer_instance);(case hN => rfl))|(apply cQ;rfl;rfl;(omega);rfl))|((with_reducible apply aJ (k := 84));(case ha => rfl);(case h => (apply eF <;> (fail)));(case hp => (rfl));(case hN => rfl))|(apply bQ;rfl;rfl;rfl)|(apply aF;kernel_rfl)|(apply cF;rfl;rfl)|(apply b8;rfl;rfl;rfl)|(apply bH;rfl;rfl;rfl;rfl))|(apply aL;first|apply aH|apply aB|(apply cG;rfl;(rfl))|(apply aP;rfl;all_goals intro hc;have hq:=hc;(try simp only [cH] at hq);try exfalso;omega)|apply aM|apply aT|apply aQ)|with_reducible apply aA|with_reducible apply bE|with_reducible apply cO)
 ·(refine aO rfl ?_; refine bV () trivial ?_ ⟨.inr (Eq.trans (b := some _) rfl ?_), trivial⟩)
  ·rw [BB (by omega)]; rfl
  ·rfl
 ·(refine aO rfl ?_; refine bV () trivial ?_ ⟨.inr (Eq.trans (b := some _) rfl ?_), trivial⟩)
  ·rw [Gf (by omega) (by omega) (by assumption)]; rfl
  ·rfl
 ·(refine aO rfl ?_; refine bV () trivial ?_ ⟨.inr (Eq.trans (b := some _) rfl ?_), trivial⟩)
  ·rw [E3 (by omega) (by omega) (by assumption) (by assumption)]; rfl
  ·rfl
 ·(refine aO rfl ?_; refine bV () trivial ?_ ⟨.inr (Eq.trans (b := some _) rfl ?_), trivial⟩)
  ·rw [K3 (by omega) (by omega) (by assumption) (by assumption) (by assumption) (by assumption)]; rfl
  ·rfl
 ·exfalso
  have hw : wr = true := by assumption
  have hu : m[x.cell.toNat]!.stk[(dC m[x.cell.toNat]!.stk x.tag).toNat]!.uq = true := by assumption
  subst hw
  refine hk ?_
  rw [x8, if_pos (rJ (by omega) (by omega) (by assumption) (by assumption)), if_neg (by rw [hu]; decide)]
 ·exfalso
  have hw : wr = false := by assumption
  subst hw
  exact hk (rJ (by omega) (by omega) (by assumption) (by assumption))
theorem sZ (m : List Cl) (j : Nat) (t : Int) (k n : Nat) (hm : OkM m) (hn : n = m.length) (hj : j < m.length) (hk : dC m[j]!.stk t = (k : Int)) (hal : m[j]!.alive = true) (hu : m[j]!.stk[k]!.uq = true) : MC Tryz.prog 187 [.own 0 0 n 4, .agg [iv (j : Int), iv t], bv true] [(0, some (aI fR (eB m j (.own 1 0 m[j]!.stk.length 2)))), (1, some (aI dK m[j]!.stk))] 2 (fun _ : Unit => True) (fun _ => iv 0) (fun _ => [(0, some (aI fR (eB m j (.own 1 0 (k + 1) 2)))), (1, some (aI dK (m[j]!.stk.take (k + 1))))]) := by
 subst hn
 have hml := hm.l
 have hcv := iJ m hm
 have hst : m[j]!.stk.length ≤ 200 := (((dX m).1 hm).2 j hj).l.2
 have hbd := eW m[j]!.stk t
 rw [hk] at hbd
 have hidx := yK m[j]!.stk (j : Int) t (by omega)
 rw [hk] at hidx
 have hog := iI (m := m) (j := j) (X := .own 1 0 m[j]!.stk.length 2) hj
 have hol := eA (m := m) (j := j) (X := .own 1 0 m[j]!.stk.length 2)
 (refine bX Tryz.func187 rfl (by simp [Tryz.ntmps187]) ?_; rw [Tryz.ntmps187])
 repeat' (first|(apply aK;first|((with_reducible apply oM (k := 184) (D := [0, 1]) (h := hcv));(case ha => rfl);(case hl => exact .cons (.own (by simp) rfl (Dn (by simp) rfl hj)) .nil);(case hfr|hN => rfl))|(with_reducible apply cS (d := 35))|(apply aE;rfl;rfl)|(first|(apply cV;(case hx|hH => rfl);(case hf|hg|hα => infer_instance);(case hk => omega);(case hc|hN => rfl))|(apply aN;rfl;rfl;rfl;rfl))|(apply aD;rfl;rfl;rfl)|(apply a6;rfl;rfl;rfl;(rfl))|(apply hU;rfl;rfl;omega;rfl)|(apply aC;rfl;rfl)|(apply bG;rfl;(rfl);rfl;rfl)|(apply cM;rfl;rfl;(assumption);rfl)|((with_reducible apply aJ (k := 84));(case ha => rfl);(case h => (apply eF <;> (fail)));(case hp => (rfl));(case hN => rfl))|(apply bQ;rfl;rfl;rfl)|(apply aF;kernel_rfl)|(apply cF;rfl;rfl)|(apply b8;rfl;rfl;rfl)|(apply bH;rfl;rfl;rfl;rfl))|(apply aL;first|apply aH|apply aB|(apply aP;rfl;all_goals intro hc;have hq:=hc;(try simp only [cH] at hq);try exfalso;omega)|apply aT|apply aQ)|with_reducible apply aA|with_reducible apply bE)
 all_goals (try (exfalso;omega))
 ·exfalso
  have h : (eB m j (.own 1 0 m[j]!.stk.length 2))[j]!.alive = false := by assumption
  rw [hog] at h;simp only [hal] at h;cases h
 refine dV ?_
 rw [hog]
 dsimp only
 repeat' (first|(apply aK;first|((apply jD 4);(case hx|hH|hc|hN => rfl))|((with_reducible apply oM (k := 230) (D := [1]) (h := hidx));(case ha => rfl);(case hl => exact .cons (.own (by simp) rfl (.pur (inferInstance : Pur (aI dK _)).pf)) (.cons (.pur rfl) .nil));(case hfr|hN => rfl))|(with_reducible apply cS (d := 68))|(apply aE;rfl;rfl)|(apply cV;(case hx|hH => rfl);(case hf|hg|hα => infer_instance);(case hk => omega);(case hc|hN => rfl))|(apply aD;rfl;rfl;rfl)|(apply a6;rfl;rfl;rfl;(rfl))|(apply aU;rfl;rfl;rfl;rfl)|(apply aC;rfl;rfl)|(apply aF;kernel_rfl)|(apply b8;rfl;rfl;rfl))|(apply aL;first|apply aH|apply aB|(apply cG;rfl;(rfl))|apply aM)|with_reducible apply aA)
 refine dV ?_
 rw [hog]
 dsimp only
 repeat' (first|(apply aK;first|(with_reducible apply cS (d := 81))|(apply aE;rfl;rfl)|(apply cV;(case hx|hH => rfl);(case hf|hg|hα => infer_instance);(case hk => omega);(case hc|hN => rfl))|(apply aD;rfl;rfl;rfl)|(apply a6;rfl;rfl;rfl;(rfl))|(apply aC;rfl;rfl)|(apply bU;rfl;(rfl);rfl;rfl)|(apply cM;rfl;rfl;(omega);rfl)|(apply aF;kernel_rfl)|(apply cF;rfl;rfl)|(apply b8;rfl;rfl;rfl))|(apply aL;first|apply aH|apply aB|(apply bZ;rfl;(rfl))|(apply aP;rfl;all_goals intro hc;have hq:=hc;(try simp only [cH] at hq);try exfalso;omega)|apply aQ)|with_reducible apply aA|with_reducible apply bE|with_reducible apply cO)
 ·exfalso
  have h : m[j]!.stk[k]!.uq = false := by assumption
  rw [hu] at h;cases h
 refine dV ?_
 rw [hog]
 dsimp only
 repeat' (first|(apply aK;first|((apply iS (d := 83) (l := 0) (h := k + 1));(case hx|hn|hl => rfl);(case hh => exact pX rfl (by omega));(case hp => exact if_pos (by omega));(case hN => rfl))|(apply aE;rfl;rfl)|(apply aD;rfl;rfl;rfl)|(apply bS;rfl;rfl;omega;rfl)|(apply aC;rfl;rfl)|(apply aF;kernel_rfl)|(apply b8;rfl;rfl;rfl)|(apply aW;rfl;rfl;rfl;rfl;rfl;(rw [aR]; simp only [gA] <;> omega);(exact tB (by (assumption)))))|(apply aL;first|apply aH|apply aB|apply aQ)|with_reducible apply aA|with_reducible apply aX)
 refine cE (Le.cut (i := 1) ((k + 1) * 2) rfl) ?_
 (refine aO rfl ?_; refine bV () trivial ?_ ⟨.inr (Eq.trans (b := some _) rfl ?_), ⟨.inr (Eq.trans (b := some _) rfl ?_), trivial⟩⟩)
 ·rfl
 ·rfl
 ·rw [fA dK (e := 2)]
theorem El {xs : List Tg} {k n : Nat} {N : Nat} {Q : Exit → AS → Prop} {all : Array Oper} {rest : List Oper} {tsl : List (Nat × AV)} {hsl : List (Nat × Option (List AV))} {nidl : Nat} {z0 : Lo} {md : Md} {d : Nat} {ty : TypeId} {pos : String} {af : Array Edge} {tys : Array TypeId} {x0 : Operand} {i0 : Nat} (ha0 : ev (lk tsl) x0 = some (.own i0 (0 + k * 2) n 2)) (hH0 : cK hsl i0 = some (aI dK xs)) (hmc : MC Tryz.prog 229 [.own 0 (0 + k * 2) n 2] [(0, some (aI dK xs))] 1 (fun _ : Unit => True) (fun _ => .own 2 0 n 2) (fun _ => [(0, some (aI dK xs)), (2, some (aI dK (xs.drop k)))])) (hM : Nat.ble (nidl + 2) eR = true) (hN : Nat.blt d N = true) {md' : Md} [hmd : MdA md (gL [x0] ++ [.inr i0]) (List.map Sum.inr (List.map Prod.fst ([(i0, some (aI dK xs)), ((nidl + 1), some (aI dK (xs.drop k)))] : List (Nat × Option (List AV)))) ++ [.inl d]) md'] (kk : RW Tryz.prog N all Q md' rest ⟨(d, .own (nidl + 1) 0 n 2) :: tsl, iF hsl [(i0, some (aI dK xs)), ((nidl + 1), some (aI dK (xs.drop k)))], nidl + 2, z0⟩) : RW Tryz.prog N all Q md (⟨some d, .call ⟨.value (.func 229), #[x0], tys⟩, ty, pos, af, none⟩ :: rest) ⟨tsl, hsl, nidl, z0⟩ := by
 refine cB [i0] 3 [(i0, some (aI dK xs)), ((nidl + 1), some (aI dK (xs.drop k)))] hmc (avs := [.own i0 (0 + k * 2) n 2]) ?_ rfl ?_ rfl ?_ (by simpa using hM) ?_ ?_ ?_ hN (md' := md') (hmd := hmd) kk
 ·show evL (lk tsl) [x0] = _
  simp only [evL, ha0]
 ·exact ⟨⟨_, _, rfl, hH0, by (repeat' (exact RnL.purI inferInstance))⟩, trivial⟩
 ·(repeat' (first|exact RnL.purI inferInstance|exact RnV.own rfl|refine RnL.cons ?_ ?_))
 ·(repeat' (exact RnV.own rfl))
 ·simp [dI]
 ·(repeat' (first|exact trivial|(refine And.intro ⟨0, _, rfl, rfl, ?_⟩ ?_)|(refine And.intro ⟨2, _, rfl, rfl, ?_⟩ ?_)|exact RnL.purI inferInstance))
theorem GO (xs : List Tg) (k n : Nat) (hn : n = xs.length - k) (hl : xs.length ≤ 1000000) : MC Tryz.prog 229 [.own 0 (0 + k * 2) n 2] [(0, some (aI dK xs))] 1 (fun _ : Unit => True) (fun _ => .own 2 0 n 2) (fun _ => [(0, some (aI dK xs)), (2, some (aI dK (xs.drop k)))]) := by
 subst hn
 (refine bX Tryz.func229 rfl (by simp [Tryz.ntmps229]) ?_; rw [Tryz.ntmps229])
 repeat' (first|(apply aK;first|(apply Ei;rfl;rfl;(intro b hb))|(apply bY;rfl;rfl;rfl;rfl;rfl;(decide);exact C1 rfl rfl;omega;omega;(exact e7 rfl);rfl;rfl)|(apply aE;rfl;rfl)|(apply aC;rfl;rfl)|(apply aF;kernel_rfl)|(apply b0;rfl;rfl;rfl;(rfl);rfl;rfl))|(apply aL;first|apply aH|apply aB|(apply aP;rfl;all_goals intro hc;have hq:=hc;(try simp only [cH] at hq);try exfalso;omega)|apply aT|apply aQ)|with_reducible apply aA|with_reducible apply bE)
 ·have h0 : xs.length - k = 0 := hb (by assumption)
  have h1 : xs.drop k = [] := List.drop_eq_nil_of_le (by omega)
  refine cE (Le.bump 1) ?_
  refine cE (Le.nilOwn (d := 2) 2 rfl (by decide)) ?_
  (refine aO rfl ?_; refine bV () trivial ?_ ⟨.inr (Eq.trans (b := some _) rfl ?_), ⟨.inr (Eq.trans (b := some _) rfl ?_), trivial⟩⟩)
  ·show AV.own 2 0 0 2 = _; rw [h0]
  ·rfl
  ·rw [h1]; rfl
 ·(refine aO rfl ?_; refine bV () trivial ?_ ⟨.inr (Eq.trans (b := some _) rfl ?_), ⟨.inr (Eq.trans (b := some _) rfl ?_), trivial⟩⟩)
  ·show AV.own 2 0 (0 + (xs.length - k)) 2 = _
   rw [Nat.zero_add]
  ·rfl
  ·rfl
theorem wC {m : List Cl} {j : Nat} {t : Int} {r : List Tg} {n : Nat} {N : Nat} {Q : Exit → AS → Prop} {all : Array Oper} {rest : List Oper} {tsl : List (Nat × AV)} {hsl : List (Nat × Option (List AV))} {nidl : Nat} {z0 : Lo} {md : Md} {d : Nat} {ty : TypeId} {pos : String} {af : Array Edge} {tys : Array TypeId} {x0 x1 x2 : Operand} {i0 i1 : Nat} (ha0 : ev (lk tsl) x0 = some (.own i0 0 n 4)) (ha1 : ev (lk tsl) x1 = some (.agg [iv (j : Int), iv t])) (ha2 : ev (lk tsl) x2 = some (bv false)) (hH0 : cK hsl i0 = some (aI fR (eB m j (.own i1 0 m[j]!.stk.length 2)))) (hH1 : cK hsl i1 = some (aI dK m[j]!.stk)) (hdd : Go.AL.distinct [i0, i1] = true) (hmc : MC Tryz.prog 187 [.own 0 0 n 4, .agg [iv (j : Int), iv t], bv false] [(0, some (aI fR (eB m j (.own 1 0 m[j]!.stk.length 2)))), (1, some (aI dK m[j]!.stk))] 2 (fun _ : Unit => True) (fun _ => iv 0) (fun _ => [(0, some (aI fR (eB m j (.own 5 0 r.length 2)))), (5, some (aI dK r))])) (hM : Nat.ble (nidl + 4) eR = true) (hN : Nat.blt d N = true) {md' : Md} [hmd : MdA md (gL [x0, x1, x2] ++ [.inr i0, .inr i1]) (List.map Sum.inr (List.map Prod.fst ([(i0, some (aI fR (eB m j (.own (nidl + 3) 0 r.length 2)))), ((nidl + 3), some (aI dK r)), (i1, none)] : List (Nat × Option (List AV)))) ++ [.inl d]) md'] (kk : RW Tryz.prog N all Q md' rest ⟨(d, iv 0) :: tsl, iF hsl [(i0, some (aI fR (eB m j (.own (nidl + 3) 0 r.length 2)))), ((nidl + 3), some (aI dK r)), (i1, none)], nidl + 4, z0⟩) : RW Tryz.prog N all Q md (⟨some d, .call ⟨.value (.func 187), #[x0, x1, x2], tys⟩, ty, pos, af, none⟩ :: rest) ⟨tsl, hsl, nidl, z0⟩ := by
 refine cB [i0, i1] 6 [(i0, some (aI fR (eB m j (.own (nidl + 3) 0 r.length 2)))), ((nidl + 3), some (aI dK r)), (i1, none)] hmc (avs := [.own i0 0 n 4, .agg [iv (j : Int), iv t], bv false]) ?_ hdd ?_ rfl ?_ (by simpa using hM) ?_ ?_ ?_ hN (md' := md') (hmd := hmd) kk
 ·show evL (lk tsl) [x0, x1, x2] = _
  simp only [evL, ha0, ha1, ha2]
 ·exact ⟨⟨_, _, rfl, hH0, by (repeat' (exact kQ rfl))⟩, ⟨⟨_, _, rfl, hH1, by (repeat' (exact RnL.purI inferInstance))⟩, trivial⟩⟩
 ·(repeat' (first|exact RnL.purI inferInstance|exact RnV.own rfl|refine RnL.cons ?_ ?_))
 ·(repeat' (exact RnV.purI inferInstance))
 ·simp [dI]
 ·(repeat' (first|exact trivial|(refine And.intro ⟨0, _, rfl, rfl, ?_⟩ ?_)|(refine And.intro ⟨5, _, rfl, rfl, ?_⟩ ?_)|exact RnL.purI inferInstance|exact kQ rfl))
theorem A6 (m : List Cl) (j : Nat) (t : Int) (r : List Tg) (k n : Nat) (hm : OkM m) (hn : n = m.length) (hj : j < m.length) (hk : dC m[j]!.stk t = (k : Int)) (hal : m[j]!.alive = true) (hr : r = fP m[j]!.stk k false) : MC Tryz.prog 187 [.own 0 0 n 4, .agg [iv (j : Int), iv t], bv false] [(0, some (aI fR (eB m j (.own 1 0 m[j]!.stk.length 2)))), (1, some (aI dK m[j]!.stk))] 2 (fun _ : Unit => True) (fun _ => iv 0) (fun _ => [(0, some (aI fR (eB m j (.own 5 0 r.length 2)))), (5, some (aI dK r))]) := by
 subst hn
 have hml := hm.l
 have hcv := iJ m hm
 have hst : m[j]!.stk.length ≤ 200 := (((dX m).1 hm).2 j hj).l.2
 have hbd := eW m[j]!.stk t
 rw [hk] at hbd
 have hidx := yK m[j]!.stk (j : Int) t (by omega)
 rw [hk] at hidx
 have hog := iI (m := m) (j := j) (X := .own 1 0 m[j]!.stk.length 2) hj
 have hol := eA (m := m) (j := j) (X := .own 1 0 m[j]!.stk.length 2)
 (refine bX Tryz.func187 rfl (by simp [Tryz.ntmps187]) ?_; rw [Tryz.ntmps187])
 repeat' (first|(apply aK;first|((with_reducible apply oM (k := 184) (D := [0, 1]) (h := hcv));(case ha => rfl);(case hl => exact .cons (.own (by simp) rfl (Dn (by simp) rfl hj)) .nil);(case hfr|hN => rfl))|(with_reducible apply cS (d := 35))|(apply aE;rfl;rfl)|(first|(apply cV;(case hx|hH => rfl);(case hf|hg|hα => infer_instance);(case hk => omega);(case hc|hN => rfl))|(apply aN;rfl;rfl;rfl;rfl))|(apply aD;rfl;rfl;rfl)|(apply a6;rfl;rfl;rfl;(rfl))|(apply hU;rfl;rfl;omega;rfl)|(apply aC;rfl;rfl)|(apply bG;rfl;(rfl);rfl;rfl)|(apply cM;rfl;rfl;(assumption);rfl)|((with_reducible apply aJ (k := 84));(case ha => rfl);(case h => (apply eF <;> (fail)));(case hp => (rfl));(case hN => rfl))|(apply bQ;rfl;rfl;rfl)|(apply aF;kernel_rfl)|(apply cF;rfl;rfl)|(apply b8;rfl;rfl;rfl)|(apply bH;rfl;rfl;rfl;rfl))|(apply aL;first|apply aH|apply aB|(apply aP;rfl;all_goals intro hc;have hq:=hc;(try simp only [cH] at hq);try exfalso;omega)|apply aT|apply aQ)|with_reducible apply aA|with_reducible apply bE)
 all_goals (try (exfalso;omega))
 ·exfalso
  have h : (eB m j (.own 1 0 m[j]!.stk.length 2))[j]!.alive = false := by assumption
  rw [hog] at h;simp only [hal] at h;cases h
 refine dV ?_
 rw [hog]
 dsimp only
 repeat' (first|(apply aK;first|((apply jD 4);(case hx|hH|hc|hN => rfl))|((with_reducible apply oM (k := 230) (D := [1]) (h := hidx));(case ha => rfl);(case hl => exact .cons (.own (by simp) rfl (.pur (inferInstance : Pur (aI dK _)).pf)) (.cons (.pur rfl) .nil));(case hfr|hN => rfl))|(with_reducible apply cS (d := 41))|(apply aE;rfl;rfl)|(apply cV;(case hx|hH => rfl);(case hf|hg|hα => infer_instance);(case hk => omega);(case hc|hN => rfl))|(apply aD;rfl;rfl;rfl)|(apply bB;rfl;rfl;rfl;(rfl))|(apply aU;rfl;rfl;rfl;rfl)|(apply aC;rfl;rfl)|(apply bG;rfl;(rfl);rfl;rfl)|(apply aF;kernel_rfl)|(apply b8;rfl;rfl;rfl))|(apply aL;first|apply aH|apply aB|(apply cG;rfl;(rfl))|apply aM)|with_reducible apply aA)
 refine dV ?_
 rw [hog]
 dsimp only
 repeat' (first|(apply aK;first|((apply iS (d := 43) (l := k + 1) (h := m[j]!.stk.length));(case hx|hn => rfl);(case hl => exact pX rfl (by omega));(case hh => rfl);(case hp => exact if_pos (by omega));(case hN => rfl))|(apply El;rfl;rfl;exact GO _ _ _ rfl (by omega);rfl;rfl)|(apply Ib;rfl;rfl;rfl;exact KB _ _ (by rw [List.length_drop]) (by omega);rfl;rfl)|(with_reducible apply cS (d := 51))|(apply aE;rfl;rfl)|(apply cV;(case hx|hH => rfl);(case hf|hg|hα => infer_instance);(case hk => omega);(case hc|hN => rfl))|(apply aD;rfl;rfl;rfl)|(apply bS;rfl;rfl;omega;rfl)|(apply aC;rfl;rfl)|(apply aF;kernel_rfl)|(apply b8;rfl;rfl;rfl))|(apply aL;(apply aB))|with_reducible apply aA)
 refine dV ?_
 rw [hog]
 dsimp only
 have hfl : (aI dK m[j]!.stk).length = m[j]!.stk.length * 2 := aR dK _
 have hsl : (shr (List.drop (k + 1) m[j]!.stk)).length ≤ 200 := Nat.le_trans (List.length_filter_le _ _) (by rw [List.length_drop]; omega)
 repeat' (first|(apply aK;first|((apply iS (d := 53) (l := 0) (h := k + 1));(case hx|hn|hl => rfl);(case hh => exact pX rfl (by omega));(case hp => exact if_pos (by omega));(case hN => rfl))|(apply bY;rfl;rfl;rfl;rfl;rfl;(rw [hfl]; omega);exact C1 (k := 0) rfl rfl;omega;omega;rfl;rfl;rfl)|(apply aE;rfl;rfl)|(apply aD;rfl;rfl;rfl)|(apply bS;rfl;rfl;omega;rfl)|(apply aC;rfl;rfl)|(apply aF;kernel_rfl)|(apply b8;rfl;rfl;rfl)|(apply aW;rfl;rfl;rfl;rfl;rfl;(rw [aR]; simp only [gA] <;> omega);(exact tB (by (assumption)))))|(apply aL;first|apply aH|apply aB|apply aQ)|with_reducible apply aA|with_reducible apply aX)
 have hre : r = m[j]!.stk.take (k + 1) ++ shr (m[j]!.stk.drop (k + 1)) := by rw [hr]; rfl
 have hrl : r.length = k + 1 + (shr (List.drop (k + 1) m[j]!.stk)).length := by rw [hre, List.length_append, List.length_take]; omega
 (refine aO rfl ?_; refine bV () trivial ?_ ⟨.inr (Eq.trans (b := some _) rfl ?_), ⟨.inr (Eq.trans (b := some _) rfl ?_), trivial⟩⟩)
 ·rfl
 ·refine congrArg some ?_
  show aI fR (eB m j (AV.own 5 0 (k + 1 - 0 + (shr (List.drop (k + 1) m[j]!.stk)).length) 2)) = _
  rw [hrl]; rfl
 ·refine congrArg some ?_
  show (List.drop 0 (aI dK m[j]!.stk)).take ((k + 1) * 2) ++ aI dK (List.drop 0 (shr (List.drop (k + 1) m[j]!.stk))) = _
  rw [List.drop_zero, List.drop_zero, fA dK (e := 2), dQ, ← hre]
theorem Hy {m : List Cl} {j : Nat} {X : AV} {v : Int} (h : j < m.length) : iV (aI fR (eB m j X)) (0 + j * 4 + 0) [iv v] = aI fR (eB (m.set j { m[j]! with val := v }) j X) := by
 have e : eB (m.set j { m[j]! with val := v }) j X = (eB m j X).set j ⟨v, m[j]!.alive, m[j]!.next, X⟩ := by
  have e2 : (m.set j { m[j]! with val := v })[j]! = { m[j]! with val := v } := by rw [cT _ _ (by rw [List.length_set]; exact h), List.getElem_set_self]
  unfold eB
  rw [e2, List.map_set, List.set_set, List.set_set]; rfl
 rw [e]
 exact fI (by rw [eA]; exact h) (by simp) (by rw [iI h]; rfl)
theorem Ik {m : List Cl} {j : Nat} {X : AV} {b : Bool} (h : j < m.length) : iV (aI fR (eB m j X)) (0 + j * 4 + 1) [.v (.bool b)] = aI fR (eB (m.set j { m[j]! with alive := b }) j X) := by
 have e : eB (m.set j { m[j]! with alive := b }) j X = (eB m j X).set j ⟨m[j]!.val, b, m[j]!.next, X⟩ := by
  have e2 : (m.set j { m[j]! with alive := b })[j]! = { m[j]! with alive := b } := by rw [cT _ _ (by rw [List.length_set]; exact h), List.getElem_set_self]
  unfold eB
  rw [e2, List.map_set, List.set_set, List.set_set]; rfl
 rw [e]
 exact fI (by rw [eA]; exact h) (by simp) (by rw [iI h]; rfl)
theorem qG (m : List Cl) (hm : OkM m) (x : Pt) : PC Tryz.prog 134 [sl cZ m, nB x] (fun r => r = .tup [sl cZ (dR m x false), iv (nK m x), iv (cL m x false)]) := by
 have hml := hm.l
 by_cases hk : cL m x false = 0
 ·obtain ⟨c, t⟩ := x
  obtain ⟨h1, h2, h3, h4, _⟩ := eL hk
  obtain ⟨j, rfl⟩ := Int.eq_ofNat_of_zero_le (show 0 ≤ c from h1)
  have hj : j < m.length := by have : (j : Int) < m.length := h2;omega
  obtain ⟨k, hkk⟩ := Int.eq_ofNat_of_zero_le (show 0 ≤ dC m[j]!.stk t from h4)
  obtain ⟨r, hr⟩ : ∃ r, r = fP m[j]!.stk k false := ⟨_, rfl⟩
  have hto := A6 m j t r k m.length hm rfl hj hkk h3 hr
  have hog := iI (m := m) (j := j) (X := .own (0 + 1 + 3 + 3) 0 r.length 2) hj
  have hol := eA (m := m) (j := j) (X := .own (0 + 1 + 3 + 3) 0 r.length 2)
  (refine aS Tryz.func134 rfl (by simp [Tryz.ntmps134]) ?_; rw [Tryz.ntmps134])
  repeat' (first|(apply aK;first|((apply oX (j := j));(case ha0 => rfl);(case hmc => exact s7 m j hm hj);(case hM|hN => rfl))|((apply wC (m := m) (j := j) (t := t) (r := r) (n := m.length));(case ha0|ha1|ha2|hH0|hH1|hdd => rfl);(case hmc => exact hto);(case hM|hN => rfl))|(apply aE;rfl;rfl)|(first|(apply cV;(case hx|hH => rfl);(case hf|hg|hα => infer_instance);(case hk => omega);(case hc|hN => rfl))|(apply aN;rfl;rfl;rfl;rfl)|(apply aV;rfl;rfl;(exact (rfl:_=[_, _]));rfl;rfl;rfl))|(apply aD;rfl;rfl;rfl)|(apply aU;rfl;rfl;rfl;rfl)|(apply aC;rfl;rfl)|(apply cM;rfl;rfl;(assumption);rfl)|(apply aF;kernel_rfl)|(apply bH;rfl;rfl;rfl;rfl))|(apply aL;first|apply aH|apply aB|(apply b9;kernel_rfl)|(apply cG;rfl;(rfl))|apply aT|apply aQ)|with_reducible apply aA)
  refine cE (Le.cls (o := 2) (q := 7) (j := j) (k := r.length) (m := m) (r := r) rfl rfl rfl hj (by decide)) ?_
  refine cE (Le.frzD (d := 4) (i := 2) rfl rfl) ?_
  rw [hog]
  refine aO (l := [.imm m.length (aI cZ (m.set j { m[j]! with stk := r })), iv m[j]!.val, iv 0]) rfl ?_
  have eM : dR m ⟨j, t⟩ false = m.set j { m[j]! with stk := r } := by
   unfold dR iZ;rw [if_pos hk]; dsimp only
   rw [Int.toNat_natCast, hkk, Int.toNat_natCast, hr]
  have eN : nK m ⟨j, t⟩ = m[j]!.val := by unfold nK;rw [if_pos hk]; rfl
  rw [eM, eN, hk, fO (by rw [List.length_set])]
  exact ⟨rfl, by (exact Pur.pf)⟩
 ·(refine aS Tryz.func134 rfl (by simp [Tryz.ntmps134]) ?_; rw [Tryz.ntmps134])
  repeat' (first|(apply aK;first|(apply iN;rfl;exact kS m hm;rfl;rfl)|((apply mS (m := m) (x := x) (wr := false) (n := m.length));(case ha0|ha1|ha2|hH0 => rfl);(case hmc => exact pA m x false _ hm rfl hk);(case hM|hN => rfl))|(apply aE;rfl;rfl)|(apply aV;rfl;rfl;(exact (rfl:_=[_, _]));rfl;rfl;rfl)|(apply aU;rfl;rfl;rfl;rfl)|(apply aC;rfl;rfl)|(apply aF;kernel_rfl)|(apply bH;rfl;rfl;rfl;rfl))|(apply aL;first|apply aH|apply aB|(apply aP;rfl;all_goals intro hc;have hq:=hc;(try simp only [cH] at hq);try exfalso;omega)|apply aQ)|with_reducible apply aA|with_reducible apply bE)
  (refine cE (Le.frzD (d := 4) (i := 2) rfl rfl) ?_; refine aO rfl ?_)
  refine ⟨?_, by (exact Pur.pf)⟩
  simp only [bW]
  unfold dR nK;rw [if_neg hk, if_neg hk]
theorem AZ (m : List Cl) (hm : OkM m) (x : Pt) : PC Tryz.prog 188 [sl cZ m, nB x] (fun r => r = .tup [sl cZ (hZ m x), iv (cL m x true)]) := by
 have hml := hm.l
 by_cases hk : cL m x true = 0
 ·obtain ⟨c, t⟩ := x
  obtain ⟨h1, h2, h3, h4, hu⟩ := eL hk
  obtain ⟨j, rfl⟩ := Int.eq_ofNat_of_zero_le (show 0 ≤ c from h1)
  have hj : j < m.length := by have : (j : Int) < m.length := h2;omega
  obtain ⟨k, hkk⟩ := Int.eq_ofNat_of_zero_le (show 0 ≤ dC m[j]!.stk t from h4)
  have huk : m[j]!.stk[k]!.uq = true := by
   have h : m[j]!.stk[(dC m[j]!.stk t).toNat]!.uq = true := hu rfl
   rwa [hkk, Int.toNat_natCast] at h
  have htw := sZ m j t k m.length hm rfl hj hkk h3 huk
  have hrl : (m[j]!.stk.take (k + 1)).length = k + 1 := by
   have hb := eW m[j]!.stk t
   rw [List.length_take]; omega
  have hol := eA (m := m) (j := j) (X := .own (0 + 1 + 2) 0 (k + 1) 2)
  have hls : (m.set j { m[j]! with alive := false }).length = m.length := List.length_set
  (refine aS Tryz.func188 rfl (by simp [Tryz.ntmps188]) ?_; rw [Tryz.ntmps188])
  repeat' (first|(apply aK;first|((apply oX (j := j));(case ha0 => rfl);(case hmc => exact s7 m j hm hj);(case hM|hN => rfl))|((apply vL (m := m) (j := j) (t := t) (k := k) (n := m.length));(case ha0|ha1|ha2|hH0|hH1|hdd => rfl);(case hmc => exact htw);(case hM|hN => rfl))|(apply aW;rfl;rfl;rfl;rfl;rfl;(rw [aR]; simp only [List.length_append, List.length_cons, List.length_nil]; omega);exact Ik hj)|(apply aE;rfl;rfl)|(first|(apply aN;rfl;rfl;rfl;rfl)|(apply aV;rfl;rfl;(exact (rfl:_=[_, _]));rfl;rfl;rfl))|(apply aD;rfl;rfl;rfl)|(apply aU;rfl;rfl;rfl;rfl)|(apply aC;rfl;rfl)|(apply cM;rfl;rfl;(assumption);rfl)|(apply aF;kernel_rfl)|(apply bH;rfl;rfl;rfl;rfl))|(apply aL;first|apply aH|apply aB|(apply bZ;rfl;(rfl))|apply aQ)|with_reducible apply aA)
  refine cE (Le.cls (o := 2) (q := 3) (j := j) (k := k + 1) (m := m.set j { m[j]! with alive := false }) (r := m[j]!.stk.take (k + 1)) rfl rfl hrl.symm (by rw [hls]; exact hj) (by decide)) ?_
  refine cE (Le.frzD (d := 4) (i := 2) rfl rfl) ?_
  rw [lS hj, set_set]
  refine aO (l := [.imm m.length (aI cZ (m.set j { m[j]! with alive := false, stk := m[j]!.stk.take (k + 1) })), iv 0]) rfl ?_
  have eM : hZ m ⟨j, t⟩ = m.set j { m[j]! with alive := false, stk := m[j]!.stk.take (k + 1) } := by
   unfold hZ iZ;rw [if_pos hk]; dsimp only
   rw [Int.toNat_natCast, hkk, Int.toNat_natCast]; unfold fP;rw [if_pos rfl]
  rw [eM, hk, fO (by rw [List.length_set])]
  exact ⟨rfl, by (exact Pur.pf)⟩
 ·(refine aS Tryz.func188 rfl (by simp [Tryz.ntmps188]) ?_; rw [Tryz.ntmps188])
  repeat' (first|(apply aK;first|(apply iN;rfl;exact kS m hm;rfl;rfl)|((apply mS (m := m) (x := x) (wr := true) (n := m.length));(case ha0|ha1|ha2|hH0 => rfl);(case hmc => exact pA m x true _ hm rfl hk);(case hM|hN => rfl))|(apply aE;rfl;rfl)|(apply aV;rfl;rfl;(exact (rfl:_=[_, _]));rfl;rfl;rfl)|(apply aU;rfl;rfl;rfl;rfl)|(apply aC;rfl;rfl)|(apply aF;kernel_rfl)|(apply bH;rfl;rfl;rfl;rfl))|(apply aL;first|apply aH|apply aB|(apply aP;rfl;all_goals intro hc;have hq:=hc;(try simp only [cH] at hq);try exfalso;omega)|apply aT|apply aQ)|with_reducible apply aA)
  (refine cE (Le.frzD (d := 4) (i := 2) rfl rfl) ?_; refine aO rfl ?_)
  refine ⟨?_, by (exact Pur.pf)⟩
  simp only [bW]
  unfold hZ;rw [if_neg hk]
theorem xW (m : List Cl) (hm : OkM m) (x : Pt) (v : Int) : PC Tryz.prog 135 [sl cZ m, nB x, iv v] (fun r => r = .tup [sl cZ (nQ m x v), iv (o5 m x v)]) := by
 have hml := hm.l
 by_cases hv : 0 ≤ v ∧ v ≤ 9
 case neg =>
  have hwk : o5 m x v = 4 := by unfold o5;rw [if_neg hv]
  have e : nQ m x v = m := by unfold nQ;rw [if_neg (by rw [hwk]; decide)]
  (refine aS Tryz.func135 rfl (by simp [Tryz.ntmps135]) ?_; rw [Tryz.ntmps135])
  repeat' (first|(apply aK;first|(apply iN;rfl;exact kS m hm;rfl;rfl)|(apply aE;rfl;rfl)|(apply aC;rfl;rfl)|((with_reducible apply aJ (k := 84));(case ha => rfl);(case h => (apply eF <;> (fail)));(case hp => (rfl));(case hN => rfl))|(apply aF;kernel_rfl)|(apply cF;rfl;rfl)|(apply bH;rfl;rfl;rfl;rfl))|(apply aL;first|apply aH|apply aB|(apply aP;rfl;all_goals intro hc;have hq:=hc;(try simp only [cH] at hq);try exfalso;omega)|apply aQ)|with_reducible apply aA|with_reducible apply bE)
  all_goals (try (exfalso;omega))
  all_goals (
   (refine cE (Le.frzD (d := 6) (i := 2) rfl rfl) ?_; refine aO rfl ?_)
   refine ⟨?_, by (exact Pur.pf)⟩
   simp only [bW]
   rw [e, hwk])
 case pos =>
 have hwk : o5 m x v = cL m x true := by unfold o5;rw [if_pos hv]
 by_cases hk : cL m x true = 0
 ·obtain ⟨c, t⟩ := x
  obtain ⟨h1, h2, h3, h4, hu⟩ := eL hk
  obtain ⟨j, rfl⟩ := Int.eq_ofNat_of_zero_le (show 0 ≤ c from h1)
  have hj : j < m.length := by have : (j : Int) < m.length := h2;omega
  obtain ⟨k, hkk⟩ := Int.eq_ofNat_of_zero_le (show 0 ≤ dC m[j]!.stk t from h4)
  have huk : m[j]!.stk[k]!.uq = true := by
   have h : m[j]!.stk[(dC m[j]!.stk t).toNat]!.uq = true := hu rfl
   rwa [hkk, Int.toNat_natCast] at h
  have htw := sZ m j t k m.length hm rfl hj hkk h3 huk
  have hrl : (m[j]!.stk.take (k + 1)).length = k + 1 := by
   have hb := eW m[j]!.stk t
   rw [List.length_take]; omega
  have hol := eA (m := m) (j := j) (X := .own (0 + 1 + 2) 0 (k + 1) 2)
  have hls : (m.set j { m[j]! with val := v }).length = m.length := List.length_set
  (refine aS Tryz.func135 rfl (by simp [Tryz.ntmps135]) ?_; rw [Tryz.ntmps135])
  repeat' (first|(apply aK;first|((apply oX (j := j));(case ha0 => rfl);(case hmc => exact s7 m j hm hj);(case hM|hN => rfl))|((apply vL (m := m) (j := j) (t := t) (k := k) (n := m.length));(case ha0|ha1|ha2|hH0|hH1|hdd => rfl);(case hmc => exact htw);(case hM|hN => rfl))|(apply aW;rfl;rfl;rfl;rfl;rfl;(rw [aR]; simp only [List.length_append, List.length_cons, List.length_nil]; omega);exact Hy hj)|(apply aE;rfl;rfl)|(first|(apply aN;rfl;rfl;rfl;rfl)|(apply aV;rfl;rfl;(exact (rfl:_=[_, _]));rfl;rfl;rfl))|(apply aD;rfl;rfl;rfl)|(apply aU;rfl;rfl;rfl;rfl)|(apply aC;rfl;rfl)|(apply cM;rfl;rfl;(assumption);rfl)|((with_reducible apply aJ (k := 84));(case ha => rfl);(case h => (apply eF <;> (fail)));(case hp => (rfl));(case hN => rfl))|(apply aF;kernel_rfl)|(apply cF;rfl;rfl)|(apply bH;rfl;rfl;rfl;rfl))|(apply aL;first|apply aH|apply aB|(apply bZ;rfl;(rfl))|(apply aP;rfl;all_goals intro hc;have hq:=hc;(try simp only [cH] at hq);try exfalso;omega)|apply aT|apply aQ)|with_reducible apply aA)
  refine cE (Le.cls (o := 2) (q := 3) (j := j) (k := k + 1) (m := m.set j { m[j]! with val := v }) (r := m[j]!.stk.take (k + 1)) rfl rfl hrl.symm (by rw [hls]; exact hj) (by decide)) ?_
  refine cE (Le.frzD (d := 6) (i := 2) rfl rfl) ?_
  rw [lS hj, set_set]
  refine aO (l := [.imm m.length (aI cZ (m.set j { m[j]! with val := v, stk := m[j]!.stk.take (k + 1) })), iv 0]) rfl ?_
  have eM : nQ m ⟨j, t⟩ v = m.set j { m[j]! with val := v, stk := m[j]!.stk.take (k + 1) } := by
   unfold nQ iZ;rw [hwk, if_pos hk]; dsimp only
   rw [Int.toNat_natCast, hkk, Int.toNat_natCast]; unfold fP;rw [if_pos rfl]
  rw [eM, hwk, hk, fO (by rw [List.length_set])]
  exact ⟨rfl, by (exact Pur.pf)⟩
 ·(refine aS Tryz.func135 rfl (by simp [Tryz.ntmps135]) ?_; rw [Tryz.ntmps135])
  repeat' (first|(apply aK;first|(apply iN;rfl;exact kS m hm;rfl;rfl)|((apply mS (m := m) (x := x) (wr := true) (n := m.length));(case ha0|ha1|ha2|hH0 => rfl);(case hmc => exact pA m x true _ hm rfl hk);(case hM|hN => rfl))|(apply aE;rfl;rfl)|(apply aV;rfl;rfl;(exact (rfl:_=[_, _]));rfl;rfl;rfl)|(apply aU;rfl;rfl;rfl;rfl)|(apply aC;rfl;rfl)|((with_reducible apply aJ (k := 84));(case ha => rfl);(case h => (apply eF <;> (fail)));(case hp => (rfl));(case hN => rfl))|(apply aF;kernel_rfl)|(apply cF;rfl;rfl)|(apply bH;rfl;rfl;rfl;rfl))|(apply aL;first|apply aH|apply aB|(apply aP;rfl;all_goals intro hc;have hq:=hc;(try simp only [cH] at hq);try exfalso;omega)|apply aT|apply aQ)|with_reducible apply aA)
  (refine cE (Le.frzD (d := 6) (i := 2) rfl rfl) ?_; refine aO rfl ?_)
  refine ⟨?_, by (exact Pur.pf)⟩
  simp only [bW]
  unfold nQ;rw [hwk, if_neg hk]
theorem B3 (m : List Cl) (hm : OkM m) (v : Int) : PC Tryz.prog 185 [sl cZ m, iv v] (fun r => r = .tup [sl cZ (m ++ [nN v]), .agg [iv m.length, iv 0]]) := by
 have hml := hm.l
 (refine aS Tryz.func185 rfl (by simp [Tryz.ntmps185]) ?_; rw [Tryz.ntmps185])
 repeat' (first|(apply aK;first|(apply iN;rfl;exact kS m hm;rfl;rfl)|(apply aE;rfl;rfl)|(apply aC;rfl;rfl)|(first|(apply bQ;rfl;rfl;rfl)|(apply bY;rfl;rfl;rfl;rfl;rfl;(rw [aR]; omega);(rfl);omega;omega;(rfl);rfl;rfl))|(apply aF;kernel_rfl)|(apply cC;rfl;(first|exact (rfl:_=some [_, _])|exact (rfl:_=some [_, _, _, _]));(first|exact (rfl:_=[_, _])|exact (rfl:_=[_, _, _, _]));rfl)|(apply bD;rfl;rfl)|((apply bF (t := _));(case hze|hsm|hl => rfl);(case hfl => (first|exact (rfl:_=some [_, _])|exact (rfl:_=some [_, _, _, _])));(case hM|hN => rfl))|(apply aW;rfl;rfl;rfl;rfl;rfl;(case hl => (simp;done));(exact (rfl:_=[_, _]))))|(apply aL;first|apply aH|apply aB|apply aQ)|with_reducible apply aA)
 have e2 : AV.imm (m.length + 1) (((aI cZ m).drop 0).take (m.length * 4) ++ [iv v, bv true, iv 1, .imm 1 [iv 0, bv true]]) = sl cZ (m ++ [nN v]) := by
  have e : ((aI cZ m).drop 0).take (m.length * 4) ++ [iv v, bv true, iv 1, .imm 1 [iv 0, bv true]] = aI cZ (m ++ [nN v]) := gI rfl rfl
  rw [e]; exact fO (by rw [List.length_append]; rfl)
 refine cE (Le.frzD (d := 4) (i := 5) rfl rfl) ?_
 refine aO (l := [AV.imm (m.length + 1) (((aI cZ m).drop 0).take (m.length * 4) ++ [iv v, bv true, iv 1, .imm 1 [iv 0, bv true]]), .agg [iv m.length, iv 0]]) rfl ?_
 rw [e2]
 exact ⟨rfl, by (exact Pur.pf)⟩
theorem B9 (m : List Cl) (hm : OkM m) (v : Int) : PC Tryz.prog 130 [sl cZ m, iv v] (fun r => r = .tup (if 0 ≤ v ∧ v ≤ 9 ∧ m.length < 200 then [sl cZ (m ++ [nN v]), .agg [iv m.length, iv 0], bv true] else [sl cZ [], .agg [iv 0, iv 0], bv false])) := by
 have hml := hm.l
 have hcv := iJ m hm
 have hnc := B3 m hm v
 (refine aS Tryz.func130 rfl (by simp [Tryz.ntmps130]) ?_; rw [Tryz.ntmps130])
 repeat' (first|(apply aK;first|((with_reducible apply aJ (k := 184));(case ha => rfl);(case h => exact hcv);(case hp => (exact Pur.pf));(case hN => rfl))|((with_reducible apply aJ (k := 185));(case ha => rfl);(case h => exact hnc);(case hp => (exact Pur.pf));(case hN => rfl))|(apply aE;rfl;rfl)|(apply aV;rfl;rfl;(exact (rfl:_=[_, _]));rfl;rfl;rfl)|(first|(apply a6;rfl;rfl;rfl;(first|rfl|assumption))|(apply bB;rfl;rfl;rfl;(assumption))|(apply bR;(case hj|hb|hN => rfl);all_goals (intro hg;have hq := hg;(try simp only [cH] at hq);(try (exfalso;omega)))))|(apply aU;rfl;rfl;rfl;rfl)|(apply aC;rfl;rfl)|(first|(apply bU;rfl;(assumption);rfl;rfl)|(apply bG;rfl;(first|rfl|assumption);rfl;rfl))|((with_reducible apply aJ (k := 84));(case ha => rfl);(case h => (apply eF <;> (fail)));(case hp => (rfl));(case hN => rfl))|(apply bQ;rfl;rfl;rfl)|(apply aF;kernel_rfl)|(apply cC;rfl;(exact (rfl:_=some [_, _]));(exact (rfl:_=[_, _]));rfl)|(apply cF;rfl;rfl)|(apply bD;rfl;rfl)|(apply bC;rfl;rfl;rfl)|(apply aW;rfl;rfl;rfl;rfl;rfl;(case hl => (first|decide|(simp;done)));(exact (rfl:_=[_, _]))))|(apply aL;first|apply aH|apply aB|(apply b9;kernel_rfl)|(apply bZ;rfl;(rfl))|(apply aP;rfl;all_goals intro hc;have hq:=hc;(try simp only [cH] at hq);try exfalso;omega)|apply aT|apply aQ)|with_reducible apply aA|with_reducible apply bE)
 ·refine cE (Le.nilImm (d := 4) rfl) ?_
  exact aO (l := [sl cZ [], .agg [iv 0, iv 0], bv false]) rfl ⟨by rw [if_neg (by omega)]; rfl, rfl⟩
 ·exact aO (l := [sl cZ (m ++ [nN v]), .agg [iv m.length, iv 0], bv true]) rfl ⟨by rw [if_pos (by omega)]; rfl, by (exact Pur.pf)⟩
 ·refine cE (Le.nilImm (d := 4) rfl) ?_
  exact aO (l := [sl cZ [], .agg [iv 0, iv 0], bv false]) rfl ⟨by rw [if_neg (by omega)]; rfl, rfl⟩
theorem Dy {m : List Cl} {j : Nat} {t : Int} {r : List Tg} {n : Nat} {N : Nat} {Q : Exit → AS → Prop} {all : Array Oper} {rest : List Oper} {tsl : List (Nat × AV)} {hsl : List (Nat × Option (List AV))} {nidl : Nat} {z0 : Lo} {md : Md} {d : Nat} {ty : TypeId} {pos : String} {af : Array Edge} {tys : Array TypeId} {x0 x1 x2 : Operand} {i0 i1 : Nat} (ha0 : ev (lk tsl) x0 = some (.own i0 0 n 4)) (ha1 : ev (lk tsl) x1 = some (.agg [iv (j : Int), iv t])) (ha2 : ev (lk tsl) x2 = some (bv true)) (hH0 : cK hsl i0 = some (aI fR (eB m j (.own i1 0 m[j]!.stk.length 2)))) (hH1 : cK hsl i1 = some (aI dK m[j]!.stk)) (hdd : Go.AL.distinct [i0, i1] = true) (hmc : MC Tryz.prog 187 [.own 0 0 n 4, .agg [iv (j : Int), iv t], bv true] [(0, some (aI fR (eB m j (.own 1 0 m[j]!.stk.length 2)))), (1, some (aI dK m[j]!.stk))] 2 (fun _ : Unit => True) (fun _ => iv 0) (fun _ => [(0, some (aI fR (eB m j (.own 1 0 r.length 2)))), (1, some (aI dK r))])) (hM : Nat.ble (nidl + 0) eR = true) (hN : Nat.blt d N = true) {md' : Md} [hmd : MdA md (gL [x0, x1, x2] ++ [.inr i0, .inr i1]) (List.map Sum.inr (List.map Prod.fst ([(i0, some (aI fR (eB m j (.own i1 0 r.length 2)))), (i1, some (aI dK r))] : List (Nat × Option (List AV)))) ++ [.inl d]) md'] (kk : RW Tryz.prog N all Q md' rest ⟨(d, iv 0) :: tsl, iF hsl [(i0, some (aI fR (eB m j (.own i1 0 r.length 2)))), (i1, some (aI dK r))], nidl + 0, z0⟩) : RW Tryz.prog N all Q md (⟨some d, .call ⟨.value (.func 187), #[x0, x1, x2], tys⟩, ty, pos, af, none⟩ :: rest) ⟨tsl, hsl, nidl, z0⟩ := by
 refine cB [i0, i1] 2 [(i0, some (aI fR (eB m j (.own i1 0 r.length 2)))), (i1, some (aI dK r))] hmc (avs := [.own i0 0 n 4, .agg [iv (j : Int), iv t], bv true]) ?_ hdd ?_ rfl ?_ (by simpa using hM) ?_ ?_ ?_ hN (md' := md') (hmd := hmd) kk
 ·show evL (lk tsl) [x0, x1, x2] = _
  simp only [evL, ha0, ha1, ha2]
 ·exact ⟨⟨_, _, rfl, hH0, by (repeat' (exact kQ rfl))⟩, ⟨⟨_, _, rfl, hH1, by (repeat' (exact RnL.purI inferInstance))⟩, trivial⟩⟩
 ·(repeat' (first|exact RnL.purI inferInstance|exact RnV.own rfl|refine RnL.cons ?_ ?_))
 ·(repeat' (exact RnV.purI inferInstance))
 ·simp [dI]
 ·(repeat' (first|exact trivial|(refine And.intro ⟨0, _, rfl, rfl, ?_⟩ ?_)|(refine And.intro ⟨1, _, rfl, rfl, ?_⟩ ?_)|exact RnL.purI inferInstance|exact kQ rfl))
theorem GZ (m : List Cl) (j : Nat) (t : Int) (r : List Tg) (k n : Nat) (hm : OkM m) (hn : n = m.length) (hj : j < m.length) (hk : dC m[j]!.stk t = (k : Int)) (hal : m[j]!.alive = true) (hu : m[j]!.stk[k]!.uq = true) (hre : m[j]!.stk.take (k + 1) = r) (hrk : k + 1 = r.length) : MC Tryz.prog 187 [.own 0 0 n 4, .agg [iv (j : Int), iv t], bv true] [(0, some (aI fR (eB m j (.own 1 0 m[j]!.stk.length 2)))), (1, some (aI dK m[j]!.stk))] 2 (fun _ : Unit => True) (fun _ => iv 0) (fun _ => [(0, some (aI fR (eB m j (.own 1 0 r.length 2)))), (1, some (aI dK r))]) := by
 have h := sZ m j t k n hm hn hj hk hal hu
 rw [hre, hrk] at h
 exact h
theorem HH (m : List Cl) (hm : OkM m) (j k : Nat) (t : Int) (r : List Tg) (hj : j < m.length) (hkk : dC m[j]!.stk t = (k : Int)) (hk : cL m ⟨(j : Int), t⟩ false = 0) (hr : r = fP m[j]!.stk k false) : PC Tryz.prog 132 [sl cZ m, .agg [iv (j : Int), iv t], bv false] (fun z => z = .tup [sl cZ (j9 m m j false r), nB (j7 m j r), iv (j8 m j r)]) := by
 have hml := hm.l
 obtain ⟨h1, h2, h3, h4, hu⟩ := eL hk
 have hc := ((dX m).1 hm).2 j hj
 have hb := eW m[j]!.stk t
 have hrl : r.length ≤ 200 := by rw [hr]; exact Nat.le_trans tchS_sub.length_le hc.l.2
 have hnx := hc.n
 obtain ⟨_, e2, _⟩ := lU hk (r := r) (by rw [hr]; show _ = fP m[j]!.stk (dC m[j]!.stk t).toNat false;rw [hkk]; rfl)
 have e2' : j1 m ⟨(j : Int), t⟩ false = j9 m m j false r := e2
 have hok := hm.ln ⟨(j : Int), t⟩ false
 rw [e2'] at hok
 have hto := A6 m j t r k m.length hm rfl hj hkk h3 hr
 have hog := iI (m := m) (j := j) (X := .own (0 + 1 + 1 + 3 + 3) 0 r.length 2) hj
 have hol := eA (m := m) (j := j) (X := .own (0 + 1 + 1 + 3 + 3) 0 r.length 2)
 have hol2 := eA (m := m) (j := j) (X := .own (0 + 1 + 1 + 3 + 4 + 1) 0 (r.length + 1) 2)
 have hm2 : (m.set j { m[j]! with next := m[j]!.next + 1 }).length = m.length := List.length_set
 (refine aS Tryz.func132 rfl (by simp [Tryz.ntmps132]) ?_; rw [Tryz.ntmps132])
 repeat' (first|(apply aK;first|((apply oX (j := j));(case ha0 => rfl);(case hmc => exact s7 m j hm hj);(case hM|hN => rfl))|((apply wC (m := m) (j := j) (t := t) (r := r) (n := m.length));(case ha0|ha1|ha2|hH0|hH1|hdd => rfl);(case hmc => exact hto);(case hM|hN => rfl))|(with_reducible apply cS (d := 32))|(apply aE;rfl;rfl)|(first|(apply cV;(case hx|hH => rfl);(case hf|hg|hα => infer_instance);(case hk => omega);(case hc|hN => rfl))|(apply aN;rfl;rfl;rfl;rfl)|(apply aV;rfl;rfl;(exact (rfl:_=[_, _]));rfl;rfl;rfl))|(apply aD;rfl;rfl;rfl)|(apply aU;rfl;rfl;rfl;rfl)|(apply aC;rfl;rfl)|(apply cM;rfl;rfl;(assumption);rfl)|(apply aF;kernel_rfl)|(apply b8;rfl;rfl;rfl)|(apply bH;rfl;rfl;rfl;rfl)|(apply bD;rfl;rfl))|(apply aL;first|apply aH|apply aB|(apply cG;rfl;(rfl))|apply aT)|with_reducible apply aA)
 refine dV ?_
 rw [hog]
 dsimp only
 by_cases hf : nV m j r
 ·have eM : j9 m m j false r = m := by unfold j9; rw [if_pos hf]
  have eP : j7 m j r = ⟨0, 0⟩ := by unfold j7;rw [if_pos hf]
  have eK : j8 m j r = 4 := by unfold j8;rw [if_pos hf]
  rw [eM, eP, eK]
  unfold nV at hf
  repeat' (first|(apply aK;first|(apply iN;rfl;exact kS m hm;rfl;rfl)|(with_reducible apply cS (d := 44))|(apply aE;rfl;rfl)|(apply cV;(case hx|hH => rfl);(case hf|hg|hα => infer_instance);(case hk => omega);(case hc|hN => rfl))|(apply aD;rfl;rfl;rfl)|(first|(apply a6;rfl;rfl;rfl;(assumption))|(apply bB;rfl;rfl;rfl;(assumption))|(apply bR;(case hj|hb|hN => rfl);all_goals (intro hg;have hq := hg;(try simp only [cH] at hq);(try (exfalso;omega)))))|(apply aU;rfl;rfl;rfl;rfl)|(apply aC;rfl;rfl)|(first|(apply bU;rfl;(assumption);rfl;rfl)|(apply bG;rfl;(assumption);rfl;rfl))|(apply bQ;rfl;rfl;rfl)|(apply aF;kernel_rfl)|(apply cC;rfl;(exact (rfl:_=some [_, _]));(exact (rfl:_=[_, _]));rfl)|(apply b8;rfl;rfl;rfl)|(apply aW;rfl;rfl;rfl;rfl;rfl;(decide);(exact (rfl:_=[_, _]))))|(apply aL;first|apply aH|apply aB|(apply bZ;rfl;(rfl))|(apply aP;rfl;all_goals intro hc;have hq:=hc;(try simp only [cH] at hq);try exfalso;omega)|apply aT|apply aQ)|with_reducible apply aA|with_reducible apply bE)
  ·refine cE (Le.frzD (d := 6) (i := 10) rfl rfl) ?_
   exact aO (l := [sl cZ m, .agg [iv 0, iv 0], iv 4]) rfl ⟨rfl, by (exact Pur.pf)⟩
  ·exfalso
   have h : ¬ (eB m j (.own (0 + 1 + 1 + 3 + 3) 0 r.length 2))[j]!.next = 1000 := by assumption
   rw [hog] at h
   dsimp only at h
   omega
  ·refine cE (Le.frzD (d := 6) (i := 10) rfl rfl) ?_
   exact aO (l := [sl cZ m, .agg [iv 0, iv 0], iv 4]) rfl ⟨rfl, by (exact Pur.pf)⟩
 ·have eM : j9 m m j false r = m.set j (psh { m[j]! with stk := r } false) := by unfold j9; rw [if_neg hf]
  have eP : j7 m j r = ⟨j, m[j]!.next⟩ := by unfold j7;rw [if_neg hf]
  have eK : j8 m j r = 0 := by unfold j8;rw [if_neg hf]
  rw [eM] at hok
  rw [eM, eP, eK]
  unfold nV at hf
  have hown := kS _ hok
  repeat' (first|(apply aK;first|(with_reducible apply cS (d := 41))|(with_reducible apply cS (d := 54))|(apply aE;rfl;rfl)|(apply cV;(case hx|hH => rfl);(case hf|hg|hα => infer_instance);(case hk => omega);(case hc|hN => rfl))|(apply aD;rfl;rfl;rfl)|(first|(apply a6;rfl;rfl;rfl;(assumption))|(apply bR;(case hj|hb|hN => rfl);all_goals (intro hg;have hq := hg;(try simp only [cH] at hq);(try (exfalso;omega)))))|(apply aU;rfl;rfl;rfl;rfl)|(apply aC;rfl;rfl)|(apply bG;rfl;(assumption);rfl;rfl)|(apply bQ;rfl;rfl;rfl)|(apply aF;kernel_rfl)|(apply b8;rfl;rfl;rfl))|(apply aL;first|apply aH|apply aB|(apply aP;rfl;all_goals intro hc;have hq:=hc;(try simp only [cH] at hq);try exfalso;omega)|apply aT)|with_reducible apply aA)
  ·exfalso
   have h : (eB m j (.own (0 + 1 + 1 + 3 + 3) 0 r.length 2))[j]!.next = 1000 := by assumption
   rw [hog] at h
   dsimp only at h
   omega
  ·refine dV ?_
   rw [hog]
   dsimp only
   repeat' (first|(apply aK;first|(apply aW;rfl;rfl;rfl;rfl;rfl;(rw [aR, eA]; simp only [List.length_append, List.length_cons, List.length_nil]; omega);(first|exact tB hj|exact yL hj))|(apply aE;rfl;rfl)|(apply aD;rfl;rfl;rfl)|(apply bS;rfl;rfl;omega;rfl)|(apply bY;rfl;rfl;rfl;rfl;rfl;(rw [aR]; omega);(rfl);omega;omega;(exact uK (by (omega)));rfl;rfl)|(apply aF;kernel_rfl)|(apply cC;rfl;(exact (rfl:_=some [_, _]));(exact (rfl:_=[_, _]));rfl)|(apply b8;rfl;rfl;rfl)|((apply bF (t := _));(case hze|hsm|hl => rfl);(case hfl => (exact (rfl:_=some [_, _])));(case hM|hN => rfl)))|(apply aL;(apply aH))|with_reducible apply aA)
   refine AW.le ?_ (Le.cls (o := 3) (q := 0 + 1 + 1 + 3 + 4 + 1) (j := j) (k := r.length + 1) (m := m.set j { m[j]! with next := m[j]!.next + 1 }) (r := r ++ [⟨m[j]!.next, false⟩]) rfl rfl (by (rw [List.length_append]; rfl)) (by omega) (by decide))
   refine AW.le ?_ (Le.frzD (d := 9) (i := 3) rfl rfl)
   have e : (m.set j { m[j]! with next := m[j]!.next + 1 }).set j { (m.set j { m[j]! with next := m[j]!.next + 1 })[j]! with stk := r ++ [⟨m[j]!.next, false⟩] } = m.set j (psh { m[j]! with stk := r } false) := by
    rw [lS hj, set_set]; rfl
   rw [e, fO (f := cZ) (xs := m.set j (psh { m[j]! with stk := r } false)) (by rw [List.length_set])]
   repeat' (first|(apply aK;first|(apply iN;rfl;exact hown;rfl;rfl)|(apply aE;rfl;rfl)|(apply aN;rfl;rfl;rfl;rfl)|(apply aD;rfl;rfl;rfl)|(apply aC;rfl;rfl)|(apply aF;kernel_rfl)|(apply cC;rfl;(exact (rfl:_=some [_, _]));(exact (rfl:_=[_, _]));rfl)|(apply aW;rfl;rfl;rfl;rfl;rfl;(case hl => (simp;done));(exact (rfl:_=[_, _]))))|(apply aL;first|(apply b9;kernel_rfl)|apply aQ)|with_reducible apply aA)
   refine cE (Le.frzD (d := 6) (i := 12) rfl rfl) ?_
   exact aO (l := [sl cZ (m.set j (psh { m[j]! with stk := r } false)), .agg [iv (j : Int), iv m[j]!.next], iv 0]) rfl ⟨rfl, by (exact Pur.pf)⟩
  all_goals (exfalso;omega)
theorem Iy (m : List Cl) (hm : OkM m) (j k : Nat) (t : Int) (r : List Tg) (hj : j < m.length) (hkk : dC m[j]!.stk t = (k : Int)) (hk : cL m ⟨(j : Int), t⟩ true = 0) (hr : r = fP m[j]!.stk k true) : PC Tryz.prog 132 [sl cZ m, .agg [iv (j : Int), iv t], bv true] (fun z => z = .tup [sl cZ (j9 m m j true r), nB (j7 m j r), iv (j8 m j r)]) := by
 have hml := hm.l
 obtain ⟨h1, h2, h3, h4, hu⟩ := eL hk
 have hc := ((dX m).1 hm).2 j hj
 have hb := eW m[j]!.stk t
 have hrl : r.length ≤ 200 := by rw [hr]; exact Nat.le_trans tchS_sub.length_le hc.l.2
 have hnx := hc.n
 obtain ⟨_, e2, _⟩ := lU hk (r := r) (by rw [hr]; show _ = fP m[j]!.stk (dC m[j]!.stk t).toNat true;rw [hkk]; rfl)
 have e2' : j1 m ⟨(j : Int), t⟩ true = j9 m m j true r := e2
 have hok := hm.ln ⟨(j : Int), t⟩ true
 rw [e2'] at hok
 have huk : m[j]!.stk[k]!.uq = true := by
  have h : m[j]!.stk[(dC m[j]!.stk t).toNat]!.uq = true := hu rfl
  rwa [hkk, Int.toNat_natCast] at h
 have hre : m[j]!.stk.take (k + 1) = r := by rw [hr]; unfold fP;rw [if_pos rfl]
 have hrk : k + 1 = r.length := by rw [← hre, List.length_take]; omega
 have hto := GZ m j t r k m.length hm rfl hj hkk h3 huk hre hrk
 clear hre hrk huk hu hr hkk
 have hog := iI (m := m) (j := j) (X := .own (0 + 1 + 1 + 2) 0 r.length 2) hj
 have hol := eA (m := m) (j := j) (X := .own (0 + 1 + 1 + 2) 0 r.length 2)
 have hol2 := eA (m := m) (j := j) (X := .own (0 + 1 + 1 + 3 + 0 + 1) 0 (r.length + 1) 2)
 have hm2 : (m.set j { m[j]! with next := m[j]!.next + 1 }).length = m.length := List.length_set
 (refine aS Tryz.func132 rfl (by simp [Tryz.ntmps132]) ?_; rw [Tryz.ntmps132])
 repeat' (first|(apply aK;first|((apply oX (j := j));(case ha0 => rfl);(case hmc => exact s7 m j hm hj);(case hM|hN => rfl))|((apply Dy (m := m) (j := j) (t := t) (r := r) (n := m.length));(case ha0|ha1|ha2|hH0|hH1|hdd => rfl);(case hmc => exact hto);(case hM|hN => rfl))|(with_reducible apply cS (d := 32))|(apply aE;rfl;rfl)|(first|(apply cV;(case hx|hH => rfl);(case hf|hg|hα => infer_instance);(case hk => omega);(case hc|hN => rfl))|(apply aN;rfl;rfl;rfl;rfl)|(apply aV;rfl;rfl;(exact (rfl:_=[_, _]));rfl;rfl;rfl))|(apply aD;rfl;rfl;rfl)|(apply aU;rfl;rfl;rfl;rfl)|(apply aC;rfl;rfl)|(apply cM;rfl;rfl;(assumption);rfl)|(apply aF;kernel_rfl)|(apply b8;rfl;rfl;rfl)|(apply bH;rfl;rfl;rfl;rfl)|(apply bD;rfl;rfl))|(apply aL;first|apply aH|apply aB|(apply cG;rfl;(rfl))|apply aT)|with_reducible apply aA)
 refine dV ?_
 rw [hog]
 dsimp only
 by_cases hf : nV m j r
 ·have eM : j9 m m j true r = m := by unfold j9; rw [if_pos hf]
  have eP : j7 m j r = ⟨0, 0⟩ := by unfold j7;rw [if_pos hf]
  have eK : j8 m j r = 4 := by unfold j8;rw [if_pos hf]
  rw [eM, eP, eK]
  unfold nV at hf
  repeat' (first|(apply aK;first|(apply iN;rfl;exact kS m hm;rfl;rfl)|(with_reducible apply cS (d := 44))|(apply aE;rfl;rfl)|(apply cV;(case hx|hH => rfl);(case hf|hg|hα => infer_instance);(case hk => omega);(case hc|hN => rfl))|(apply aD;rfl;rfl;rfl)|(first|(apply a6;rfl;rfl;rfl;(assumption))|(apply bB;rfl;rfl;rfl;(assumption))|(apply bR;(case hj|hb|hN => rfl);all_goals (intro hg;have hq := hg;(try simp only [cH] at hq);(try (exfalso;omega)))))|(apply aU;rfl;rfl;rfl;rfl)|(apply aC;rfl;rfl)|(first|(apply bU;rfl;(assumption);rfl;rfl)|(apply bG;rfl;(assumption);rfl;rfl))|(apply bQ;rfl;rfl;rfl)|(apply aF;kernel_rfl)|(apply cC;rfl;(exact (rfl:_=some [_, _]));(exact (rfl:_=[_, _]));rfl)|(apply b8;rfl;rfl;rfl)|(apply aW;rfl;rfl;rfl;rfl;rfl;(decide);(exact (rfl:_=[_, _]))))|(apply aL;first|apply aH|apply aB|(apply bZ;rfl;(rfl))|(apply aP;rfl;all_goals intro hc;have hq:=hc;(try simp only [cH] at hq);try exfalso;omega)|apply aT|apply aQ)|with_reducible apply aA|with_reducible apply bE)
  ·refine cE (Le.frzD (d := 6) (i := 6) rfl rfl) ?_
   exact aO (l := [sl cZ m, .agg [iv 0, iv 0], iv 4]) rfl ⟨rfl, by (exact Pur.pf)⟩
  ·exfalso
   have h : ¬ (eB m j (.own (0 + 1 + 1 + 2) 0 r.length 2))[j]!.next = 1000 := by assumption
   rw [hog] at h
   dsimp only at h
   omega
  ·refine cE (Le.frzD (d := 6) (i := 6) rfl rfl) ?_
   exact aO (l := [sl cZ m, .agg [iv 0, iv 0], iv 4]) rfl ⟨rfl, by (exact Pur.pf)⟩
 ·have eM : j9 m m j true r = m.set j (psh { m[j]! with stk := r } true) := by unfold j9; rw [if_neg hf]
  have eP : j7 m j r = ⟨j, m[j]!.next⟩ := by unfold j7;rw [if_neg hf]
  have eK : j8 m j r = 0 := by unfold j8;rw [if_neg hf]
  rw [eM] at hok
  rw [eM, eP, eK]
  unfold nV at hf
  have hown := kS _ hok
  repeat' (first|(apply aK;first|(with_reducible apply cS (d := 41))|(with_reducible apply cS (d := 54))|(apply aE;rfl;rfl)|(apply cV;(case hx|hH => rfl);(case hf|hg|hα => infer_instance);(case hk => omega);(case hc|hN => rfl))|(apply aD;rfl;rfl;rfl)|(first|(apply a6;rfl;rfl;rfl;(assumption))|(apply bR;(case hj|hb|hN => rfl);all_goals (intro hg;have hq := hg;(try simp only [cH] at hq);(try (exfalso;omega)))))|(apply aU;rfl;rfl;rfl;rfl)|(apply aC;rfl;rfl)|(apply bG;rfl;(assumption);rfl;rfl)|(apply bQ;rfl;rfl;rfl)|(apply aF;kernel_rfl)|(apply b8;rfl;rfl;rfl))|(apply aL;first|apply aH|apply aB|(apply aP;rfl;all_goals intro hc;have hq:=hc;(try simp only [cH] at hq);try exfalso;omega)|apply aT)|with_reducible apply aA)
  ·exfalso
   have h : (eB m j (.own (0 + 1 + 1 + 2) 0 r.length 2))[j]!.next = 1000 := by assumption
   rw [hog] at h
   dsimp only at h
   omega
  ·refine dV ?_
   rw [hog]
   dsimp only
   repeat' (first|(apply aK;first|(apply aW;rfl;rfl;rfl;rfl;rfl;(rw [aR, eA]; simp only [List.length_append, List.length_cons, List.length_nil]; omega);(first|exact tB hj|exact yL hj))|(apply aE;rfl;rfl)|(apply aD;rfl;rfl;rfl)|(apply bS;rfl;rfl;omega;rfl)|(apply bY;rfl;rfl;rfl;rfl;rfl;(rw [aR]; omega);(rfl);omega;omega;(exact uK (by (omega)));rfl;rfl)|(apply aF;kernel_rfl)|(apply cC;rfl;(exact (rfl:_=some [_, _]));(exact (rfl:_=[_, _]));rfl)|(apply b8;rfl;rfl;rfl)|((apply bF (t := _));(case hze|hsm|hl => rfl);(case hfl => (exact (rfl:_=some [_, _])));(case hM|hN => rfl)))|(apply aL;(apply aH))|with_reducible apply aA)
   refine AW.le ?_ (Le.cls (o := 3) (q := 0 + 1 + 1 + 3 + 0 + 1) (j := j) (k := r.length + 1) (m := m.set j { m[j]! with next := m[j]!.next + 1 }) (r := r ++ [⟨m[j]!.next, true⟩]) rfl rfl (by (rw [List.length_append]; rfl)) (by omega) (by decide))
   refine AW.le ?_ (Le.frzD (d := 9) (i := 3) rfl rfl)
   have e : (m.set j { m[j]! with next := m[j]!.next + 1 }).set j { (m.set j { m[j]! with next := m[j]!.next + 1 })[j]! with stk := r ++ [⟨m[j]!.next, true⟩] } = m.set j (psh { m[j]! with stk := r } true) := by
    rw [lS hj, set_set]; rfl
   rw [e, fO (f := cZ) (xs := m.set j (psh { m[j]! with stk := r } true)) (by rw [List.length_set])]
   repeat' (first|(apply aK;first|(apply iN;rfl;exact hown;rfl;rfl)|(apply aE;rfl;rfl)|(apply aN;rfl;rfl;rfl;rfl)|(apply aD;rfl;rfl;rfl)|(apply aC;rfl;rfl)|(apply aF;kernel_rfl)|(apply cC;rfl;(exact (rfl:_=some [_, _]));(exact (rfl:_=[_, _]));rfl)|(apply aW;rfl;rfl;rfl;rfl;rfl;(case hl => (simp;done));(exact (rfl:_=[_, _]))))|(apply aL;first|(apply b9;kernel_rfl)|apply aQ)|with_reducible apply aA)
   refine cE (Le.frzD (d := 6) (i := 8) rfl rfl) ?_
   exact aO (l := [sl cZ (m.set j (psh { m[j]! with stk := r } true)), .agg [iv (j : Int), iv m[j]!.next], iv 0]) rfl ⟨rfl, by (exact Pur.pf)⟩
  all_goals (exfalso;omega)
theorem HS (m : List Cl) (hm : OkM m) (x : Pt) (u : Bool) : PC Tryz.prog 132 [sl cZ m, nB x, bv u] (fun r => r = .tup [sl cZ (j1 m x u), nB (oS m x u), iv (kU m x u)]) := by
 have hml := hm.l
 by_cases hk : cL m x u = 0
 ·obtain ⟨c, t⟩ := x
  obtain ⟨h1, h2, h3, h4, hu⟩ := eL hk
  obtain ⟨j, rfl⟩ := Int.eq_ofNat_of_zero_le (show 0 ≤ c from h1)
  have hj : j < m.length := by have : (j : Int) < m.length := h2;omega
  obtain ⟨k, hkk⟩ := Int.eq_ofNat_of_zero_le (show 0 ≤ dC m[j]!.stk t from h4)
  obtain ⟨r, hr⟩ : ∃ r, r = fP m[j]!.stk k u := ⟨_, rfl⟩
  obtain ⟨e1, e2, e3⟩ := lU hk (r := r) (by rw [hr]; show _ = fP m[j]!.stk (dC m[j]!.stk t).toNat u;rw [hkk]; rfl)
  rw [e1, e2, e3]
  cases u
  ·exact HH m hm j k t r hj hkk hk hr
  ·exact Iy m hm j k t r hj hkk hk hr
 ·obtain ⟨e1, e2, e3⟩ := GP hk
  rw [e1, e2, e3]
  (refine aS Tryz.func132 rfl (by simp [Tryz.ntmps132]) ?_; rw [Tryz.ntmps132])
  repeat' (first|(apply aK;first|(apply iN;rfl;exact kS m hm;rfl;rfl)|((apply mS (m := m) (x := x) (wr := u) (n := m.length));(case ha0|ha1|ha2|hH0 => rfl);(case hmc => exact pA m x u _ hm rfl hk);(case hM|hN => rfl))|(apply aE;rfl;rfl)|(apply aV;rfl;rfl;(exact (rfl:_=[_, _]));rfl;rfl;rfl)|(apply aU;rfl;rfl;rfl;rfl)|(apply aC;rfl;rfl)|(apply aF;kernel_rfl)|(apply cC;rfl;(exact (rfl:_=some [_, _]));(exact (rfl:_=[_, _]));rfl)|(apply bH;rfl;rfl;rfl;rfl)|(apply bD;rfl;rfl)|(apply aW;rfl;rfl;rfl;rfl;rfl;(decide);(exact (rfl:_=[_, _]))))|(apply aL;first|apply aH|apply aB|(apply aP;rfl;all_goals intro hc;have hq:=hc;(try simp only [cH] at hq);try exfalso;omega)|apply aQ)|with_reducible apply aA|with_reducible apply bE)
  refine cE (Le.frzD (d := 6) (i := 3) rfl rfl) ?_
  exact aO (l := [sl cZ m, .agg [iv 0, iv 0], iv (cL m x u)]) rfl ⟨rfl, by (exact Pur.pf)⟩
abbrev mO (ts : List Int) (bd : List AL.Stmt) (pts : List Pnt) (i1 i2 : Nat) (s : Mc) : List AV := [aG ts bd pts, .own i1 0 ts.length 4, sl cZ s.cells, .own i2 0 s.read.length 1]
theorem Ar {ts : List Int} {bd : List AL.Stmt} {pts : List Pnt} {s : Mc} {v : Nat} {N : Nat} {Q : Exit → AS → Prop} {all : Array Oper} {rest : List Oper} {tsl : List (Nat × AV)} {hsl : List (Nat × Option (List AV))} {nidl : Nat} {z0 : Lo} {md : Md} {d : Nat} {ty : TypeId} {pos : String} {af : Array Edge} {tys : Array TypeId} {x0 x1 : Operand} {i0 i1 i2 : Nat} (ha0 : ev (lk tsl) x0 = some (.optr i0 0)) (ha1 : ev (lk tsl) x1 = some (iv (v : Int))) (hH0 : cK hsl i0 = some (mO ts bd pts i1 i2 s)) (hH1 : cK hsl i1 = some (aI eD s.slots)) (hH2 : cK hsl i2 = some (aI cI s.read)) (hdd : Go.AL.distinct [i0, i1, i2] = true) (hmc : MC Tryz.prog 136 [.optr 0 0, iv (v : Int)] [(0, some (mO ts bd pts 1 2 s)), (1, some (aI eD s.slots)), (2, some (aI cI s.read))] 3 (fun _ : Unit => True) (fun _ => iv (kK (cL s.cells s.slots[v]!.ptr true))) (fun _ => [(0, some ([aG ts bd pts, .own 1 0 ts.length 4, sl cZ (hZ s.cells s.slots[v]!.ptr), .own 2 0 s.read.length 1])), (1, some (aI eD s.slots)), (2, some (aI cI s.read))])) (hM : Nat.ble (nidl + 0) eR = true) (hN : Nat.blt d N = true) {md' : Md} [hmd : MdA md (gL [x0, x1] ++ [.inr i0, .inr i1, .inr i2]) (List.map Sum.inr (List.map Prod.fst ([(i0, some ([aG ts bd pts, .own i1 0 ts.length 4, sl cZ (hZ s.cells s.slots[v]!.ptr), .own i2 0 s.read.length 1])), (i1, some (aI eD s.slots)), (i2, some (aI cI s.read))] : List (Nat × Option (List AV)))) ++ [.inl d]) md'] (kk : RW Tryz.prog N all Q md' rest ⟨(d, iv (kK (cL s.cells s.slots[v]!.ptr true))) :: tsl, iF hsl [(i0, some ([aG ts bd pts, .own i1 0 ts.length 4, sl cZ (hZ s.cells s.slots[v]!.ptr), .own i2 0 s.read.length 1])), (i1, some (aI eD s.slots)), (i2, some (aI cI s.read))], nidl + 0, z0⟩) : RW Tryz.prog N all Q md (⟨some d, .call ⟨.value (.func 136), #[x0, x1], tys⟩, ty, pos, af, none⟩ :: rest) ⟨tsl, hsl, nidl, z0⟩ := by
 refine cB [i0, i1, i2] 3 [(i0, some ([aG ts bd pts, .own i1 0 ts.length 4, sl cZ (hZ s.cells s.slots[v]!.ptr), .own i2 0 s.read.length 1])), (i1, some (aI eD s.slots)), (i2, some (aI cI s.read))] hmc (avs := [.optr i0 0, iv (v : Int)]) ?_ hdd ?_ rfl ?_ (by simpa using hM) ?_ ?_ ?_ hN (md' := md') (hmd := hmd) kk
 ·show evL (lk tsl) [x0, x1] = _
  simp only [evL, ha0, ha1]
 ·exact ⟨⟨_, _, rfl, hH0, by (repeat' (first|exact RnL.purI inferInstance|exact RnV.purI inferInstance|exact RnV.own rfl|refine RnL.cons ?_ ?_))⟩, ⟨⟨_, _, rfl, hH1, by (repeat' (exact RnL.purI inferInstance))⟩, ⟨⟨_, _, rfl, hH2, by (repeat' (exact RnL.purI inferInstance))⟩, trivial⟩⟩⟩
 ·(repeat' (first|exact RnL.purI inferInstance|exact RnV.optr rfl|refine RnL.cons ?_ ?_))
 ·(repeat' (exact RnV.purI inferInstance))
 ·simp [dI]
 ·(repeat' (first|exact trivial|(refine And.intro ⟨0, _, rfl, rfl, ?_⟩ ?_)|(refine And.intro ⟨1, _, rfl, rfl, ?_⟩ ?_)|(refine And.intro ⟨2, _, rfl, rfl, ?_⟩ ?_)|exact RnL.purI inferInstance|exact RnV.purI inferInstance|exact RnV.own rfl|refine RnL.cons ?_ ?_))
theorem x6 (ts : List Int) (bd : List AL.Stmt) (pts : List Pnt) (s : Mc) (v : Nat) (hm : OkM s.cells) (hsl : s.slots.length = ts.length) (hv : v < ts.length) : MC Tryz.prog 136 [.optr 0 0, iv (v : Int)] [(0, some (mO ts bd pts 1 2 s)), (1, some (aI eD s.slots)), (2, some (aI cI s.read))] 3 (fun _ : Unit => True) (fun _ => iv (kK (cL s.cells s.slots[v]!.ptr true))) (fun _ => [(0, some ([aG ts bd pts, .own 1 0 ts.length 4, sl cZ (hZ s.cells s.slots[v]!.ptr), .own 2 0 s.read.length 1])), (1, some (aI eD s.slots)), (2, some (aI cI s.read))]) := by
 have hfc := AZ s.cells hm s.slots[v]!.ptr
 (refine bX Tryz.func136 rfl (by simp [Tryz.ntmps136]) ?_; rw [Tryz.ntmps136])
 repeat' (first|(apply aK;first|(apply jQ;(case hx|hH => rfl);(case hf|hg|hα => infer_instance);(case hk => omega);(case hj => decide);(case hc => exact (rfl:_=[_, _]));(case h0|hN => rfl))|((with_reducible apply aJ (k := 188));(case ha => rfl);(case h => exact hfc);(case hp => (exact Pur.pf));(case hN => rfl))|(apply aE;rfl;rfl)|(apply aN;rfl;rfl;rfl;rfl)|(apply aD;rfl;rfl;rfl)|(apply aU;rfl;rfl;rfl;rfl)|(apply aC;rfl;rfl)|(apply cM;rfl;rfl;(assumption);rfl)|((with_reducible apply aJ (k := 133));(case ha => rfl);(case h => (apply qU <;> (fail)));(case hp => (rfl));(case hN => rfl))|(apply aF;kernel_rfl)|(apply b8;rfl;rfl;rfl)|(apply bC;rfl;rfl;rfl)|(apply aW;rfl;rfl;rfl;rfl;rfl;(case hl => (simp;done));(exact (rfl:_=[_, _, _, _]))))|(apply aL;first|apply aH|apply aB|(apply b9;kernel_rfl)|(apply aP;rfl;all_goals intro hc;have hq:=hc;(try simp only [cH] at hq);try exfalso;omega)|apply aT|apply aQ)|with_reducible apply aA|with_reducible apply bE)
 ·have hk : ¬ cL s.cells s.slots[v]!.ptr true = 0 := by assumption
  (refine aO rfl ?_; refine bV () trivial ?_ ⟨.inr (Eq.trans (b := some _) rfl ?_), ⟨.inr (Eq.trans (b := some _) rfl ?_), ⟨.inr (Eq.trans (b := some _) rfl ?_), trivial⟩⟩⟩)
  ·show iv (e5 _) = iv (kK _)
   unfold kK;rw [if_neg hk]
  ·rfl
  ·rfl
  ·rfl
 ·have hk : cL s.cells s.slots[v]!.ptr true = 0 := by assumption
  (refine aO rfl ?_; refine bV () trivial ?_ ⟨.inr (Eq.trans (b := some _) rfl ?_), ⟨.inr (Eq.trans (b := some _) rfl ?_), ⟨.inr (Eq.trans (b := some _) rfl ?_), trivial⟩⟩⟩)
  ·rw [hk]; rfl
  ·rfl
  ·rfl
  ·rfl
theorem KQ (ts : List Int) (bd : List AL.Stmt) (pts : List Pnt) (s : Mc) (v : Nat) (y : Sl) (hm : OkM s.cells) (hsl : s.slots.length = ts.length) (hv : v < ts.length) : MC Tryz.prog 129 [.optr 0 0, iv (v : Int), GA y] [(0, some (mO ts bd pts 1 2 s)), (1, some (aI eD s.slots)), (2, some (aI cI s.read))] 3 (fun _ : Unit => True) (fun _ => iv (cY ts s v y).2) (fun _ => [(0, some (mO ts bd pts 1 2 (cY ts s v y).1)), (1, some (aI eD (cY ts s v y).1.slots)), (2, some (aI cI (cY ts s v y).1.read))]) := by
 have hfr := x6 ts bd pts s v hm hsl hv
 (refine bX Tryz.func129 rfl (by simp [Tryz.ntmps129]) ?_; rw [Tryz.ntmps129])
 repeat' (first|(apply aK;first|((apply Ar (ts := ts) (bd := bd) (pts := pts) (s := s) (v := v));(case ha0|ha1|hH0|hH1|hH2|hdd => rfl);(case hmc => exact hfr);(case hM|hN => rfl))|(apply aE;rfl;rfl)|(first|(apply cV;(case hx|hH => rfl);(case hf|hg|hα => infer_instance);(case hk => omega);(case hc|hN => rfl))|(apply aN;rfl;rfl;rfl;rfl)|(apply aV;rfl;rfl;(exact (rfl:_=[_, _, _, _]));rfl;rfl;rfl))|(apply aD;rfl;rfl;rfl)|(first|(apply a6;rfl;rfl;rfl;(assumption))|(apply bB;rfl;rfl;rfl;(assumption))|(apply bR;(case hj|hb|hN => rfl);all_goals (intro hg;have hq := hg;(try simp only [cH] at hq);(try (exfalso;omega)))))|(apply aU;rfl;rfl;rfl;rfl)|(apply aC;rfl;rfl)|(first|(apply bU;rfl;(assumption);rfl;rfl)|(apply bG;rfl;(assumption);rfl;rfl))|(first|(apply aZ;(case hx|hi => rfl);(case hm => (assumption));(case hml => (rfl));(case hα | hf|hg => infer_instance);(case hN => rfl))|(apply cM;rfl;rfl;(assumption);rfl))|(apply aF;kernel_rfl)|(apply b8;rfl;rfl;rfl)|(apply bH;rfl;rfl;rfl;rfl)|(apply aW;rfl;rfl;rfl;rfl;rfl;(rw [aR]; simp only [gA] <;> omega);(exact vT (by (omega)))))|(apply aL;first|apply aH|apply aB|(apply b9;kernel_rfl)|(apply cG;rfl;(rfl))|(apply aP;rfl;all_goals intro hc;have hq:=hc;(try simp only [cH] at hq);try exfalso;omega)|apply aT|apply aQ)|with_reducible apply aA)
 ·have hp : cY ts s v y = (⟨s.slots.set v y, hZ s.cells s.slots[v]!.ptr, s.read⟩, kK (cL s.cells s.slots[v]!.ptr true)) := if_pos ⟨by assumption, by assumption⟩
  rw [hp]
  (refine aO rfl ?_; refine bV () trivial ?_ ⟨.inr (Eq.trans (b := some _) rfl ?_), ⟨.inr (Eq.trans (b := some _) rfl ?_), ⟨.inr (Eq.trans (b := some _) rfl ?_), trivial⟩⟩⟩)
  ·rfl
  ·rfl
  ·rfl
  ·rfl
 all_goals (
  have hp : cY ts s v y = (⟨s.slots.set v y, s.cells, s.read⟩, -1) := if_neg (by
   rintro ⟨q1, q2⟩
   first|(exact (by assumption : ¬ ts[v]! = 2) q1)|(rw [(by assumption : s.slots[v]!.set = false)] at q2;exact absurd q2 (by decide)))
  rw [hp]
  (refine aO rfl ?_; refine bV () trivial ?_ ⟨.inr (Eq.trans (b := some _) rfl ?_), ⟨.inr (Eq.trans (b := some _) rfl ?_), ⟨.inr (Eq.trans (b := some _) rfl ?_), trivial⟩⟩⟩)
  ·rfl
  ·rfl
  ·rfl
  ·rfl)
theorem H7 {ts : List Int} {bd : List AL.Stmt} {pts : List Pnt} {s : Mc} {N : Nat} {Q : Exit → AS → Prop} {all : Array Oper} {rest : List Oper} {tsl : List (Nat × AV)} {hsl : List (Nat × Option (List AV))} {nidl : Nat} {z0 : Lo} {md : Md} {d : Nat} {ty : TypeId} {pos : String} {af : Array Edge} {tys : Array TypeId} {x0 : Operand} {i0 i1 i2 : Nat} (ha0 : ev (lk tsl) x0 = some (.optr i0 0)) (hH0 : cK hsl i0 = some (mO ts bd pts i1 i2 s)) (hH1 : cK hsl i1 = some (aI eD s.slots)) (hH2 : cK hsl i2 = some (aI cI s.read)) (hdd : Go.AL.distinct [i0, i1, i2] = true) (hmc : MC Tryz.prog 137 [.optr 0 0] [(0, some (mO ts bd pts 1 2 s)), (1, some (aI eD s.slots)), (2, some (aI cI s.read))] 3 (fun _ : Unit => True) (fun _ => iv (dO ts ts.length 0 s).2) (fun _ => [(0, some (mO ts bd pts 1 2 (dO ts ts.length 0 s).1)), (1, some (aI eD (dO ts ts.length 0 s).1.slots)), (2, some (aI cI (dO ts ts.length 0 s).1.read))])) (hM : Nat.ble (nidl + 0) eR = true) (hN : Nat.blt d N = true) {md' : Md} [hmd : MdA md (gL [x0] ++ [.inr i0, .inr i1, .inr i2]) (List.map Sum.inr (List.map Prod.fst ([(i0, some (mO ts bd pts i1 i2 (dO ts ts.length 0 s).1)), (i1, some (aI eD (dO ts ts.length 0 s).1.slots)), (i2, some (aI cI (dO ts ts.length 0 s).1.read))] : List (Nat × Option (List AV)))) ++ [.inl d]) md'] (kk : RW Tryz.prog N all Q md' rest ⟨(d, iv (dO ts ts.length 0 s).2) :: tsl, iF hsl [(i0, some (mO ts bd pts i1 i2 (dO ts ts.length 0 s).1)), (i1, some (aI eD (dO ts ts.length 0 s).1.slots)), (i2, some (aI cI (dO ts ts.length 0 s).1.read))], nidl + 0, z0⟩) : RW Tryz.prog N all Q md (⟨some d, .call ⟨.value (.func 137), #[x0], tys⟩, ty, pos, af, none⟩ :: rest) ⟨tsl, hsl, nidl, z0⟩ := by
 refine cB [i0, i1, i2] 3 [(i0, some (mO ts bd pts i1 i2 (dO ts ts.length 0 s).1)), (i1, some (aI eD (dO ts ts.length 0 s).1.slots)), (i2, some (aI cI (dO ts ts.length 0 s).1.read))] hmc (avs := [.optr i0 0]) ?_ hdd ?_ rfl ?_ (by simpa using hM) ?_ ?_ ?_ hN (md' := md') (hmd := hmd) kk
 ·show evL (lk tsl) [x0] = _
  simp only [evL, ha0]
 ·exact ⟨⟨_, _, rfl, hH0, by (repeat' (first|exact RnL.purI inferInstance|exact RnV.purI inferInstance|exact RnV.own rfl|refine RnL.cons ?_ ?_))⟩, ⟨⟨_, _, rfl, hH1, by (repeat' (exact RnL.purI inferInstance))⟩, ⟨⟨_, _, rfl, hH2, by (repeat' (exact RnL.purI inferInstance))⟩, trivial⟩⟩⟩
 ·(repeat' (first|exact RnL.purI inferInstance|exact RnV.optr rfl|refine RnL.cons ?_ ?_))
 ·(repeat' (exact RnV.purI inferInstance))
 ·simp [dI]
 ·(repeat' (first|exact trivial|(refine And.intro ⟨0, _, rfl, rfl, ?_⟩ ?_)|(refine And.intro ⟨1, _, rfl, rfl, ?_⟩ ?_)|(refine And.intro ⟨2, _, rfl, rfl, ?_⟩ ?_)|exact RnL.purI inferInstance|exact RnV.purI inferInstance|exact RnV.own rfl|refine RnL.cons ?_ ?_))
theorem KM (ts : List Int) (bd : List AL.Stmt) (pts : List Pnt) (s : Mc) (hm : OkM s.cells) (hsl : s.slots.length = ts.length) (hl : ts.length ≤ 1000000) : MC Tryz.prog 137 [.optr 0 0] [(0, some (mO ts bd pts 1 2 s)), (1, some (aI eD s.slots)), (2, some (aI cI s.read))] 3 (fun _ : Unit => True) (fun _ => iv (dO ts ts.length 0 s).2) (fun _ => [(0, some (mO ts bd pts 1 2 (dO ts ts.length 0 s).1)), (1, some (aI eD (dO ts ts.length 0 s).1.slots)), (2, some (aI cI (dO ts ts.length 0 s).1.read))]) := by
 (refine bX Tryz.func137 rfl (by simp [Tryz.ntmps137]) ?_; rw [Tryz.ntmps137])
 repeat' (first|(apply aK;first|(apply aE;rfl;rfl)|(apply aN;rfl;rfl;rfl;rfl)|(apply aD;rfl;rfl;rfl)|(apply aC;rfl;rfl)|(apply bQ;rfl;rfl;rfl)|(apply aF;kernel_rfl)|(apply b8;rfl;rfl;rfl))|(apply aL;first|apply aH|apply aB|apply aM)|with_reducible apply aA)
 refine a8 (σ := Nat × Mc) [0, 13, 14] [(0, _), (13, _), (14, _)] [] [] (fun k => [(15, iv (k.1 : Int))]) (fun k => [(0, some (mO ts bd pts 1 2 k.2)), (1, some (aI eD k.2.slots)), (2, some (aI cI k.2.read))]) (fun k => k.1 ≤ ts.length ∧ dO ts (ts.length - k.1) k.1 k.2 = dO ts ts.length 0 s ∧ OkM k.2.cells ∧ k.2.slots.length = ts.length) (fun k => ts.length - k.1) (0, s) ⟨Nat.zero_le _, rfl, hm, hsl⟩ rfl rfl (by repeat' (first|exact trivial|refine And.intro rfl ?_)) (by repeat' (first|exact trivial|refine And.intro (.inr rfl) ?_)) ?_
 rintro ⟨v, q⟩ ⟨hv, hf, hmq, hlq⟩
 dsimp only at hv hf hmq hlq ⊢
 by_cases hvn : v < ts.length
 ·have hfr := x6 ts bd pts q v hmq hlq hvn
  repeat' (first|(apply aK;first|((apply Ar (ts := ts) (bd := bd) (pts := pts) (s := q) (v := v));(case ha0|ha1|hH0|hH1|hH2|hdd => rfl);(case hmc => exact hfr);(case hM|hN => rfl))|(apply aE;rfl;rfl)|(first|(apply cV;(case hx|hH => rfl);(case hf|hg|hα => infer_instance);(case hk => omega);(case hc|hN => rfl))|(apply aN;rfl;rfl;rfl;rfl))|(apply aD;rfl;rfl;rfl)|(first|(apply a6;rfl;rfl;rfl;(assumption))|(apply bB;rfl;rfl;rfl;(assumption))|(apply bR;(case hj|hb|hN => rfl);all_goals (intro hg;have hq := hg;(try simp only [cH] at hq);(try (exfalso;omega)))))|(first|(apply bS;rfl;rfl;omega;rfl)|(apply aU;rfl;rfl;rfl;rfl))|(apply aC;rfl;rfl)|(first|(apply bU;rfl;(assumption);rfl;rfl)|(apply bG;rfl;(assumption);rfl;rfl))|(first|(apply aZ;(case hx|hi => rfl);(case hm => (assumption));(case hml => (rfl));(case hα | hf|hg => infer_instance);(case hN => rfl))|(apply cM;rfl;rfl;(assumption);rfl))|(apply aF;kernel_rfl)|(apply cC;rfl;(exact (rfl:_=some [_, _, _, _]));(exact (rfl:_=[_, _, _, _]));rfl)|(apply cF;rfl;rfl)|(apply b8;rfl;rfl;rfl)|(apply aW;rfl;rfl;rfl;rfl;rfl;(rw [aR]; simp only [gA] <;> omega);(exact vT (by (omega)))))|(apply aL;first|apply aH|apply aB|(apply bZ;rfl;(rfl))|(apply aP;rfl;all_goals intro hc;have hq:=hc;(try simp only [cH] at hq);try exfalso;omega)|apply aM|apply aT|apply bK|apply aQ)|with_reducible apply aA|with_reducible apply bE|with_reducible apply bI|with_reducible apply aX|with_reducible apply cO|with_reducible apply bJ)
  ·(apply dJ (v + 1, q); focus (refine Le.ren [] rfl (by decide) ?_ ?_ <;> repeat' (first | exact trivial | refine And.intro ⟨_, rfl, ?_⟩ ?_ | refine And.intro ⟨_, _, rfl, rfl, ?_⟩ ?_ | exact Or.inr rfl | refine Or.inl ⟨?_, (by first | rfl | exact aY _ _ | exact Pur.pf)⟩ | refine Or.inr (All2.cons ?_ ?_) | refine All2.cons ?_ ?_ | exact All2.nil | rfl)))
   ·refine ⟨by omega, ?_, hmq, hlq⟩
    dsimp only
    rw [← hf, show ts.length - v = (ts.length - (v + 1)) + 1 by omega, x4 (fun h => by
     have h2 : q.slots[v]!.set = false := by assumption
     rw [h2] at h;exact absurd h.2 (by decide))]
   ·dsimp only;omega
  ·have hk : ¬ cL q.cells q.slots[v]!.ptr true = 0 := fun h => by
    have h2 : ¬ kK (cL q.cells q.slots[v]!.ptr true) = -1 := by assumption
    rw [h] at h2;exact h2 rfl
   have hq2 : dO ts ts.length 0 s = (⟨q.slots, hZ q.cells q.slots[v]!.ptr, q.read⟩, e5 (cL q.cells q.slots[v]!.ptr true)) := by
    rw [← hf, show ts.length - v = (ts.length - (v + 1)) + 1 by omega, FY ⟨by assumption, by assumption⟩ hk]
   rw [hq2]
   (refine aO rfl ?_; refine bV () trivial ?_ ⟨.inr (Eq.trans (b := some _) rfl ?_), ⟨.inr (Eq.trans (b := some _) rfl ?_), ⟨.inr (Eq.trans (b := some _) rfl ?_), trivial⟩⟩⟩)
   ·show iv (kK _) = iv (e5 _)
    unfold kK;rw [if_neg hk]
   ·rfl
   ·rfl
   ·rfl
  ·have hk : cL q.cells q.slots[v]!.ptr true = 0 := by
    have h2 : kK (cL q.cells q.slots[v]!.ptr true) = -1 := by assumption
    unfold kK at h2
    by_cases h : cL q.cells q.slots[v]!.ptr true = 0
    ·exact h
    ·rw [if_neg h] at h2;unfold e5 at h2;split at h2 <;> cases h2
   have hls : (q.slots.set v gT).length = q.slots.length := List.length_set
   (apply dJ (v + 1, ⟨q.slots.set v gT, hZ q.cells q.slots[v]!.ptr, q.read⟩);focus (refine Le.ren [] rfl (by decide) ?_ ?_ <;> repeat' (first|exact trivial|refine And.intro ⟨_, rfl, ?_⟩ ?_|refine And.intro ⟨_, _, rfl, rfl, ?_⟩ ?_|exact Or.inr rfl|refine Or.inl ⟨?_, (by first|rfl|exact aY _ _|exact Pur.pf)⟩|refine Or.inr (All2.cons ?_ ?_)|refine All2.cons ?_ ?_|exact All2.nil|rfl)))
   ·refine ⟨by dsimp only; omega, ?_, hmq.fr _, by show (q.slots.set v gT).length = _; rw [List.length_set]; exact hlq⟩
    dsimp only
    rw [← hf, show ts.length - v = (ts.length - (v + 1)) + 1 by omega, GH ⟨by assumption, by assumption⟩ hk]
   ·dsimp only;omega
  ·(apply dJ (v + 1, q); focus (refine Le.ren [] rfl (by decide) ?_ ?_ <;> repeat' (first | exact trivial | refine And.intro ⟨_, rfl, ?_⟩ ?_ | refine And.intro ⟨_, _, rfl, rfl, ?_⟩ ?_ | exact Or.inr rfl | refine Or.inl ⟨?_, (by first | rfl | exact aY _ _ | exact Pur.pf)⟩ | refine Or.inr (All2.cons ?_ ?_) | refine All2.cons ?_ ?_ | exact All2.nil | rfl)))
   ·refine ⟨by omega, ?_, hmq, hlq⟩
    dsimp only
    rw [← hf, show ts.length - v = (ts.length - (v + 1)) + 1 by omega, x4 (fun h => by
     have h2 : ¬ ts[v]! = 2 := by assumption
     exact h2 h.1)]
   ·dsimp only;omega
 ·have hve : v = ts.length := by omega
  have hq2 : dO ts ts.length 0 s = (q, 0) := by rw [← hf, hve, Nat.sub_self]; rfl
  repeat' (first|(apply aK;first|(apply aU;rfl;rfl;rfl;rfl)|(apply aC;rfl;rfl)|(apply aF;kernel_rfl))|(apply aL;first|apply aH|apply aB|(apply aP;rfl;all_goals intro hc;have hq:=hc;(try simp only [cH] at hq);try exfalso;omega)|apply bK|apply aQ)|with_reducible apply aA|with_reducible apply bI|with_reducible apply bJ)
  rw [hq2]
  (refine aO rfl ?_; refine bV () trivial ?_ ⟨.inr (Eq.trans (b := some _) rfl ?_), ⟨.inr (Eq.trans (b := some _) rfl ?_), ⟨.inr (Eq.trans (b := some _) rfl ?_), trivial⟩⟩⟩)
  ·rfl
  ·rfl
  ·rfl
  ·rfl
def eV (ts : List Int) (s : Mc) (x : Pnt) : Mc × Int := if dG ts s x = true then (s, 2) else c7 ts s x
theorem vA {ts : List Int} {s : Mc} {x : Pnt} (h : dG ts s x = true) : eV ts s x = (s, 2) := if_pos h
theorem qR {ts : List Int} {s : Mc} {x : Pnt} (h : dG ts s x = false) : eV ts s x = c7 ts s x := if_neg (by rw [h]; decide)
theorem iM {ts : List Int} {x : Pnt} {v : Int} (h : v ∈ cR (wS ts x [1, 2, 3])) : 0 ≤ v ∧ v < ts.length := by
 obtain ⟨v', h3, h4, rfl⟩ := dY.1 h
 rw [dU, Bool.and_eq_true, decide_eq_true_eq] at h4
 omega
theorem dL {ts : List Int} {s : Mc} {x : Pnt} (htl : ts.length ≤ 6) : dG ts s x = true ↔ ∃ v ∈ cR (wS ts x [1, 2, 3]), s.slots[v.toNat]!.set = false := by
 constructor
 ·intro h
  obtain ⟨v, hv, hne, hs⟩ := r7 h
  refine ⟨(v : Int), dY.2 ⟨v, by omega, ?_, rfl⟩, hs⟩
  have hb := oK ts x v
  rw [dU, decide_eq_true hv, Bool.true_and, decide_eq_true_eq]
  simp only [List.mem_cons, List.not_mem_nil, or_false]; omega
 ·rintro ⟨v, hv, hs⟩
  obtain ⟨v', h3, h4, rfl⟩ := dY.1 hv
  rw [dU, Bool.and_eq_true, decide_eq_true_eq, decide_eq_true_eq] at h4
  unfold dG
  refine List.any_eq_true.2 ⟨v', List.mem_range.2 h4.1, ?_⟩
  rw [Bool.and_eq_true, decide_eq_true_eq]
  refine ⟨fun e => ?_, by rw [show s.slots[v']!.set = false from hs]; rfl⟩
  have h5 := h4.2
  simp only [List.mem_cons, List.not_mem_nil, or_false] at h5;omega
theorem J9 {ts : List Int} {bd : List AL.Stmt} {pts : List Pnt} {s : Mc} {x : Pnt} {N : Nat} {Q : Exit → AS → Prop} {all : Array Oper} {rest : List Oper} {tsl : List (Nat × AV)} {hsl : List (Nat × Option (List AV))} {nidl : Nat} {z0 : Lo} {md : Md} {d : Nat} {ty : TypeId} {pos : String} {af : Array Edge} {tys : Array TypeId} {x0 x1 : Operand} {i0 i1 i2 : Nat} (ha0 : ev (lk tsl) x0 = some (.optr i0 0)) (ha1 : ev (lk tsl) x1 = some (fK x)) (hH0 : cK hsl i0 = some (mO ts bd pts i1 i2 s)) (hH1 : cK hsl i1 = some (aI eD s.slots)) (hH2 : cK hsl i2 = some (aI cI s.read)) (hdd : Go.AL.distinct [i0, i1, i2] = true) (hmc : MC Tryz.prog 86 [.optr 0 0, fK x] [(0, some (mO ts bd pts 1 2 s)), (1, some (aI eD s.slots)), (2, some (aI cI s.read))] 3 (fun _ : Unit => True) (fun _ => iv (eV ts s x).2) (fun _ => [(0, some (mO ts bd pts 1 2 (eV ts s x).1)), (1, some (aI eD (eV ts s x).1.slots)), (2, some (aI cI (eV ts s x).1.read))])) (hM : Nat.ble (nidl + 0) eR = true) (hN : Nat.blt d N = true) {md' : Md} [hmd : MdA md (gL [x0, x1] ++ [.inr i0, .inr i1, .inr i2]) (List.map Sum.inr (List.map Prod.fst ([(i0, some (mO ts bd pts i1 i2 (eV ts s x).1)), (i1, some (aI eD (eV ts s x).1.slots)), (i2, some (aI cI (eV ts s x).1.read))] : List (Nat × Option (List AV)))) ++ [.inl d]) md'] (kk : RW Tryz.prog N all Q md' rest ⟨(d, iv (eV ts s x).2) :: tsl, iF hsl [(i0, some (mO ts bd pts i1 i2 (eV ts s x).1)), (i1, some (aI eD (eV ts s x).1.slots)), (i2, some (aI cI (eV ts s x).1.read))], nidl + 0, z0⟩) : RW Tryz.prog N all Q md (⟨some d, .call ⟨.value (.func 86), #[x0, x1], tys⟩, ty, pos, af, none⟩ :: rest) ⟨tsl, hsl, nidl, z0⟩ := by
 refine cB [i0, i1, i2] 3 [(i0, some (mO ts bd pts i1 i2 (eV ts s x).1)), (i1, some (aI eD (eV ts s x).1.slots)), (i2, some (aI cI (eV ts s x).1.read))] hmc (avs := [.optr i0 0, fK x]) ?_ hdd ?_ rfl ?_ (by simpa using hM) ?_ ?_ ?_ hN (md' := md') (hmd := hmd) kk
 ·show evL (lk tsl) [x0, x1] = _
  simp only [evL, ha0, ha1]
 ·exact ⟨⟨_, _, rfl, hH0, by (repeat' (first|exact RnL.purI inferInstance|exact RnV.purI inferInstance|exact RnV.own rfl|refine RnL.cons ?_ ?_))⟩, ⟨⟨_, _, rfl, hH1, by (repeat' (exact RnL.purI inferInstance))⟩, ⟨⟨_, _, rfl, hH2, by (repeat' (exact RnL.purI inferInstance))⟩, trivial⟩⟩⟩
 ·(repeat' (first|exact RnL.purI inferInstance|exact RnV.optr rfl|refine RnL.cons ?_ ?_))
 ·(repeat' (exact RnV.purI inferInstance))
 ·simp [dI]
 ·(repeat' (first|exact trivial|(refine And.intro ⟨0, _, rfl, rfl, ?_⟩ ?_)|(refine And.intro ⟨1, _, rfl, rfl, ?_⟩ ?_)|(refine And.intro ⟨2, _, rfl, rfl, ?_⟩ ?_)|exact RnL.purI inferInstance|exact RnV.purI inferInstance|exact RnV.own rfl|refine RnL.cons ?_ ?_))
theorem k9 {ts : List Int} {bd : List AL.Stmt} {pts : List Pnt} {s : Mc} {v : Int} {y : Sl} {N : Nat} {Q : Exit → AS → Prop} {all : Array Oper} {rest : List Oper} {tsl : List (Nat × AV)} {hsl : List (Nat × Option (List AV))} {nidl : Nat} {z0 : Lo} {md : Md} {d : Nat} {ty : TypeId} {pos : String} {af : Array Edge} {tys : Array TypeId} {x0 x1 x2 : Operand} {i0 i1 i2 : Nat} (ha0 : ev (lk tsl) x0 = some (.optr i0 0)) (ha1 : ev (lk tsl) x1 = some (iv v)) (ha2 : ev (lk tsl) x2 = some (GA y)) (hH0 : cK hsl i0 = some (mO ts bd pts i1 i2 s)) (hH1 : cK hsl i1 = some (aI eD s.slots)) (hH2 : cK hsl i2 = some (aI cI s.read)) (hdd : Go.AL.distinct [i0, i1, i2] = true) (hmc : MC Tryz.prog 129 [.optr 0 0, iv v, GA y] [(0, some (mO ts bd pts 1 2 s)), (1, some (aI eD s.slots)), (2, some (aI cI s.read))] 3 (fun _ : Unit => True) (fun _ => iv (cY ts s v.toNat y).2) (fun _ => [(0, some (mO ts bd pts 1 2 (cY ts s v.toNat y).1)), (1, some (aI eD (cY ts s v.toNat y).1.slots)), (2, some (aI cI (cY ts s v.toNat y).1.read))])) (hM : Nat.ble (nidl + 0) eR = true) (hN : Nat.blt d N = true) {md' : Md} [hmd : MdA md (gL [x0, x1, x2] ++ [.inr i0, .inr i1, .inr i2]) (List.map Sum.inr (List.map Prod.fst ([(i0, some (mO ts bd pts i1 i2 (cY ts s v.toNat y).1)), (i1, some (aI eD (cY ts s v.toNat y).1.slots)), (i2, some (aI cI (cY ts s v.toNat y).1.read))] : List (Nat × Option (List AV)))) ++ [.inl d]) md'] (kk : RW Tryz.prog N all Q md' rest ⟨(d, iv (cY ts s v.toNat y).2) :: tsl, iF hsl [(i0, some (mO ts bd pts i1 i2 (cY ts s v.toNat y).1)), (i1, some (aI eD (cY ts s v.toNat y).1.slots)), (i2, some (aI cI (cY ts s v.toNat y).1.read))], nidl + 0, z0⟩) : RW Tryz.prog N all Q md (⟨some d, .call ⟨.value (.func 129), #[x0, x1, x2], tys⟩, ty, pos, af, none⟩ :: rest) ⟨tsl, hsl, nidl, z0⟩ := by
 refine cB [i0, i1, i2] 3 [(i0, some (mO ts bd pts i1 i2 (cY ts s v.toNat y).1)), (i1, some (aI eD (cY ts s v.toNat y).1.slots)), (i2, some (aI cI (cY ts s v.toNat y).1.read))] hmc (avs := [.optr i0 0, iv v, GA y]) ?_ hdd ?_ rfl ?_ (by simpa using hM) ?_ ?_ ?_ hN (md' := md') (hmd := hmd) kk
 ·show evL (lk tsl) [x0, x1, x2] = _
  simp only [evL, ha0, ha1, ha2]
 ·exact ⟨⟨_, _, rfl, hH0, by (repeat' (first|exact RnL.purI inferInstance|exact RnV.purI inferInstance|exact RnV.own rfl|refine RnL.cons ?_ ?_))⟩, ⟨⟨_, _, rfl, hH1, by (repeat' (exact RnL.purI inferInstance))⟩, ⟨⟨_, _, rfl, hH2, by (repeat' (exact RnL.purI inferInstance))⟩, trivial⟩⟩⟩
 ·(repeat' (first|exact RnL.purI inferInstance|exact RnV.optr rfl|refine RnL.cons ?_ ?_))
 ·(repeat' (exact RnV.purI inferInstance))
 ·simp [dI]
 ·(repeat' (first|exact trivial|(refine And.intro ⟨0, _, rfl, rfl, ?_⟩ ?_)|(refine And.intro ⟨1, _, rfl, rfl, ?_⟩ ?_)|(refine And.intro ⟨2, _, rfl, rfl, ?_⟩ ?_)|exact RnL.purI inferInstance|exact RnV.purI inferInstance|exact RnV.own rfl|refine RnL.cons ?_ ?_))
theorem m8 (ts : List Int) (bd : List AL.Stmt) (pts : List Pnt) (s : Mc) (v : Int) (y : Sl) (hm : OkM s.cells) (hsl : s.slots.length = ts.length) (hv : 0 ≤ v ∧ v < ts.length) : MC Tryz.prog 129 [.optr 0 0, iv v, GA y] [(0, some (mO ts bd pts 1 2 s)), (1, some (aI eD s.slots)), (2, some (aI cI s.read))] 3 (fun _ : Unit => True) (fun _ => iv (cY ts s v.toNat y).2) (fun _ => [(0, some (mO ts bd pts 1 2 (cY ts s v.toNat y).1)), (1, some (aI eD (cY ts s v.toNat y).1.slots)), (2, some (aI cI (cY ts s v.toNat y).1.read))]) := by
 have h := KQ ts bd pts s v.toNat y hm hsl (by omega)
 rw [Int.toNat_of_nonneg hv.1] at h
 exact h
theorem DM {ts : List Int} {bd : List AL.Stmt} {pts : List Pnt} {s : Mc} {v : Int} {N : Nat} {Q : Exit → AS → Prop} {all : Array Oper} {rest : List Oper} {tsl : List (Nat × AV)} {hsl : List (Nat × Option (List AV))} {nidl : Nat} {z0 : Lo} {md : Md} {d : Nat} {ty : TypeId} {pos : String} {af : Array Edge} {tys : Array TypeId} {x0 x1 : Operand} {i0 i1 i2 : Nat} (ha0 : ev (lk tsl) x0 = some (.optr i0 0)) (ha1 : ev (lk tsl) x1 = some (iv v)) (hH0 : cK hsl i0 = some (mO ts bd pts i1 i2 s)) (hH1 : cK hsl i1 = some (aI eD s.slots)) (hH2 : cK hsl i2 = some (aI cI s.read)) (hdd : Go.AL.distinct [i0, i1, i2] = true) (hmc : MC Tryz.prog 136 [.optr 0 0, iv v] [(0, some (mO ts bd pts 1 2 s)), (1, some (aI eD s.slots)), (2, some (aI cI s.read))] 3 (fun _ : Unit => True) (fun _ => iv (kK (cL s.cells s.slots[v.toNat]!.ptr true))) (fun _ => [(0, some ([aG ts bd pts, .own 1 0 ts.length 4, sl cZ (hZ s.cells s.slots[v.toNat]!.ptr), .own 2 0 s.read.length 1])), (1, some (aI eD s.slots)), (2, some (aI cI s.read))])) (hM : Nat.ble (nidl + 0) eR = true) (hN : Nat.blt d N = true) {md' : Md} [hmd : MdA md (gL [x0, x1] ++ [.inr i0, .inr i1, .inr i2]) (List.map Sum.inr (List.map Prod.fst ([(i0, some ([aG ts bd pts, .own i1 0 ts.length 4, sl cZ (hZ s.cells s.slots[v.toNat]!.ptr), .own i2 0 s.read.length 1])), (i1, some (aI eD s.slots)), (i2, some (aI cI s.read))] : List (Nat × Option (List AV)))) ++ [.inl d]) md'] (kk : RW Tryz.prog N all Q md' rest ⟨(d, iv (kK (cL s.cells s.slots[v.toNat]!.ptr true))) :: tsl, iF hsl [(i0, some ([aG ts bd pts, .own i1 0 ts.length 4, sl cZ (hZ s.cells s.slots[v.toNat]!.ptr), .own i2 0 s.read.length 1])), (i1, some (aI eD s.slots)), (i2, some (aI cI s.read))], nidl + 0, z0⟩) : RW Tryz.prog N all Q md (⟨some d, .call ⟨.value (.func 136), #[x0, x1], tys⟩, ty, pos, af, none⟩ :: rest) ⟨tsl, hsl, nidl, z0⟩ := by
 refine cB [i0, i1, i2] 3 [(i0, some ([aG ts bd pts, .own i1 0 ts.length 4, sl cZ (hZ s.cells s.slots[v.toNat]!.ptr), .own i2 0 s.read.length 1])), (i1, some (aI eD s.slots)), (i2, some (aI cI s.read))] hmc (avs := [.optr i0 0, iv v]) ?_ hdd ?_ rfl ?_ (by simpa using hM) ?_ ?_ ?_ hN (md' := md') (hmd := hmd) kk
 ·show evL (lk tsl) [x0, x1] = _
  simp only [evL, ha0, ha1]
 ·exact ⟨⟨_, _, rfl, hH0, by (repeat' (first|exact RnL.purI inferInstance|exact RnV.purI inferInstance|exact RnV.own rfl|refine RnL.cons ?_ ?_))⟩, ⟨⟨_, _, rfl, hH1, by (repeat' (exact RnL.purI inferInstance))⟩, ⟨⟨_, _, rfl, hH2, by (repeat' (exact RnL.purI inferInstance))⟩, trivial⟩⟩⟩
 ·(repeat' (first|exact RnL.purI inferInstance|exact RnV.optr rfl|refine RnL.cons ?_ ?_))
 ·(repeat' (exact RnV.purI inferInstance))
 ·simp [dI]
 ·(repeat' (first|exact trivial|(refine And.intro ⟨0, _, rfl, rfl, ?_⟩ ?_)|(refine And.intro ⟨1, _, rfl, rfl, ?_⟩ ?_)|(refine And.intro ⟨2, _, rfl, rfl, ?_⟩ ?_)|exact RnL.purI inferInstance|exact RnV.purI inferInstance|exact RnV.own rfl|refine RnL.cons ?_ ?_))
theorem GY (ts : List Int) (bd : List AL.Stmt) (pts : List Pnt) (s : Mc) (v : Int) (hm : OkM s.cells) (hsl : s.slots.length = ts.length) (hv : 0 ≤ v ∧ v < ts.length) : MC Tryz.prog 136 [.optr 0 0, iv v] [(0, some (mO ts bd pts 1 2 s)), (1, some (aI eD s.slots)), (2, some (aI cI s.read))] 3 (fun _ : Unit => True) (fun _ => iv (kK (cL s.cells s.slots[v.toNat]!.ptr true))) (fun _ => [(0, some ([aG ts bd pts, .own 1 0 ts.length 4, sl cZ (hZ s.cells s.slots[v.toNat]!.ptr), .own 2 0 s.read.length 1])), (1, some (aI eD s.slots)), (2, some (aI cI s.read))]) := by
 have h := x6 ts bd pts s v.toNat hm hsl (by omega)
 rw [Int.toNat_of_nonneg hv.1] at h
 exact h
end Go.Proofs.YtckihjkcgfphmaaGreat
