/-
 A part of the proofs over this program: rules and contracts of its functions (the contracts).
-/
import Derived.Test.YtckihjkcgfphmaaGreatP3B04
set_option linter.unusedVariables false
set_option linter.unusedSimpArgs false
set_option maxHeartbeats 8000000
set_option maxRecDepth 4000
attribute [local irreducible] Go.AL.RW Go.AL.AW Go.AL.Stop
namespace Go.Proofs.YtckihjkcgfphmaaGreat
open Go.AL Go.RowKit
theorem Bn {stk r : List Tg} {k : Nat} {N : Nat} {Q : Exit → AS → Prop} {all : Array Oper} {rest : List Oper} {tsl : List (Nat × AV)} {hsl : List (Nat × Option (List AV))} {nidl : Nat} {z0 : Lo} {md : Md} {d : Nat} {ty : TypeId} {pos : String} {af : Array Edge} {tys : Array TypeId} {x0 x1 : Operand} (ha0 : ev (lk tsl) x0 = some (sl dL stk)) (ha1 : ev (lk tsl) x1 = some (iv (k : Int))) (hmc : MC Tryz.prog 196 [sl dL stk, iv (k : Int)] [] 0 (fun _ : Unit => True) (fun _ => .own 1 0 r.length 2) (fun _ => [(1, some (aI dL r))])) (hM : Nat.ble (nidl + 2) eZ = true) (hN : Nat.blt d N = true) {md' : Md} [hmd : MdA md (gK [x0, x1] ++ []) (List.map Sum.inr (List.map Prod.fst ([((nidl + 1), some (aI dL r))] : List (Nat × Option (List AV)))) ++ [.inl d]) md'] (kk : RW Tryz.prog N all Q md' rest ⟨(d, .own (nidl + 1) 0 r.length 2) :: tsl, iD hsl [((nidl + 1), some (aI dL r))], nidl + 2, z0⟩) : RW Tryz.prog N all Q md (⟨some d, .call ⟨.value (.func 196), #[x0, x1], tys⟩, ty, pos, af, none⟩ :: rest) ⟨tsl, hsl, nidl, z0⟩ := by
 refine cE [] 2 [((nidl + 1), some (aI dL r))] hmc (avs := [sl dL stk, iv (k : Int)]) ?_ rfl ?_ rfl ?_ (by simpa using hM) ?_ ?_ ?_ hN (md' := md') (hmd := hmd) kk
 ·show evL (lk tsl) [x0, x1] = _
  simp only [evL, ha0, ha1]
 ·exact trivial
 ·(repeat' (exact RnL.purI inferInstance))
 ·(repeat' (exact RnV.own rfl))
 ·simp [dJ]
 ·(repeat' (first|exact trivial|(refine And.intro ⟨1, _, rfl, rfl, ?_⟩ ?_)|exact RnL.purI inferInstance))
theorem Eb (stk r : List Tg) (k : Nat) (hr : r = fT stk k false) (hk : k < stk.length) (hl : stk.length ≤ 1000000) : MC Tryz.prog 196 [sl dL stk, iv (k : Int)] [] 0 (fun _ : Unit => True) (fun _ => .own 1 0 r.length 2) (fun _ => [(1, some (aI dL r))]) := by
 have e1 : List.take (((k : Int) + 1).toNat - 0) (List.drop 0 stk) = stk.take (k + 1) := by rw [List.drop_zero]; congr 1
 have e2 : (stk.take (k + 1)).length = k + 1 := by rw [List.length_take]; omega
 (refine b9 Tryz.func196 rfl (by simp [Tryz.ntmps196]) ?_; rw [Tryz.ntmps196])
 repeat' (first|(apply aL;first|(with_reducible apply cV (d := 12))|(apply aE;rfl;rfl)|(apply bS;rfl;rfl;omega;rfl)|(apply aC;rfl;rfl)|(apply aF;kernel_rfl)|(apply iN;rfl;infer_instance;rfl;rfl;(omega);rfl)|(apply bZ;rfl;rfl;rfl;(rfl);rfl;rfl))|(apply aM;first|apply aH|apply aB)|with_reducible apply aA)
 refine dX ?_
 rw [e1]
 repeat' (first|(apply aL;first|(apply aE;rfl;rfl)|(apply bS;rfl;rfl;omega;rfl)|(apply aC;rfl;rfl)|(apply bW;rfl;rfl;rfl;rfl;rfl;(case hl => (simp [aP]; done));(exact iQ (by (rfl)));omega;omega;(exact eY (by (omega)));rfl;rfl)|(apply aF;kernel_rfl))|(apply aM;first|apply aH|apply aB|apply aK)|with_reducible apply aA)
 refine bB (σ := Nat × List Tg × Nat) [0] [(0, _)] [] [] (fun s => [(6, iv (s.1 : Int)), (5, .own 1 0 s.2.2 2)]) (fun s => [(1, some (aI dL s.2.1))]) (fun s => k + 1 ≤ s.1 ∧ s.1 ≤ stk.length ∧ s.2.1 = stk.take (k + 1) ++ ((stk.drop (k + 1)).take (s.1 - (k + 1))).filter (fun t => !t.uq) ∧ s.2.2 = s.2.1.length ∧ s.2.2 ≤ s.1) (fun s => stk.length - s.1) (k + 1, stk.take (k + 1), 0 + (stk.take (k + 1)).length) ⟨Nat.le_refl _, by dsimp only;omega, by simp, by dsimp only;omega, by dsimp only;omega⟩ rfl rfl (by repeat' (first|exact trivial|refine And.intro rfl ?_)) (by repeat' (first|exact trivial|refine And.intro (.inr rfl) ?_)) ?_
 rintro ⟨i, xs, n⟩ ⟨hki, hi, hxs, hn, hni⟩
 dsimp only at hki hi hxs hn hni ⊢
 repeat' (first|(apply aL;first|(apply aE;rfl;rfl)|(first|(apply aN;rfl;rfl;rfl;rfl)|(apply aV;rfl;rfl;(exact (rfl:_=[_, _]));rfl;rfl;rfl))|(apply aD;rfl;rfl;rfl)|(first|(apply bS;rfl;rfl;omega;rfl)|(apply aU;rfl;rfl;rfl;rfl))|(apply aC;rfl;rfl)|(apply a7;(case hx|hi => rfl);(case hm => (omega));(case hml => (rfl));(case hα | hf|hg => infer_instance);(case hN => rfl))|(first|(apply bI;rfl;rfl;rfl)|(apply bW;rfl;rfl;rfl;rfl;rfl;(rw [aP]; omega);(rfl);omega;omega;(exact uG (by (assumption)));rfl;rfl))|(apply aF;kernel_rfl)|(apply cF;rfl;rfl)|((apply bE (t := _));(case hze|hsm|hl => rfl);(case hfl => (exact (rfl:_=some [_, _])));(case hM|hN => rfl)))|(apply aM;first|apply aH|apply aB|(apply aQ;rfl;all_goals intro hc;have hq:=hc;(try simp only [cJ] at hq);try exfalso;omega)|apply aK|apply aT|apply bK|apply aR)|with_reducible apply aA|with_reducible apply bJ|with_reducible apply aX|with_reducible apply bO)
 ·(apply dK (i + 1, _, _); focus (refine Le.ren [(1, 3)] rfl (by decide) ?_ ?_ <;> repeat' (first | exact trivial | refine And.intro ⟨_, rfl, ?_⟩ ?_ | refine And.intro ⟨_, _, rfl, rfl, ?_⟩ ?_ | exact Or.inr rfl | refine Or.inl ⟨?_, (by first | rfl | exact aY _ _)⟩ | rfl)))
  ·refine ⟨by dsimp only; omega, by dsimp only; omega, ?_, by dsimp only; rw [List.length_append, hn]; rfl, by dsimp only; omega⟩
   dsimp only
   rw [hxs, kM stk hki (by omega), List.filter_append, List.append_assoc]
   congr 2
   have hu : stk[i]!.uq = false := by assumption
   rw [p8 (by rw [hu]; rfl)]
  ·dsimp only;omega
 ·(apply dK (i + 1, xs, n); focus (refine Le.ren [(1, 1)] rfl (by decide) ?_ ?_ <;> repeat' (first | exact trivial | refine And.intro ⟨_, rfl, ?_⟩ ?_ | refine And.intro ⟨_, _, rfl, rfl, ?_⟩ ?_ | exact Or.inr rfl | refine Or.inl ⟨?_, (by first | rfl | exact aY _ _)⟩ | rfl)))
  ·refine ⟨by dsimp only; omega, by dsimp only; omega, ?_, hn, by dsimp only; omega⟩
   dsimp only
   have hu : stk[i]!.uq = true := by assumption
   rw [hxs, kM stk hki (by omega), List.filter_append, nE (by rw [hu]; rfl), List.append_nil]
  ·dsimp only;omega
 ·have hie : i = stk.length := by omega
  have hd : (stk.drop (k + 1)).take (stk.length - (k + 1)) = stk.drop (k + 1) := List.take_of_length_le (by rw [List.length_drop]; exact Nat.le_refl _)
  have hxr : xs = r := by rw [hxs, hie, hd, hr]; rfl
  subst hxr
  (refine aO rfl ?_; refine bU () trivial ?_ ⟨.inr (Eq.trans (b := some _) rfl ?_), trivial⟩)
  ·rw [hn]; rfl
  ·rfl
theorem Fa {m : List Cl} {x : Pt} {j : Nat} {r : List Tg} {v : Int} {N : Nat} {Q : Exit → AS → Prop} {all : Array Oper} {rest : List Oper} {tsl : List (Nat × AV)} {hsl : List (Nat × Option (List AV))} {nidl : Nat} {z0 : Lo} {md : Md} {d : Nat} {ty : TypeId} {pos : String} {af : Array Edge} {tys : Array TypeId} {x0 x1 : Operand} (ha0 : ev (lk tsl) x0 = some (sl c6 m)) (ha1 : ev (lk tsl) x1 = some (nB x)) (hmc : MC Tryz.prog 148 [sl c6 m, nB x] [] 0 (fun _ : Unit => True) (fun _ => .tup [.own 1 0 m.length 4, iv v, iv 0]) (fun _ => [(1, some (aI fW (eE m j (.own 3 0 r.length 2)))), (3, some (aI dL r))])) (hM : Nat.ble (nidl + 4) eZ = true) (hN : Nat.blt d N = true) {md' : Md} [hmd : MdA md (gK [x0, x1] ++ []) (List.map Sum.inr (List.map Prod.fst ([((nidl + 1), some (aI fW (eE m j (.own (nidl + 3) 0 r.length 2)))), ((nidl + 3), some (aI dL r))] : List (Nat × Option (List AV)))) ++ [.inl d]) md'] (kk : RW Tryz.prog N all Q md' rest ⟨(d, .tup [.own (nidl + 1) 0 m.length 4, iv v, iv 0]) :: tsl, iD hsl [((nidl + 1), some (aI fW (eE m j (.own (nidl + 3) 0 r.length 2)))), ((nidl + 3), some (aI dL r))], nidl + 4, z0⟩) : RW Tryz.prog N all Q md (⟨some d, .call ⟨.value (.func 148), #[x0, x1], tys⟩, ty, pos, af, none⟩ :: rest) ⟨tsl, hsl, nidl, z0⟩ := by
 refine cE [] 4 [((nidl + 1), some (aI fW (eE m j (.own (nidl + 3) 0 r.length 2)))), ((nidl + 3), some (aI dL r))] hmc (avs := [sl c6 m, nB x]) ?_ rfl ?_ rfl ?_ (by simpa using hM) ?_ ?_ ?_ hN (md' := md') (hmd := hmd) kk
 ·show evL (lk tsl) [x0, x1] = _
  simp only [evL, ha0, ha1]
 ·exact trivial
 ·(repeat' (exact RnL.purI inferInstance))
 ·(repeat' (first|exact RnL.purI inferInstance|exact RnV.own rfl|refine RnL.cons ?_ ?_|refine RnV.tup ?_))
 ·simp [dJ]
 ·(repeat' (first|exact trivial|(refine And.intro ⟨1, _, rfl, rfl, ?_⟩ ?_)|(refine And.intro ⟨3, _, rfl, rfl, ?_⟩ ?_)|exact RnL.purI inferInstance|exact kU rfl))
theorem Iu (m : List Cl) (x : Pt) (j : Nat) (r : List Tg) (v : Int) (hm : OkM m) (hk : cK m x false = 0) (hj : j = x.cell.toNat) (hr : r = fT m[j]!.stk (dD m[j]!.stk x.tag).toNat false) (hv : v = m[j]!.val) : MC Tryz.prog 148 [sl c6 m, nB x] [] 0 (fun _ : Unit => True) (fun _ => .tup [.own 1 0 m.length 4, iv v, iv 0]) (fun _ => [(1, some (aI fW (eE m j (.own 3 0 r.length 2)))), (3, some (aI dL r))]) := by
 subst hj
 have hml := hm.l
 have hst : 0 ≤ x.cell → x.cell < m.length → m[x.cell.toNat]!.stk.length ≤ 1000000 := fun h1 h2 => Nat.le_trans (((dY m).1 hm).2 x.cell.toNat (by omega)).l.2 (by decide)
 have hpl := k7 m hm x
 rw [if_pos hk, hk] at hpl
 obtain ⟨h1, h2, h3, h4, _⟩ := eW hk
 have hbd := e9 m[x.cell.toNat]!.stk x.tag
 have hrd := Eb m[x.cell.toNat]!.stk r (dD m[x.cell.toNat]!.stk x.tag).toNat hr (by omega) (hst h1 h2)
 rw [Int.toNat_of_nonneg h4] at hrd
 obtain ⟨k, hkk⟩ := Int.eq_ofNat_of_zero_le h4
 rw [hkk] at hpl hrd
 (refine b9 Tryz.func148 rfl (by simp [Tryz.ntmps148]) ?_; rw [Tryz.ntmps148])
 repeat' (first|(apply aL;first|(apply fX;rfl;exact gU m hm;rfl;rfl)|((with_reducible apply aJ (k := 195));(case ha => rfl);(case h => exact hpl);(case hp => (exact Pur.pf));(case hN => rfl))|(apply Bn;rfl;rfl;exact hrd;rfl;rfl)|(apply aE;rfl;rfl)|(first|(apply aN;rfl;rfl;rfl;rfl)|(apply aV;rfl;rfl;(exact (rfl:_=[_, _]));rfl;rfl;rfl))|(apply aD;rfl;rfl;rfl)|(apply aU;rfl;rfl;rfl;rfl)|(apply aC;rfl;rfl)|(first|(apply cL;(case hx|hi => rfl);(case hm => (omega));(case hml => (rfl));(case hα | hf|hg => infer_instance);(case hN => rfl))|(apply cQ;rfl;rfl;(omega);rfl))|(apply aF;kernel_rfl)|(apply bH;rfl;rfl;rfl;rfl)|(apply bD;rfl;rfl;rfl)|(apply aW;rfl;rfl;rfl;rfl;rfl;(rw [aP]; simp only [gH] <;> omega);(exact xY (by (omega)))))|(apply aM;first|apply aH|apply aB|(apply bV;kernel_rfl)|(apply cG;rfl;(rfl))|apply aT|apply aR)|with_reducible apply aA)
 (refine aO rfl ?_; refine bU () trivial ?_ ⟨.inr (Eq.trans (b := some _) rfl ?_), ⟨.inr (Eq.trans (b := some _) rfl ?_), trivial⟩⟩)
 ·rw [hv]; rfl
 ·rfl
 ·rfl
theorem Ea {m : List Cl} {x : Pt} {j : Nat} {r : List Tg} {N : Nat} {Q : Exit → AS → Prop} {all : Array Oper} {rest : List Oper} {tsl : List (Nat × AV)} {hsl : List (Nat × Option (List AV))} {nidl : Nat} {z0 : Lo} {md : Md} {d : Nat} {ty : TypeId} {pos : String} {af : Array Edge} {tys : Array TypeId} {x0 x1 : Operand} (ha0 : ev (lk tsl) x0 = some (sl c6 m)) (ha1 : ev (lk tsl) x1 = some (nB x)) (hmc : MC Tryz.prog 190 [sl c6 m, nB x] [] 0 (fun _ : Unit => True) (fun _ => .tup [.own 1 0 m.length 4, iv 0]) (fun _ => [(1, some (aI fW (eE m j (.own 3 0 r.length 2)))), (3, some (aI dL r))])) (hM : Nat.ble (nidl + 4) eZ = true) (hN : Nat.blt d N = true) {md' : Md} [hmd : MdA md (gK [x0, x1] ++ []) (List.map Sum.inr (List.map Prod.fst ([((nidl + 1), some (aI fW (eE m j (.own (nidl + 3) 0 r.length 2)))), ((nidl + 3), some (aI dL r))] : List (Nat × Option (List AV)))) ++ [.inl d]) md'] (kk : RW Tryz.prog N all Q md' rest ⟨(d, .tup [.own (nidl + 1) 0 m.length 4, iv 0]) :: tsl, iD hsl [((nidl + 1), some (aI fW (eE m j (.own (nidl + 3) 0 r.length 2)))), ((nidl + 3), some (aI dL r))], nidl + 4, z0⟩) : RW Tryz.prog N all Q md (⟨some d, .call ⟨.value (.func 190), #[x0, x1], tys⟩, ty, pos, af, none⟩ :: rest) ⟨tsl, hsl, nidl, z0⟩ := by
 refine cE [] 4 [((nidl + 1), some (aI fW (eE m j (.own (nidl + 3) 0 r.length 2)))), ((nidl + 3), some (aI dL r))] hmc (avs := [sl c6 m, nB x]) ?_ rfl ?_ rfl ?_ (by simpa using hM) ?_ ?_ ?_ hN (md' := md') (hmd := hmd) kk
 ·show evL (lk tsl) [x0, x1] = _
  simp only [evL, ha0, ha1]
 ·exact trivial
 ·(repeat' (exact RnL.purI inferInstance))
 ·(repeat' (first|exact RnL.purI inferInstance|exact RnV.own rfl|refine RnL.cons ?_ ?_|refine RnV.tup ?_))
 ·simp [dJ]
 ·(repeat' (first|exact trivial|(refine And.intro ⟨1, _, rfl, rfl, ?_⟩ ?_)|(refine And.intro ⟨3, _, rfl, rfl, ?_⟩ ?_)|exact RnL.purI inferInstance|exact kU rfl))
theorem Fq (m : List Cl) (x : Pt) (j : Nat) (r : List Tg) (hm : OkM m) (hk : cK m x true = 0) (hj : j = x.cell.toNat) (hr : r = fT m[j]!.stk (dD m[j]!.stk x.tag).toNat true) : MC Tryz.prog 190 [sl c6 m, nB x] [] 0 (fun _ : Unit => True) (fun _ => .tup [.own 1 0 m.length 4, iv 0]) (fun _ => [(1, some (aI fW (eE m j (.own 3 0 r.length 2)))), (3, some (aI dL r))]) := by
 subst hj
 have hml := hm.l
 obtain ⟨h1, h2, h3, h4, hu⟩ := eW hk
 have hk0 : cK m x false = 0 := rR h1 h2 h3 h4
 have hs2 : m[x.cell.toNat]!.stk.length ≤ 200 := (((dY m).1 hm).2 x.cell.toNat (by omega)).l.2
 have hpl := k7 m hm x
 rw [if_pos hk0, hk0] at hpl
 have hbd := e9 m[x.cell.toNat]!.stk x.tag
 obtain ⟨k, hkk⟩ := Int.eq_ofNat_of_zero_le h4
 have hkt : (dD m[x.cell.toNat]!.stk x.tag).toNat = k := by omega
 rw [hkk] at hpl
 rw [hkt] at hr hu
 have hkn : k < m[x.cell.toNat]!.stk.length := by omega
 have e1 : List.take (((k : Int) + 1).toNat - 0) (List.drop 0 m[x.cell.toNat]!.stk) = r := by rw [List.drop_zero, hr]; unfold fT;rw [if_pos rfl]; congr 1
 have e2 : r.length = k + 1 := by rw [← e1, List.drop_zero, List.length_take]; omega
 have hut := hu rfl
 (refine b9 Tryz.func190 rfl (by simp [Tryz.ntmps190]) ?_; rw [Tryz.ntmps190])
 repeat' (first|(apply aL;first|(apply fX;rfl;exact gU m hm;rfl;rfl)|((with_reducible apply aJ (k := 195));(case ha => rfl);(case h => exact hpl);(case hp => (exact Pur.pf));(case hN => rfl))|(with_reducible apply cV (d := 46))|(apply aE;rfl;rfl)|(first|(apply aN;rfl;rfl;rfl;rfl)|(apply aV;rfl;rfl;(exact (rfl:_=[_, _]));rfl;rfl;rfl))|(apply aD;rfl;rfl;rfl)|(first|(apply bS;rfl;rfl;omega;rfl)|(apply aU;rfl;rfl;rfl;rfl))|(apply aC;rfl;rfl)|(first|(apply a7;(case hx|hi => rfl);(case hm => (assumption));(case hml => (rfl));(case hα | hf|hg => infer_instance);(case hN => rfl))|(apply cL;(case hx|hi => rfl);(case hm => (omega));(case hml => (rfl));(case hα | hf|hg => infer_instance);(case hN => rfl)))|(apply aF;kernel_rfl)|(apply iN;rfl;infer_instance;rfl;rfl;(omega);rfl)|(apply cF;rfl;rfl)|(apply bH;rfl;rfl;rfl;rfl)|(apply bD;rfl;rfl;rfl)|(apply bZ;rfl;rfl;rfl;(rfl);rfl;rfl))|(apply aM;first|apply aH|apply aB|(apply bV;kernel_rfl)|(apply cG;rfl;(rfl))|(apply aQ;rfl;all_goals intro hc;have hq:=hc;(try simp only [cJ] at hq);try exfalso;omega)|apply aT|apply aR)|with_reducible apply aA|with_reducible apply bG)
 ·exfalso; have hf : m[x.cell.toNat]!.stk[k]!.uq = false := by assumption
  rw [hut] at hf;exact absurd hf (by decide)
 refine dX ?_
 rw [e1]
 repeat' (first|(apply aL;first|(apply aE;rfl;rfl)|(apply aD;rfl;rfl;rfl)|(apply aC;rfl;rfl)|(apply cQ;rfl;rfl;(omega);rfl)|(apply bW;rfl;rfl;rfl;rfl;rfl;(case hl => (simp [aP]; done));(exact iQ (by (rfl)));omega;omega;(exact eY (by (omega)));rfl;rfl)|(apply aF;kernel_rfl)|(apply aW;rfl;rfl;rfl;rfl;rfl;(rw [aP]; simp only [gH] <;> omega);(exact xY (by (omega)))))|(apply aM;first|apply aH|apply aB|apply aR)|with_reducible apply aA)
 (refine aO rfl ?_; refine bU () trivial ?_ ⟨.inr (Eq.trans (b := some _) rfl ?_), ⟨.inr (Eq.trans (b := some _) rfl ?_), trivial⟩⟩)
 ·rfl
 ·rw [Nat.zero_add r.length]
 ·rfl
theorem lX {m : List Cl} {x : Pt} {u : Bool} {r : List Tg} (hk : cK m x u = 0) (hr : r = fT m[x.cell.toNat]!.stk (dD m[x.cell.toNat]!.stk x.tag).toNat u) : kY m x u = kF m x.cell.toNat r ∧ kA m x u = kG m m x.cell.toNat u r ∧ oB m x u = kD m x.cell.toNat r := by
 obtain ⟨h1, h2, _⟩ := eW hk
 subst hr
 have e : kY m x u = kF m x.cell.toNat (fT m[x.cell.toNat]!.stk (dD m[x.cell.toNat]!.stk x.tag).toNat u) := by
  unfold kY;rw [if_pos hk]; rfl
 refine ⟨e, ?_, ?_⟩
 ·unfold kA kG
  rw [e]; unfold kF
  split
  ·rw [if_neg (by decide)]
  ·rw [if_pos rfl]; rfl
 ·unfold oB kD
  rw [e]; unfold kF
  split
  ·rw [if_neg (by decide)]
  ·rw [if_pos rfl, Int.toNat_of_nonneg h1]
theorem Fh {m : List Cl} {x : Pt} {u : Bool} (hk : cK m x u ≠ 0) : kY m x u = cK m x u ∧ kA m x u = m ∧ oB m x u = ⟨0, 0⟩ := by
 have e : kY m x u = cK m x u := by unfold kY;rw [if_neg hk]
 exact ⟨e, by unfold kA;rw [if_neg (by rw [e]; exact hk)], by unfold oB;rw [if_neg (by rw [e]; exact hk)]⟩
theorem x4 (m : List Cl) (hm : OkM m) (x : Pt) : PC Tryz.prog 193 [sl c6 m, nB x] (fun r => r = .tup [sl c6 (kA m x false), nB (oB m x false), iv (kY m x false)]) := by
 have hml := hm.l
 by_cases hk : cK m x false = 0
 ·obtain ⟨c, t⟩ := x
  obtain ⟨h1, h2, _⟩ := eW hk
  have h1' : 0 ≤ c := h1
  obtain ⟨j, rfl⟩ := Int.eq_ofNat_of_zero_le h1'
  have h2' : (j : Int) < m.length := h2
  have hc := ((dY m).1 hm).2 j (by omega)
  obtain ⟨r, hr⟩ : ∃ r, r = fT m[j]!.stk (dD m[j]!.stk t).toNat false := ⟨_, rfl⟩
  have hrl : r.length ≤ 200 := by rw [hr]; exact Nat.le_trans tchS_sub.length_le hc.l.2
  obtain ⟨e1, e2, e3⟩ := lX hk hr
  have hpu := Ae m m j false r m.length r.length hm rfl rfl (by omega) (by have := hc.n;omega) hrl hml
  rw [e1, e2, e3]
  (refine aS Tryz.func193 rfl (by simp [Tryz.ntmps193]) ?_; rw [Tryz.ntmps193])
  repeat' (first|(apply aL;first|((apply Fa (j := j) (r := r) (v := m[j]!.val));(case ha0|ha1 => rfl);(case hmc => exact Iu m _ _ r _ hm hk rfl hr rfl);(case hM|hN => rfl))|((apply vY (m := m) (b := m) (j := j) (u := false) (r := r) (n := m.length) (k := r.length));(case ha0|ha1|ha2|ha3|hH0|hH1|hdd => rfl);(case hmc => exact hpu);(case hM|hN => rfl))|(apply aE;rfl;rfl)|(first|(apply aN;rfl;rfl;rfl;rfl)|(apply aV;rfl;rfl;(exact (rfl:_=[_, _]));rfl;rfl;rfl))|(apply aD;rfl;rfl;rfl)|(apply aU;rfl;rfl;rfl;rfl)|(apply aC;rfl;rfl)|(apply aF;kernel_rfl)|(apply bH;rfl;rfl;rfl;rfl)|(apply a6;rfl;rfl)|(apply bD;rfl;rfl;rfl)|(apply aW;rfl;rfl;rfl;rfl;rfl;(case hl => (simp;done));(exact (rfl:_=[_, _]))))|(apply aM;first|apply aH|apply aB|(apply cG;rfl;(rfl))|apply aT|apply aR)|with_reducible apply aA)
  exact aO (l := [sl c6 (kG m m j false r), .agg [iv (kD m j r).cell, iv (kD m j r).tag], iv (kF m j r)]) rfl ⟨rfl, by (exact Pur.pf)⟩
 ·obtain ⟨e1, e2, e3⟩ := Fh hk
  have hrd := qL m hm x
  have e4 : dU m x false = m := by unfold dU;rw [if_neg hk]
  rw [e4] at hrd
  rw [e1, e2, e3]
  (refine aS Tryz.func193 rfl (by simp [Tryz.ntmps193]) ?_; rw [Tryz.ntmps193])
  repeat' (first|(apply aL;first|((with_reducible apply aJ (k := 148));(case ha => rfl);(case h => exact hrd);(case hp => (exact Pur.pf));(case hN => rfl))|(apply aE;rfl;rfl)|(apply aV;rfl;rfl;(exact (rfl:_=[_, _]));rfl;rfl;rfl)|(apply aU;rfl;rfl;rfl;rfl)|(apply aC;rfl;rfl)|(apply aF;kernel_rfl)|(apply b8;rfl;(exact (rfl:_=some [_, _]));(exact (rfl:_=[_, _]));rfl)|(apply bH;rfl;rfl;rfl;rfl)|(apply a6;rfl;rfl)|(apply bD;rfl;rfl;rfl)|(apply aW;rfl;rfl;rfl;rfl;rfl;(decide);(exact (rfl:_=[_, _]))))|(apply aM;first|apply aH|apply aB|(apply aQ;rfl;all_goals intro hc;have hq:=hc;(try simp only [cJ] at hq);try exfalso;omega)|apply aR)|with_reducible apply aA|with_reducible apply bG)
  skip
  exact aO (l := [sl c6 m, .agg [iv 0, iv 0], iv (cK m x false)]) rfl ⟨rfl, by (exact Pur.pf)⟩
theorem vB (m : List Cl) (hm : OkM m) (x : Pt) : PC Tryz.prog 194 [sl c6 m, nB x] (fun r => r = .tup [sl c6 (kA m x true), nB (oB m x true), iv (kY m x true)]) := by
 have hml := hm.l
 by_cases hk : cK m x true = 0
 ·obtain ⟨c, t⟩ := x
  obtain ⟨h1, h2, _⟩ := eW hk
  have h1' : 0 ≤ c := h1
  obtain ⟨j, rfl⟩ := Int.eq_ofNat_of_zero_le h1'
  have h2' : (j : Int) < m.length := h2
  have hc := ((dY m).1 hm).2 j (by omega)
  obtain ⟨r, hr⟩ : ∃ r, r = fT m[j]!.stk (dD m[j]!.stk t).toNat true := ⟨_, rfl⟩
  have hrl : r.length ≤ 200 := by rw [hr]; exact Nat.le_trans tchS_sub.length_le hc.l.2
  obtain ⟨e1, e2, e3⟩ := lX hk hr
  have hpu := Ae m m j true r m.length r.length hm rfl rfl (by omega) (by have := hc.n;omega) hrl hml
  rw [e1, e2, e3]
  (refine aS Tryz.func194 rfl (by simp [Tryz.ntmps194]) ?_; rw [Tryz.ntmps194])
  repeat' (first|(apply aL;first|((apply Ea (j := j) (r := r));(case ha0|ha1 => rfl);(case hmc => exact Fq m _ _ r hm hk rfl hr);(case hM|hN => rfl))|((apply vY (m := m) (b := m) (j := j) (u := true) (r := r) (n := m.length) (k := r.length));(case ha0|ha1|ha2|ha3|hH0|hH1|hdd => rfl);(case hmc => exact hpu);(case hM|hN => rfl))|(apply aE;rfl;rfl)|(first|(apply aN;rfl;rfl;rfl;rfl)|(apply aV;rfl;rfl;(exact (rfl:_=[_, _]));rfl;rfl;rfl))|(apply aD;rfl;rfl;rfl)|(apply aU;rfl;rfl;rfl;rfl)|(apply aC;rfl;rfl)|(apply aF;kernel_rfl)|(apply bH;rfl;rfl;rfl;rfl)|(apply a6;rfl;rfl)|(apply bD;rfl;rfl;rfl)|(apply aW;rfl;rfl;rfl;rfl;rfl;(case hl => (simp;done));(exact (rfl:_=[_, _]))))|(apply aM;first|apply aH|apply aB|(apply cG;rfl;(rfl))|apply aT|apply aR)|with_reducible apply aA)
  exact aO (l := [sl c6 (kG m m j true r), .agg [iv (kD m j r).cell, iv (kD m j r).tag], iv (kF m j r)]) rfl ⟨rfl, by (exact Pur.pf)⟩
 ·obtain ⟨e1, e2, e3⟩ := Fh hk
  have hwr := kB m x hm
  have e4 : dU m x true = m := by unfold dU;rw [if_neg hk]
  rw [e1, e2, e3]
  (refine aS Tryz.func194 rfl (by simp [Tryz.ntmps194]) ?_; rw [Tryz.ntmps194])
  repeat' (first|(apply aL;first|(apply iX;rfl;rfl;exact hwr;rfl;rfl)|(apply aE;rfl;rfl)|(apply aV;rfl;rfl;(exact (rfl:_=[_, _]));rfl;rfl;rfl)|(apply aU;rfl;rfl;rfl;rfl)|(apply aC;rfl;rfl)|(apply aF;kernel_rfl)|(apply b8;rfl;(exact (rfl:_=some [_, _]));(exact (rfl:_=[_, _]));rfl)|(apply bH;rfl;rfl;rfl;rfl)|(apply a6;rfl;rfl)|(apply bD;rfl;rfl;rfl)|(apply aW;rfl;rfl;rfl;rfl;rfl;(decide);(exact (rfl:_=[_, _]))))|(apply aM;first|apply aH|apply aB|(apply aQ;rfl;all_goals intro hc;have hq:=hc;(try simp only [cJ] at hq);try exfalso;omega)|apply aR)|with_reducible apply aA|with_reducible apply bG)
  refine cD (Le.frzD (d := 4) (i := 3) (m := m.length) (cs := aI c6 (dU m x true)) rfl rfl) ?_
  rw [e4]
  exact aO (l := [sl c6 m, .agg [iv 0, iv 0], iv (cK m x true)]) rfl ⟨rfl, by (exact Pur.pf)⟩
abbrev hG (s : Mc) : AV := .agg [sl eG s.slots, sl c6 s.cells, sl cI s.read]
theorem vO {xs : List Sl} {k : Nat} {a : Bool} {b c d : Int} (hk : k < xs.length) : hO (aI eG xs) (0 + k * 4) [bv a, iv b, iv c, iv d] = aI eG (xs.set k ⟨a, b, ⟨c, d⟩⟩) := pB hk rfl
theorem pR (s : Mc) (v : Nat) (hv : v < s.slots.length) (hl : s.slots.length ≤ 1000000) : PC Tryz.prog 143 [hG s, iv (v : Int)] (fun r => r = hG ⟨s.slots.set v hU, s.cells, s.read⟩) := by
 (refine aS Tryz.func143 rfl (by simp [Tryz.ntmps143]) ?_; rw [Tryz.ntmps143])
 repeat' (first|(apply aL;first|(apply aE;rfl;rfl)|(first|(apply aN;rfl;rfl;rfl;rfl)|(apply aV;rfl;rfl;(exact (rfl:_=[_, _, _]));rfl;rfl;rfl))|(apply aD;rfl;rfl;rfl)|(apply cH;rfl;rfl;(omega);rfl)|(apply bW;rfl;rfl;rfl;rfl;rfl;(case hl => (simp [aP]; done));(exact iQ (by (rfl)));omega;omega;(exact eY (by (omega)));rfl;rfl)|(apply aF;kernel_rfl)|(apply b8;rfl;(exact (rfl:_=some [_, _, _, _]));(exact (rfl:_=[_, _, _, _]));rfl)|(apply bH;rfl;rfl;rfl;rfl)|(apply a6;rfl;rfl)|(apply bZ;rfl;rfl;rfl;(rfl);rfl;rfl)|(apply aW;rfl;rfl;rfl;rfl;rfl;(case hl => (first|(rw [aP]; simp only [gH] <;> omega)|(simp;done)));(first|exact vO (by (assumption))|exact (rfl:_=[_, _, _]))))|(apply aM;first|apply aH|apply aB|apply aR)|with_reducible apply aA)
 refine cD (Le.frzC (j := 1) (i := 3) [] rfl rfl (by decide)) ?_
 have e : AV.imm (0 + s.slots.length) (aI eG (s.slots.set v hU)) = sl eG (s.slots.set v hU) := fU (by rw [List.length_set, Nat.zero_add])
 refine aO (l := [.agg [.imm (0 + s.slots.length) (aI eG (s.slots.set v hU)), sl c6 s.cells, sl cI s.read]]) rfl ?_
 rw [e]
 exact ⟨rfl, by (exact Pur.pf)⟩
theorem Hk (k : Int) : (if kH k = -1 then (0 : Int) else kH k) = if k = 1 then 3 else if k = 0 then 0 else 4 := by
 unfold kH fB
 by_cases h : k = 0
 ·subst h;rfl
 ·rw [if_neg h, if_neg h]
  by_cases h1 : k = 1
  ·rw [if_pos h1]; rfl
  ·rw [if_neg h1]; rfl
theorem lS (ts : List Int) (s : Mc) (v : Nat) (y : Sl) (hm : OkM s.cells) (hv : v < s.slots.length) (hvt : v < ts.length) (hl : s.slots.length ≤ 1000000) : PC Tryz.prog 144 [sl cI ts, hG s, iv (v : Int), Gi y] (fun r => r = .tup [hG (c5 ts s v y).1, iv (if (c5 ts s v y).2 = -1 then 0 else (c5 ts s v y).2)]) := by
 have hfc := mI s.cells hm s.slots[v]!.ptr
 (refine aS Tryz.func144 rfl (by simp [Tryz.ntmps144]) ?_; rw [Tryz.ntmps144])
 repeat' (first|(apply aL;first|((with_reducible apply aJ (k := 141));(case ha => rfl);(case h => exact hfc);(case hp => (exact Pur.pf));(case hN => rfl))|(apply aE;rfl;rfl)|(first|(apply aN;rfl;rfl;rfl;rfl)|(apply aV;rfl;rfl;(first|exact (rfl:_=[_, _])|exact (rfl:_=[_, _, _])|exact (rfl:_=[_, _, _, _]));rfl;rfl;rfl))|(apply aD;rfl;rfl;rfl)|(first|(apply a8;rfl;rfl;rfl;(assumption))|(apply bC;rfl;rfl;rfl;(assumption))|(apply bR;(case hj|hb|hN => rfl);all_goals (intro hg;have hq := hg;(try simp only [cJ] at hq);(try (exfalso;omega)))))|(apply aU;rfl;rfl;rfl;rfl)|(apply aC;rfl;rfl)|(first|(apply bY;rfl;(assumption);rfl;rfl)|(apply bQ;rfl;(assumption);rfl;rfl))|(first|(apply a7;(case hx|hi => rfl);(case hm => (assumption));(case hml => (rfl));(case hα | hf|hg => infer_instance);(case hN => rfl))|(apply cH;rfl;rfl;(omega);rfl))|((with_reducible apply aJ (k := 142));(case ha => rfl);(case h => (apply lE <;> (fail)));(case hp => (rfl));(case hN => rfl))|(apply bW;rfl;rfl;rfl;rfl;rfl;(case hl => (simp [aP]; done));(exact iQ (by (rfl)));omega;omega;(exact eY (by (omega)));rfl;rfl)|(apply aF;kernel_rfl)|(apply bH;rfl;rfl;rfl;rfl)|(apply a6;rfl;rfl)|(apply bD;rfl;rfl;rfl)|(apply bZ;rfl;rfl;rfl;(rfl);rfl;rfl)|(apply aW;rfl;rfl;rfl;rfl;rfl;(case hl => (first|(rw [aP]; simp only [gH] <;> omega)|(simp;done)));(first|exact vO (by (assumption))|exact (rfl:_=[_, _, _]))))|(apply aM;first|apply aH|apply aB|(apply bV;kernel_rfl)|(apply cG;rfl;(rfl))|(apply aQ;rfl;all_goals intro hc;have hq:=hc;(try simp only [cJ] at hq);try exfalso;omega)|apply aT|apply aR)|with_reducible apply aA)
 all_goals (
  refine cD (Le.frzC (j := 2) (i := 4) [] rfl rfl (by decide)) ?_
  have e : AV.imm (0 + s.slots.length) (aI eG (s.slots.set v y)) = sl eG (s.slots.set v y) := fU (by rw [List.length_set, Nat.zero_add]))
 ·have hp : c5 ts s v y = (⟨s.slots.set v y, iL s.cells s.slots[v]!.ptr, s.read⟩, kH (cK s.cells s.slots[v]!.ptr true)) := if_pos ⟨by assumption, by assumption⟩
  refine aO (l := [.agg [.imm (0 + s.slots.length) (aI eG (s.slots.set v y)), sl c6 (iL s.cells s.slots[v]!.ptr), sl cI s.read], iv (if cK s.cells s.slots[v]!.ptr true = 1 then 3 else if cK s.cells s.slots[v]!.ptr true = 0 then 0 else 4)]) rfl ?_
  rw [e, hp]
  dsimp only
  rw [Hk]
  exact ⟨rfl, by (exact Pur.pf)⟩
 all_goals (
  have hp : c5 ts s v y = (⟨s.slots.set v y, s.cells, s.read⟩, -1) := if_neg (by
   rintro ⟨q1, q2⟩
   first|(exact (by assumption : ¬ ts[v]! = 2) q1)|(rw [(by assumption : s.slots[v]!.set = false)] at q2;exact absurd q2 (by decide)))
  refine aO (l := [.agg [.imm (0 + s.slots.length) (aI eG (s.slots.set v y)), sl c6 s.cells, sl cI s.read], iv 0]) rfl ?_
  rw [e, hp]
  exact ⟨rfl, by (exact Pur.pf)⟩)
def gk (e : Int) : Int := if e = -1 then 0 else e
theorem JI {t : Int} (h : t = 2 ∨ t = 4) : vW t = true := by
 unfold vW;rcases h with h|h <;> subst h <;> rfl
theorem Me {t : Int} (h : ¬ t = 2) (h2 : ¬ t = 4) : ¬ vW t = true := by
 unfold vW;rw [decide_eq_false h, decide_eq_false h2]; decide
theorem xL {k : Int} (h : ¬ k = 0) : (if k = 1 then (3 : Int) else if k = 0 then 0 else 4) = fB k := by
 unfold fB;rw [if_neg h]
theorem Jx {m : List Cl} {x : Pt} {u : Bool} (h : ¬ kY m x u = 0) : kA m x u = m := by unfold kA; rw [if_neg h]
theorem F6 (ts : List Int) (s : Mc) (x : Pnt) (hm : OkM s.cells) (hsl : s.slots.length = ts.length) (hx : 0 ≤ x.x ∧ x.x < ts.length) (hy : 0 ≤ x.y ∧ x.y < ts.length) (hl : ts.length ≤ 1000000) : PC Tryz.prog 146 [sl cI ts, hG s, fQ x] (fun r => r = .tup [hG (c5 ts (if vW ts[x.y.toNat]! = true then ⟨s.slots.set x.y.toNat hU, s.cells, s.read⟩ else s) x.x.toNat s.slots[x.y.toNat]!).1, iv (gk (c5 ts (if vW ts[x.y.toNat]! = true then ⟨s.slots.set x.y.toNat hU, s.cells, s.read⟩ else s) x.x.toNat s.slots[x.y.toNat]!).2)]) := by
 have hcl := pR s x.y.toNat (by omega) (by omega)
 have hp1 := lS ts ⟨s.slots.set x.y.toNat hU, s.cells, s.read⟩ x.x.toNat s.slots[x.y.toNat]! hm (by show _ < (s.slots.set x.y.toNat hU).length;rw [List.length_set]; omega) (by omega) (by show (s.slots.set x.y.toNat hU).length ≤ _; rw [List.length_set]; omega)
 have hp2 := lS ts s x.x.toNat s.slots[x.y.toNat]! hm (by omega) (by omega) (by omega)
 rw [Int.toNat_of_nonneg hy.1] at hcl
 rw [Int.toNat_of_nonneg hx.1] at hp1 hp2
 (refine aS Tryz.func146 rfl (by simp [Tryz.ntmps146]) ?_; rw [Tryz.ntmps146])
 repeat' (first|(apply aL;first|((with_reducible apply aJ (k := 143));(case ha => rfl);(case h => exact hcl);(case hp => (exact Pur.pf));(case hN => rfl))|((with_reducible apply aJ (k := 144));(case ha => rfl);(case h => first|exact hp1|exact hp2);(case hp => (exact Pur.pf));(case hN => rfl))|(apply aE;rfl;rfl)|(first|(apply aN;rfl;rfl;rfl;rfl)|(apply aV;rfl;rfl;(first|exact (rfl:_=[_, _, _])|exact (rfl:_=[_, _, _, _]));rfl;rfl;rfl))|(apply aD;rfl;rfl;rfl)|(first|(apply a8;rfl;rfl;rfl;(assumption))|(apply bC;rfl;rfl;rfl;(assumption))|(apply bR;(case hj|hb|hN => rfl);all_goals (intro hg;have hq := hg;(try simp only [cJ] at hq);(try (exfalso;omega)))))|(apply aU;rfl;rfl;rfl;rfl)|(apply aC;rfl;rfl)|(first|(apply bY;rfl;(assumption);rfl;rfl)|(apply bQ;rfl;(assumption);rfl;rfl))|(apply cL;(case hx|hi => rfl);(case hm => (first|assumption|omega));(case hml => (rfl));(case hα | hf|hg => infer_instance);(case hN => rfl))|(apply aF;kernel_rfl)|(apply bH;rfl;rfl;rfl;rfl)|(apply a6;rfl;rfl)|(apply bD;rfl;rfl;rfl)|(apply aW;rfl;rfl;rfl;rfl;rfl;(case hl => (simp;done));(first|exact (rfl:_=[_, _, _])|exact (rfl:_=[_, _, _, _]))))|(apply aM;first|apply aH|apply aB|(apply cB;rfl;(rfl))|(apply aQ;rfl;all_goals intro hc;have hq:=hc;(try simp only [cJ] at hq);try exfalso;omega)|apply aT|apply aR)|with_reducible apply aA)
 ·refine aO (l := [hG (c5 ts ⟨s.slots.set x.y.toNat hU, s.cells, s.read⟩ x.x.toNat s.slots[x.y.toNat]!).1, iv (gk (c5 ts ⟨s.slots.set x.y.toNat hU, s.cells, s.read⟩ x.x.toNat s.slots[x.y.toNat]!).2)]) rfl ⟨?_, by (exact Pur.pf)⟩
  rw [if_pos (JI (.inr (by assumption)))]; rfl
 ·refine aO (l := [hG (c5 ts s x.x.toNat s.slots[x.y.toNat]!).1, iv (gk (c5 ts s x.x.toNat s.slots[x.y.toNat]!).2)]) rfl ⟨?_, by (exact Pur.pf)⟩
  rw [if_neg (Me (by assumption) (by assumption))]; rfl
 ·refine aO (l := [hG (c5 ts ⟨s.slots.set x.y.toNat hU, s.cells, s.read⟩ x.x.toNat s.slots[x.y.toNat]!).1, iv (gk (c5 ts ⟨s.slots.set x.y.toNat hU, s.cells, s.read⟩ x.x.toNat s.slots[x.y.toNat]!).2)]) rfl ⟨?_, by (exact Pur.pf)⟩
  rw [if_pos (JI (.inl (by assumption)))]; rfl
theorem GZ (ts : List Int) (s : Mc) (x : Pnt) (u : Bool) (hu : u = decide (x.op = 5)) (hm : OkM s.cells) (hsl : s.slots.length = ts.length) (hx : 0 ≤ x.x ∧ x.x < ts.length) (hy : 0 ≤ x.y ∧ x.y < ts.length) (hl : ts.length ≤ 1000000) : PC Tryz.prog 147 [sl cI ts, hG s, fQ x] (fun r => r = if kY s.cells s.slots[x.y.toNat]!.ptr u = 0 then
  .tup [hG (c5 ts ⟨s.slots, kA s.cells s.slots[x.y.toNat]!.ptr u, s.read⟩ x.x.toNat ⟨true, 0, oB s.cells s.slots[x.y.toNat]!.ptr u⟩).1, iv (gk (c5 ts ⟨s.slots, kA s.cells s.slots[x.y.toNat]!.ptr u, s.read⟩ x.x.toNat ⟨true, 0, oB s.cells s.slots[x.y.toNat]!.ptr u⟩).2)]
  else .tup [hG s, iv (fB (kY s.cells s.slots[x.y.toNat]!.ptr u))]) := by
 have hsh := x4 s.cells hm s.slots[x.y.toNat]!.ptr
 have hbo := vB s.cells hm s.slots[x.y.toNat]!.ptr
 have hp1 := lS ts ⟨s.slots, kA s.cells s.slots[x.y.toNat]!.ptr false, s.read⟩ x.x.toNat ⟨true, 0, oB s.cells s.slots[x.y.toNat]!.ptr false⟩ (hm.ln _ _) (by show _ < s.slots.length;omega) (by omega) (by show s.slots.length ≤ _; omega)
 have hp2 := lS ts ⟨s.slots, kA s.cells s.slots[x.y.toNat]!.ptr true, s.read⟩ x.x.toNat ⟨true, 0, oB s.cells s.slots[x.y.toNat]!.ptr true⟩ (hm.ln _ _) (by show _ < s.slots.length;omega) (by omega) (by show s.slots.length ≤ _; omega)
 rw [Int.toNat_of_nonneg hx.1] at hp1 hp2
 (refine aS Tryz.func147 rfl (by simp [Tryz.ntmps147]) ?_; rw [Tryz.ntmps147])
 repeat' (first|(apply aL;first|((with_reducible apply aJ (k := 193));(case ha => rfl);(case h => exact hsh);(case hp => (exact Pur.pf));(case hN => rfl))|((with_reducible apply aJ (k := 194));(case ha => rfl);(case h => exact hbo);(case hp => (exact Pur.pf));(case hN => rfl))|((with_reducible apply aJ (k := 144) (avs := [sl cI ts, hG ⟨s.slots, kA s.cells s.slots[x.y.toNat]!.ptr false, s.read⟩, iv x.x, Gi ⟨true, 0, oB s.cells s.slots[x.y.toNat]!.ptr false⟩]));(case ha => rfl);(case h => exact hp1);(case hp => (exact Pur.pf));(case hN => rfl))|((with_reducible apply aJ (k := 144) (avs := [sl cI ts, hG ⟨s.slots, kA s.cells s.slots[x.y.toNat]!.ptr true, s.read⟩, iv x.x, Gi ⟨true, 0, oB s.cells s.slots[x.y.toNat]!.ptr true⟩]));(case ha => rfl);(case h => exact hp2);(case hp => (exact Pur.pf));(case hN => rfl))|(apply aE;rfl;rfl)|(first|(apply aN;rfl;rfl;rfl;rfl)|(apply aV;rfl;rfl;(first|exact (rfl:_=[_, _])|exact (rfl:_=[_, _, _]));rfl;rfl;rfl))|(apply aD;rfl;rfl;rfl)|(apply aU;rfl;rfl;rfl;rfl)|(apply aC;rfl;rfl)|(apply cL;(case hx|hi => rfl);(case hm => (omega));(case hml => (rfl));(case hα | hf|hg => infer_instance);(case hN => rfl))|((with_reducible apply aJ (k := 142));(case ha => rfl);(case h => (apply lE <;> (fail)));(case hp => (rfl));(case hN => rfl))|(apply aF;kernel_rfl)|(apply b8;rfl;(exact (rfl:_=some [_, _, _, _]));(exact (rfl:_=[_, _, _, _]));rfl)|(apply bH;rfl;rfl;rfl;rfl)|(apply a6;rfl;rfl)|(apply bD;rfl;rfl;rfl)|(apply aW;rfl;rfl;rfl;rfl;rfl;(case hl => (simp;done));(first|exact (rfl:_=[_, _])|exact (rfl:_=[_, _, _]))))|(apply aM;first|apply aH|apply aB|(apply bV;kernel_rfl)|(apply aQ;rfl;all_goals intro hc;have hq:=hc;(try simp only [cJ] at hq);try exfalso;omega)|apply aT|apply aR)|with_reducible apply aA|with_reducible apply bG)
 ·have hk : ¬ kY s.cells s.slots[x.y.toNat]!.ptr true = 0 := by assumption
  have hu2 : u = true := by rw [hu]; exact decide_eq_true (by assumption)
  subst hu2
  refine aO (l := [.agg [sl eG s.slots, sl c6 (kA s.cells s.slots[x.y.toNat]!.ptr true), sl cI s.read], iv (if kY s.cells s.slots[x.y.toNat]!.ptr true = 1 then 3 else if kY s.cells s.slots[x.y.toNat]!.ptr true = 0 then 0 else 4)]) rfl ?_
  rw [xL hk, if_neg hk, Jx hk]
  exact ⟨rfl, by (exact Pur.pf)⟩
 ·have hk : kY s.cells s.slots[x.y.toNat]!.ptr true = 0 := by assumption
  have hu2 : u = true := by rw [hu]; exact decide_eq_true (by assumption)
  subst hu2
  refine aO (l := [hG (c5 ts ⟨s.slots, kA s.cells s.slots[x.y.toNat]!.ptr true, s.read⟩ x.x.toNat ⟨true, 0, oB s.cells s.slots[x.y.toNat]!.ptr true⟩).1, iv (gk (c5 ts ⟨s.slots, kA s.cells s.slots[x.y.toNat]!.ptr true, s.read⟩ x.x.toNat ⟨true, 0, oB s.cells s.slots[x.y.toNat]!.ptr true⟩).2)]) rfl ⟨?_, by (exact Pur.pf)⟩
  rw [if_pos hk]; rfl
 ·have hk : ¬ kY s.cells s.slots[x.y.toNat]!.ptr false = 0 := by assumption
  have hu2 : u = false := by rw [hu]; exact decide_eq_false (by assumption)
  subst hu2
  refine aO (l := [.agg [sl eG s.slots, sl c6 (kA s.cells s.slots[x.y.toNat]!.ptr false), sl cI s.read], iv (if kY s.cells s.slots[x.y.toNat]!.ptr false = 1 then 3 else if kY s.cells s.slots[x.y.toNat]!.ptr false = 0 then 0 else 4)]) rfl ?_
  rw [xL hk, if_neg hk, Jx hk]
  exact ⟨rfl, by (exact Pur.pf)⟩
 ·have hk : kY s.cells s.slots[x.y.toNat]!.ptr false = 0 := by assumption
  have hu2 : u = false := by rw [hu]; exact decide_eq_false (by assumption)
  subst hu2
  refine aO (l := [hG (c5 ts ⟨s.slots, kA s.cells s.slots[x.y.toNat]!.ptr false, s.read⟩ x.x.toNat ⟨true, 0, oB s.cells s.slots[x.y.toNat]!.ptr false⟩).1, iv (gk (c5 ts ⟨s.slots, kA s.cells s.slots[x.y.toNat]!.ptr false, s.read⟩ x.x.toNat ⟨true, 0, oB s.cells s.slots[x.y.toNat]!.ptr false⟩).2)]) rfl ⟨?_, by (exact Pur.pf)⟩
  rw [if_pos hk]; rfl
theorem JQ (ts : List Int) (s : Mc) (x : Pnt) (ho : x.op = 1) (hm : OkM s.cells) (hsl : s.slots.length = ts.length) (hx : 0 ≤ x.x ∧ x.x < ts.length) (hl : ts.length ≤ 1000000) : PC Tryz.prog 91 [sl cI ts, hG s, fQ x] (fun r => r = .tup [hG (dA ts s x).1, iv (gk (dA ts s x).2)]) := by
 have hp := lS ts s x.x.toNat ⟨true, x.n, ⟨0, 0⟩⟩ hm (by omega) (by omega) (by omega)
 rw [Int.toNat_of_nonneg hx.1] at hp
 have hd : dA ts s x = c5 ts s x.x.toNat ⟨true, x.n, ⟨0, 0⟩⟩ := by unfold dA;rw [if_pos ho]
 rw [hd]
 (refine aS Tryz.func91 rfl (by simp [Tryz.ntmps91]) ?_; rw [Tryz.ntmps91])
 repeat' (first|(apply aL;first|((with_reducible apply aJ (k := 144) (avs := [sl cI ts, hG s, iv x.x, Gi ⟨true, x.n, ⟨0, 0⟩⟩]));(case ha => rfl);(case h => exact hp);(case hp => (exact Pur.pf));(case hN => rfl))|(apply aE;rfl;rfl)|(first|(apply aN;rfl;rfl;rfl;rfl)|(apply aV;rfl;rfl;(exact (rfl:_=[_, _, _]));rfl;rfl;rfl))|(apply aD;rfl;rfl;rfl)|(apply aU;rfl;rfl;rfl;rfl)|(apply aC;rfl;rfl)|(apply aF;kernel_rfl)|(apply b8;rfl;(exact (rfl:_=some [_, _, _, _]));(exact (rfl:_=[_, _, _, _]));rfl)|(apply bH;rfl;rfl;rfl;rfl)|(apply a6;rfl;rfl)|(apply bD;rfl;rfl;rfl)|(apply aW;rfl;rfl;rfl;rfl;rfl;(case hl => (simp;done));(exact (rfl:_=[_, _, _]))))|(apply aM;first|apply aH|apply aB|(apply aQ;rfl;all_goals intro hc;have hq:=hc;(try simp only [cJ] at hq);try exfalso;omega)|apply aK|apply aR)|with_reducible apply aA|with_reducible apply bG|with_reducible apply cP)
 exact aO (l := [hG (c5 ts s x.x.toNat ⟨true, x.n, ⟨0, 0⟩⟩).1, iv (gk (c5 ts s x.x.toNat ⟨true, x.n, ⟨0, 0⟩⟩).2)]) rfl ⟨rfl, by (exact Pur.pf)⟩
theorem Ke (ts : List Int) (s : Mc) (x : Pnt) (ho : x.op = 2) (hm : OkM s.cells) (hsl : s.slots.length = ts.length) (hx : 0 ≤ x.x ∧ x.x < ts.length) (hn : 0 ≤ x.n ∧ x.n ≤ 9) (hl : ts.length ≤ 1000000) : PC Tryz.prog 91 [sl cI ts, hG s, fQ x] (fun r => r = .tup [hG (dA ts s x).1, iv (gk (dA ts s x).2)]) := by
 have hml := hm.l
 have hnc := Cg s.cells hm x.n
 by_cases h2 : s.cells.length = 200
 ·rw [if_neg (by omega)] at hnc
  have hd : dA ts s x = (s, 1) := by unfold dA;rw [if_neg (by omega), if_pos ho, if_pos h2]
  rw [hd]
  (refine aS Tryz.func91 rfl (by simp [Tryz.ntmps91]) ?_; rw [Tryz.ntmps91])
  repeat' (first|(apply aL;first|((with_reducible apply aJ (k := 145));(case ha => rfl);(case h => exact hnc);(case hp => (exact Pur.pf));(case hN => rfl))|(apply aE;rfl;rfl)|(first|(apply aN;rfl;rfl;rfl;rfl)|(apply aV;rfl;rfl;(exact (rfl:_=[_, _, _]));rfl;rfl;rfl))|(apply aD;rfl;rfl;rfl)|(apply aU;rfl;rfl;rfl;rfl)|(apply aC;rfl;rfl)|(apply aF;kernel_rfl)|(apply cF;rfl;rfl)|(apply bH;rfl;rfl;rfl;rfl)|(apply a6;rfl;rfl)|(apply bD;rfl;rfl;rfl)|(apply aW;rfl;rfl;rfl;rfl;rfl;(case hl => (first|decide|(simp;done)));(first|exact (rfl:_=[_, _])|exact (rfl:_=[_, _, _]))))|(apply aM;first|apply aH|apply aB|(apply cB;rfl;(rfl))|(apply aQ;rfl;all_goals intro hc;have hq:=hc;(try simp only [cJ] at hq);try exfalso;omega)|apply aK|apply aR)|with_reducible apply aA|with_reducible apply bG|with_reducible apply cP)
  exact aO (l := [hG s, iv 1]) rfl ⟨rfl, by (exact Pur.pf)⟩
 ·rw [if_pos (by omega)] at hnc
  have hp := lS ts ⟨s.slots, s.cells ++ [n7 x.n], s.read⟩ x.x.toNat ⟨true, 0, ⟨s.cells.length, 0⟩⟩ (hm.nw hn (by omega)) (by show _ < s.slots.length;omega) (by omega) (by show s.slots.length ≤ _; omega)
  rw [Int.toNat_of_nonneg hx.1] at hp
  have hd : dA ts s x = c5 ts ⟨s.slots, s.cells ++ [n7 x.n], s.read⟩ x.x.toNat ⟨true, 0, ⟨s.cells.length, 0⟩⟩ := by unfold dA;rw [if_neg (by omega), if_pos ho, if_neg h2]
  rw [hd]
  (refine aS Tryz.func91 rfl (by simp [Tryz.ntmps91]) ?_; rw [Tryz.ntmps91])
  repeat' (first|(apply aL;first|((with_reducible apply aJ (k := 145));(case ha => rfl);(case h => exact hnc);(case hp => (exact Pur.pf));(case hN => rfl))|((with_reducible apply aJ (k := 144) (avs := [sl cI ts, hG ⟨s.slots, s.cells ++ [n7 x.n], s.read⟩, iv x.x, Gi ⟨true, 0, ⟨s.cells.length, 0⟩⟩]));(case ha => rfl);(case h => exact hp);(case hp => (exact Pur.pf));(case hN => rfl))|(apply aE;rfl;rfl)|(first|(apply aN;rfl;rfl;rfl;rfl)|(apply aV;rfl;rfl;(first|exact (rfl:_=[_, _])|exact (rfl:_=[_, _, _]));rfl;rfl;rfl))|(apply aD;rfl;rfl;rfl)|(apply aU;rfl;rfl;rfl;rfl)|(apply aC;rfl;rfl)|(apply aF;kernel_rfl)|(apply b8;rfl;(exact (rfl:_=some [_, _, _, _]));(exact (rfl:_=[_, _, _, _]));rfl)|(apply cF;rfl;rfl)|(apply bH;rfl;rfl;rfl;rfl)|(apply a6;rfl;rfl)|(apply bD;rfl;rfl;rfl)|(apply aW;rfl;rfl;rfl;rfl;rfl;(case hl => (simp;done));(first|exact (rfl:_=[_, _])|exact (rfl:_=[_, _, _]))))|(apply aM;first|apply aH|apply aB|(apply cG;rfl;(rfl))|(apply aQ;rfl;all_goals intro hc;have hq:=hc;(try simp only [cJ] at hq);try exfalso;omega)|apply aK|apply aT|apply aR)|with_reducible apply aA|with_reducible apply bG|with_reducible apply cP)
  exact aO (l := [hG (c5 ts ⟨s.slots, s.cells ++ [n7 x.n], s.read⟩ x.x.toNat ⟨true, 0, ⟨s.cells.length, 0⟩⟩).1, iv (gk (c5 ts ⟨s.slots, s.cells ++ [n7 x.n], s.read⟩ x.x.toNat ⟨true, 0, ⟨s.cells.length, 0⟩⟩).2)]) rfl ⟨rfl, by (exact Pur.pf)⟩
theorem KF (ts : List Int) (s : Mc) (x : Pnt) (ho : x.op = 3) (hm : OkM s.cells) (hsl : s.slots.length = ts.length) (hx : 0 ≤ x.x ∧ x.x < ts.length) (hy : 0 ≤ x.y ∧ x.y < ts.length) (hl : ts.length ≤ 1000000) : PC Tryz.prog 91 [sl cI ts, hG s, fQ x] (fun r => r = .tup [hG (dA ts s x).1, iv (gk (dA ts s x).2)]) := by
 have hmv := F6 ts s x hm hsl hx hy hl
 have hd : dA ts s x = c5 ts (if vW ts[x.y.toNat]! = true then ⟨s.slots.set x.y.toNat hU, s.cells, s.read⟩ else s) x.x.toNat s.slots[x.y.toNat]! := by unfold dA;rw [if_neg (by omega), if_neg (by omega), if_pos ho]
 rw [← hd] at hmv
 (refine aS Tryz.func91 rfl (by simp [Tryz.ntmps91]) ?_; rw [Tryz.ntmps91])
 repeat' (first|(apply aL;first|((with_reducible apply aJ (k := 146));(case ha => rfl);(case h => exact hmv);(case hp => (exact Pur.pf));(case hN => rfl))|(apply aE;rfl;rfl)|(first|(apply aN;rfl;rfl;rfl;rfl)|(apply aV;rfl;rfl;(first|exact (rfl:_=[_, _, _])|exact (rfl:_=[_, _, _, _, _]));rfl;rfl;rfl))|(apply aD;rfl;rfl;rfl)|(apply aU;rfl;rfl;rfl;rfl)|(apply aC;rfl;rfl)|(apply aF;kernel_rfl)|(apply bH;rfl;rfl;rfl;rfl)|(apply a6;rfl;rfl)|(apply bD;rfl;rfl;rfl)|(apply aW;rfl;rfl;rfl;rfl;rfl;(case hl => (simp;done));(exact (rfl:_=[_, _, _]))))|(apply aM;first|apply aH|apply aB|(apply aQ;rfl;all_goals intro hc;have hq:=hc;(try simp only [cJ] at hq);try exfalso;omega)|apply aK|apply aR)|with_reducible apply aA|with_reducible apply bG|with_reducible apply cP)
 exact aO (l := [hG (dA ts s x).1, iv (gk (dA ts s x).2)]) rfl ⟨rfl, by (exact Pur.pf)⟩
theorem IE (ts : List Int) (s : Mc) (x : Pnt) (ho : x.op = 4 ∨ x.op = 5) (hm : OkM s.cells) (hsl : s.slots.length = ts.length) (hx : 0 ≤ x.x ∧ x.x < ts.length) (hy : 0 ≤ x.y ∧ x.y < ts.length) (hl : ts.length ≤ 1000000) : PC Tryz.prog 91 [sl cI ts, hG s, fQ x] (fun r => r = .tup [hG (dA ts s x).1, iv (gk (dA ts s x).2)]) := by
 have hmk := GZ ts s x (decide (x.op = 5)) rfl hm hsl hx hy hl
 have h0 : dA ts s x = (if kY s.cells s.slots[x.y.toNat]!.ptr (decide (x.op = 5)) = 0 then c5 ts ⟨s.slots, kA s.cells s.slots[x.y.toNat]!.ptr (decide (x.op = 5)), s.read⟩ x.x.toNat ⟨true, 0, oB s.cells s.slots[x.y.toNat]!.ptr (decide (x.op = 5))⟩
   else (s, fB (kY s.cells s.slots[x.y.toNat]!.ptr (decide (x.op = 5))))) := by
  unfold dA;rw [if_neg (show ¬ x.op = 1 by omega), if_neg (show ¬ x.op = 2 by omega), if_neg (show ¬ x.op = 3 by omega), if_pos ho]
 have hd : ∀ r, (r = if kY s.cells s.slots[x.y.toNat]!.ptr (decide (x.op = 5)) = 0 then
   AV.tup [hG (c5 ts ⟨s.slots, kA s.cells s.slots[x.y.toNat]!.ptr (decide (x.op = 5)), s.read⟩ x.x.toNat ⟨true, 0, oB s.cells s.slots[x.y.toNat]!.ptr (decide (x.op = 5))⟩).1, iv (gk (c5 ts ⟨s.slots, kA s.cells s.slots[x.y.toNat]!.ptr (decide (x.op = 5)), s.read⟩ x.x.toNat ⟨true, 0, oB s.cells s.slots[x.y.toNat]!.ptr (decide (x.op = 5))⟩).2)]
   else AV.tup [hG s, iv (fB (kY s.cells s.slots[x.y.toNat]!.ptr (decide (x.op = 5))))]) = (r = AV.tup [hG (dA ts s x).1, iv (gk (dA ts s x).2)]) := by
  intro r
  rw [h0]
  by_cases hk : kY s.cells s.slots[x.y.toNat]!.ptr (decide (x.op = 5)) = 0
  ·rw [if_pos hk, if_pos hk]
  ·rw [if_neg hk, if_neg hk]
   have : ∀ k, gk (fB k) = fB k := fun k => by unfold gk fB;split <;> rfl
   dsimp only
   rw [this]
 simp only [hd] at hmk
 (refine aS Tryz.func91 rfl (by simp [Tryz.ntmps91]) ?_; rw [Tryz.ntmps91])
 repeat' (first|(apply aL;first|((with_reducible apply aJ (k := 147));(case ha => rfl);(case h => exact hmk);(case hp => (exact Pur.pf));(case hN => rfl))|(apply aE;rfl;rfl)|(first|(apply aN;rfl;rfl;rfl;rfl)|(apply aV;rfl;rfl;(first|exact (rfl:_=[_, _, _])|exact (rfl:_=[_, _, _, _, _]));rfl;rfl;rfl))|(apply aD;rfl;rfl;rfl)|(apply aU;rfl;rfl;rfl;rfl)|(apply aC;rfl;rfl)|(apply aF;kernel_rfl)|(apply bH;rfl;rfl;rfl;rfl)|(apply a6;rfl;rfl)|(apply bD;rfl;rfl;rfl)|(apply aW;rfl;rfl;rfl;rfl;rfl;(case hl => (simp;done));(exact (rfl:_=[_, _, _]))))|(apply aM;first|apply aH|apply aB|(apply cB;rfl;(assumption))|(apply aQ;rfl;all_goals intro hc;have hq:=hc;(try simp only [cJ] at hq);try exfalso;omega)|apply aK|apply aT|apply aR)|with_reducible apply aA|with_reducible apply bG|with_reducible apply cP)
 all_goals exact aO (l := [hG (dA ts s x).1, iv (gk (dA ts s x).2)]) rfl ⟨rfl, by (exact Pur.pf)⟩
theorem JZ (ts : List Int) (s : Mc) (x : Pnt) (ho : x.op = 6) (hm : OkM s.cells) (hsl : s.slots.length = ts.length) (hx : 0 ≤ x.x ∧ x.x < ts.length) (hy : 0 ≤ x.y ∧ x.y < ts.length) (hl : ts.length ≤ 1000000) (hrl : s.read.length ≤ 1000000) : PC Tryz.prog 91 [sl cI ts, hG s, fQ x] (fun r => r = .tup [hG (dA ts s x).1, iv (gk (dA ts s x).2)]) := by
 have hrd := qL s.cells hm s.slots[x.y.toNat]!.ptr
 have h0 : dA ts s x = (if cK s.cells s.slots[x.y.toNat]!.ptr false = 0 then c5 ts ⟨s.slots, dU s.cells s.slots[x.y.toNat]!.ptr false, s.read ++ [nL s.cells s.slots[x.y.toNat]!.ptr]⟩ x.x.toNat ⟨true, nL s.cells s.slots[x.y.toNat]!.ptr, ⟨0, 0⟩⟩
   else (s, fB (cK s.cells s.slots[x.y.toNat]!.ptr false))) := by
  unfold dA;rw [if_neg (show ¬ x.op = 1 by omega), if_neg (show ¬ x.op = 2 by omega), if_neg (show ¬ x.op = 3 by omega), if_neg (show ¬ (x.op = 4 ∨ x.op = 5) by omega), if_pos ho]
 have hp := lS ts ⟨s.slots, dU s.cells s.slots[x.y.toNat]!.ptr false, s.read ++ [nL s.cells s.slots[x.y.toNat]!.ptr]⟩ x.x.toNat ⟨true, nL s.cells s.slots[x.y.toNat]!.ptr, ⟨0, 0⟩⟩ (hm.tch _ _) (by show _ < s.slots.length;omega) (by omega) (by show s.slots.length ≤ _; omega)
 rw [Int.toNat_of_nonneg hx.1] at hp
 by_cases hk : cK s.cells s.slots[x.y.toNat]!.ptr false = 0
 ·rw [if_pos hk] at h0
  rw [h0]
  (refine aS Tryz.func91 rfl (by simp [Tryz.ntmps91]) ?_; rw [Tryz.ntmps91])
  repeat' (first|(apply aL;first|((with_reducible apply aJ (k := 148));(case ha => rfl);(case h => exact hrd);(case hp => (exact Pur.pf));(case hN => rfl))|(with_reducible apply cV (d := 105))|(apply aE;rfl;rfl)|(first|(apply aN;rfl;rfl;rfl;rfl)|(apply aV;rfl;rfl;(exact (rfl:_=[_, _]));rfl;rfl;rfl))|(apply aD;rfl;rfl;rfl)|(apply aU;rfl;rfl;rfl;rfl)|(apply aC;rfl;rfl)|(apply cL;(case hx|hi => rfl);(case hm => (omega));(case hml => (rfl));(case hα | hf|hg => infer_instance);(case hN => rfl))|(apply bW;rfl;rfl;rfl;rfl;rfl;(case hl => first|(rw [aP]; omega)|(simp [aP]; done));(first|rfl|exact iQ (by (rfl)));omega;omega;(first|exact eY (by (omega))|exact gD (by (omega)));rfl;rfl)|(apply aF;kernel_rfl)|(apply bH;rfl;rfl;rfl;rfl)|(apply a6;rfl;rfl)|(apply bD;rfl;rfl;rfl)|(apply bZ;rfl;rfl;rfl;(first|exact (rfl:_=some [_])|rfl);rfl;rfl)|(apply aW;rfl;rfl;rfl;rfl;rfl;(case hl => (simp;done));(exact (rfl:_=[_, _, _]))))|(apply aM;first|apply aH|apply aB|(apply bV;kernel_rfl)|(apply aQ;rfl;all_goals intro hc;have hq:=hc;(try simp only [cJ] at hq);try exfalso;omega)|apply aK|apply aT)|with_reducible apply aA)
  refine dX (jM ?_ (Le.frzC (j := 0) (i := 6) [sl eG s.slots, sl c6 (dU s.cells s.slots[x.y.toNat]!.ptr false)] (m := 0 + s.read.length + 1) (d := aI cI (s.read ++ [nL s.cells s.slots[x.y.toNat]!.ptr])) rfl rfl (by decide)))
  have e : AV.imm (0 + s.read.length + 1) (aI cI (s.read ++ [nL s.cells s.slots[x.y.toNat]!.ptr])) = sl cI (s.read ++ [nL s.cells s.slots[x.y.toNat]!.ptr]) := fU (by rw [Nat.zero_add, List.length_append]; rfl)
  rw [e]
  repeat' (first|(apply aL;first|((with_reducible apply aJ (k := 144) (avs := [sl cI ts, hG ⟨s.slots, dU s.cells s.slots[x.y.toNat]!.ptr false, s.read ++ [nL s.cells s.slots[x.y.toNat]!.ptr]⟩, iv x.x, Gi ⟨true, nL s.cells s.slots[x.y.toNat]!.ptr, ⟨0, 0⟩⟩]));(case ha => rfl);(case h => exact hp);(case hp => (exact Pur.pf));(case hN => rfl))|(apply aE;rfl;rfl)|(first|(apply aN;rfl;rfl;rfl;rfl)|(apply aV;rfl;rfl;(exact (rfl:_=[_, _, _]));rfl;rfl;rfl))|(apply aD;rfl;rfl;rfl)|(apply aC;rfl;rfl)|(apply aF;kernel_rfl)|(apply b8;rfl;(exact (rfl:_=some [_, _, _, _]));(exact (rfl:_=[_, _, _, _]));rfl)|(apply bD;rfl;rfl;rfl)|(apply aW;rfl;rfl;rfl;rfl;rfl;(case hl => (simp;done));(exact (rfl:_=[_, _, _]))))|(apply aM;(apply aR))|with_reducible apply aA|with_reducible apply bG|with_reducible apply cP)
  exact aO (l := [hG (c5 ts ⟨s.slots, dU s.cells s.slots[x.y.toNat]!.ptr false, s.read ++ [nL s.cells s.slots[x.y.toNat]!.ptr]⟩ x.x.toNat ⟨true, nL s.cells s.slots[x.y.toNat]!.ptr, ⟨0, 0⟩⟩).1, iv (gk (c5 ts ⟨s.slots, dU s.cells s.slots[x.y.toNat]!.ptr false, s.read ++ [nL s.cells s.slots[x.y.toNat]!.ptr]⟩ x.x.toNat ⟨true, nL s.cells s.slots[x.y.toNat]!.ptr, ⟨0, 0⟩⟩).2)]) rfl ⟨rfl, by (exact Pur.pf)⟩
 ·rw [if_neg hk] at h0
  rw [h0]
  have e4 : dU s.cells s.slots[x.y.toNat]!.ptr false = s.cells := by unfold dU;rw [if_neg hk]
  rw [e4] at hrd
  (refine aS Tryz.func91 rfl (by simp [Tryz.ntmps91]) ?_; rw [Tryz.ntmps91])
  repeat' (first|(apply aL;first|((with_reducible apply aJ (k := 148));(case ha => rfl);(case h => exact hrd);(case hp => (exact Pur.pf));(case hN => rfl))|(apply aE;rfl;rfl)|(first|(apply aN;rfl;rfl;rfl;rfl)|(apply aV;rfl;rfl;(first|exact (rfl:_=[_, _])|exact (rfl:_=[_, _, _]));rfl;rfl;rfl))|(apply aD;rfl;rfl;rfl)|(apply aU;rfl;rfl;rfl;rfl)|(apply aC;rfl;rfl)|(apply cL;(case hx|hi => rfl);(case hm => (omega));(case hml => (rfl));(case hα | hf|hg => infer_instance);(case hN => rfl))|((with_reducible apply aJ (k := 142));(case ha => rfl);(case h => (apply lE <;> (fail)));(case hp => (rfl));(case hN => rfl))|(apply aF;kernel_rfl)|(apply bH;rfl;rfl;rfl;rfl)|(apply a6;rfl;rfl)|(apply bD;rfl;rfl;rfl)|(apply aW;rfl;rfl;rfl;rfl;rfl;(case hl => (simp;done));(exact (rfl:_=[_, _, _]))))|(apply aM;first|apply aH|apply aB|(apply bV;kernel_rfl)|(apply aQ;rfl;all_goals intro hc;have hq:=hc;(try simp only [cJ] at hq);try exfalso;omega)|apply aK|apply aR)|with_reducible apply aA|with_reducible apply bG|with_reducible apply cP)
  refine aO (l := [hG s, iv (if cK s.cells s.slots[x.y.toNat]!.ptr false = 1 then 3 else if cK s.cells s.slots[x.y.toNat]!.ptr false = 0 then 0 else 4)]) rfl ?_
  rw [xL hk]
  have : ∀ k, gk (fB k) = fB k := fun k => by unfold gk fB;split <;> rfl
  dsimp only
  rw [this]
  exact ⟨rfl, by (exact Pur.pf)⟩
theorem KG (ts : List Int) (s : Mc) (x : Pnt) (ho : x.op = 7) (hm : OkM s.cells) (hsl : s.slots.length = ts.length) (hx : 0 ≤ x.x ∧ x.x < ts.length) (hy : 0 ≤ x.y ∧ x.y < ts.length) (hl : ts.length ≤ 1000000) : PC Tryz.prog 91 [sl cI ts, hG s, fQ x] (fun r => r = .tup [hG (dA ts s x).1, iv (gk (dA ts s x).2)]) := by
 have hwr := yN s.cells hm s.slots[x.x.toNat]!.ptr s.slots[x.y.toNat]!.num
 have h0 : dA ts s x = (⟨s.slots, nT s.cells s.slots[x.x.toNat]!.ptr s.slots[x.y.toNat]!.num, s.read⟩, kH (oO s.cells s.slots[x.x.toNat]!.ptr s.slots[x.y.toNat]!.num)) := by
  unfold dA;rw [if_neg (show ¬ x.op = 1 by omega), if_neg (show ¬ x.op = 2 by omega), if_neg (show ¬ x.op = 3 by omega), if_neg (show ¬ (x.op = 4 ∨ x.op = 5) by omega), if_neg (show ¬ x.op = 6 by omega), if_pos ho]
 rw [h0]
 (refine aS Tryz.func91 rfl (by simp [Tryz.ntmps91]) ?_; rw [Tryz.ntmps91])
 repeat' (first|(apply aL;first|((with_reducible apply aJ (k := 149));(case ha => rfl);(case h => exact hwr);(case hp => (exact Pur.pf));(case hN => rfl))|(apply aE;rfl;rfl)|(first|(apply aN;rfl;rfl;rfl;rfl)|(apply aV;rfl;rfl;(first|exact (rfl:_=[_, _])|exact (rfl:_=[_, _, _]));rfl;rfl;rfl))|(apply aD;rfl;rfl;rfl)|(apply aU;rfl;rfl;rfl;rfl)|(apply aC;rfl;rfl)|(apply cL;(case hx|hi => rfl);(case hm => (omega));(case hml => (rfl));(case hα | hf|hg => infer_instance);(case hN => rfl))|((with_reducible apply aJ (k := 142));(case ha => rfl);(case h => (apply lE <;> (fail)));(case hp => (rfl));(case hN => rfl))|(apply aF;kernel_rfl)|(apply bH;rfl;rfl;rfl;rfl)|(apply a6;rfl;rfl)|(apply bD;rfl;rfl;rfl)|(apply aW;rfl;rfl;rfl;rfl;rfl;(case hl => (simp;done));(exact (rfl:_=[_, _, _]))))|(apply aM;first|apply aH|apply aB|(apply bV;kernel_rfl)|(apply aQ;rfl;all_goals intro hc;have hq:=hc;(try simp only [cJ] at hq);try exfalso;omega)|apply aK|apply aR)|with_reducible apply aA|with_reducible apply bG|with_reducible apply cP)
 refine aO (l := [hG ⟨s.slots, nT s.cells s.slots[x.x.toNat]!.ptr s.slots[x.y.toNat]!.num, s.read⟩, iv (if oO s.cells s.slots[x.x.toNat]!.ptr s.slots[x.y.toNat]!.num = 1 then 3 else if oO s.cells s.slots[x.x.toNat]!.ptr s.slots[x.y.toNat]!.num = 0 then 0 else 4)]) rfl ?_
 rw [← Hk]
 exact ⟨rfl, by (exact Pur.pf)⟩
theorem KR (ts : List Int) (s : Mc) (x : Pnt) (ho : x.op = 8) (hm : OkM s.cells) (hsl : s.slots.length = ts.length) (hx : 0 ≤ x.x ∧ x.x < ts.length) (hl : ts.length ≤ 1000000) : PC Tryz.prog 91 [sl cI ts, hG s, fQ x] (fun r => r = .tup [hG (dA ts s x).1, iv (gk (dA ts s x).2)]) := by
 have hfr := mI s.cells hm s.slots[x.x.toNat]!.ptr
 have hcl := pR ⟨s.slots, iL s.cells s.slots[x.x.toNat]!.ptr, s.read⟩ x.x.toNat (by show _ < s.slots.length;omega) (by show s.slots.length ≤ _; omega)
 rw [Int.toNat_of_nonneg hx.1] at hcl
 have h0 : dA ts s x = (⟨s.slots.set x.x.toNat hU, iL s.cells s.slots[x.x.toNat]!.ptr, s.read⟩, kH (cK s.cells s.slots[x.x.toNat]!.ptr true)) := by
  unfold dA;rw [if_neg (show ¬ x.op = 1 by omega), if_neg (show ¬ x.op = 2 by omega), if_neg (show ¬ x.op = 3 by omega), if_neg (show ¬ (x.op = 4 ∨ x.op = 5) by omega), if_neg (show ¬ x.op = 6 by omega), if_neg (show ¬ x.op = 7 by omega), if_pos ho]
 rw [h0]
 (refine aS Tryz.func91 rfl (by simp [Tryz.ntmps91]) ?_; rw [Tryz.ntmps91])
 repeat' (first|(apply aL;first|((with_reducible apply aJ (k := 141));(case ha => rfl);(case h => exact hfr);(case hp => (exact Pur.pf));(case hN => rfl))|((with_reducible apply aJ (k := 143));(case ha => rfl);(case h => exact hcl);(case hp => (exact Pur.pf));(case hN => rfl))|(apply aE;rfl;rfl)|(first|(apply aN;rfl;rfl;rfl;rfl)|(apply aV;rfl;rfl;(first|exact (rfl:_=[_, _])|exact (rfl:_=[_, _, _]));rfl;rfl;rfl))|(apply aD;rfl;rfl;rfl)|(apply aU;rfl;rfl;rfl;rfl)|(apply aC;rfl;rfl)|(apply cL;(case hx|hi => rfl);(case hm => (omega));(case hml => (rfl));(case hα | hf|hg => infer_instance);(case hN => rfl))|((with_reducible apply aJ (k := 142));(case ha => rfl);(case h => (apply lE <;> (fail)));(case hp => (rfl));(case hN => rfl))|(apply aF;kernel_rfl)|(apply bH;rfl;rfl;rfl;rfl)|(apply a6;rfl;rfl)|(apply bD;rfl;rfl;rfl)|(apply aW;rfl;rfl;rfl;rfl;rfl;(case hl => (simp;done));(exact (rfl:_=[_, _, _]))))|(apply aM;first|apply aH|apply aB|(apply bV;kernel_rfl)|(apply aQ;rfl;all_goals intro hc;have hq:=hc;(try simp only [cJ] at hq);try exfalso;omega)|apply aK|apply aR)|with_reducible apply aA|with_reducible apply bG|with_reducible apply cP)
 refine aO (l := [hG ⟨s.slots.set x.x.toNat hU, iL s.cells s.slots[x.x.toNat]!.ptr, s.read⟩, iv (if cK s.cells s.slots[x.x.toNat]!.ptr true = 1 then 3 else if cK s.cells s.slots[x.x.toNat]!.ptr true = 0 then 0 else 4)]) rfl ?_
 rw [← Hk]
 exact ⟨rfl, by (exact Pur.pf)⟩
def K5 (s : Mc) (x : Pnt) : Bool :=
 if x.op = 3 ∨ x.op = 4 ∨ x.op = 5 ∨ x.op = 6 then !s.slots[x.y.toNat]!.set
 else if x.op = 7 then !s.slots[x.x.toNat]!.set || !s.slots[x.y.toNat]!.set
 else if x.op = 8 then !s.slots[x.x.toNat]!.set else false
theorem D8 (s : Mc) (x : Pnt) (hx : (x.op = 7 ∨ x.op = 8) → 0 ≤ x.x ∧ x.x < s.slots.length) (hy : (x.op = 3 ∨ x.op = 4 ∨ x.op = 5 ∨ x.op = 6 ∨ x.op = 7) → 0 ≤ x.y ∧ x.y < s.slots.length) : PC Tryz.prog 90 [fQ x, hG s] (fun r => r = bv (K5 s x)) := by
 (refine aS Tryz.func90 rfl (by simp [Tryz.ntmps90]) ?_; rw [Tryz.ntmps90])
 repeat' (first|(apply aL;first|(apply aE;rfl;rfl)|(apply aN;rfl;rfl;rfl;rfl)|(apply aD;rfl;rfl;rfl)|(first|(apply a8;rfl;rfl;rfl;(assumption))|(apply bC;rfl;rfl;rfl;(assumption))|(apply bR;(case hj|hb|hN => rfl);all_goals (intro hg;have hq := hg;(try simp only [cJ] at hq);(try (exfalso;omega)))))|(apply aU;rfl;rfl;rfl;rfl)|(apply aC;rfl;rfl)|(first|(apply bY;rfl;(assumption);rfl;rfl)|(apply bQ;rfl;(assumption);rfl;rfl))|(apply cL;(case hx|hi => rfl);(case hm => (omega));(case hml => (rfl));(case hα | hf|hg => infer_instance);(case hN => rfl))|(apply aF;kernel_rfl)|(apply cF;rfl;rfl)|(apply bH;rfl;rfl;rfl;rfl))|(apply aM;first|apply aH|apply aB|(apply cB;rfl;(assumption))|(apply aQ;rfl;all_goals intro hc;have hq:=hc;(try simp only [cJ] at hq);try exfalso;omega)|apply aK|apply aT|apply aR)|with_reducible apply aA|with_reducible apply bG|with_reducible apply aX|with_reducible apply cP)
 all_goals (refine aO rfl ⟨?_, rfl⟩; simp only [b0, AV.v.injEq, Value.bool.injEq]; unfold K5;grind)
theorem xT {ts : List Int} {n v : Nat} {q : Mc} (h : ¬ (ts[v]! = 2 ∧ q.slots[v]!.set = true)) : dP ts (n + 1) v q = dP ts n (v + 1) q := by
 rw [dP, if_neg h]
theorem E3 {ts : List Int} {n v : Nat} {q : Mc} (h : ts[v]! = 2 ∧ q.slots[v]!.set = true) (hk : cK q.cells q.slots[v]!.ptr true = 0) : dP ts (n + 1) v q = dP ts n (v + 1) ⟨q.slots.set v hU, iL q.cells q.slots[v]!.ptr, q.read⟩ := by
 rw [dP, if_pos h, if_pos hk]
theorem Hc {ts : List Int} {n v : Nat} {q : Mc} (h : ts[v]! = 2 ∧ q.slots[v]!.set = true) (hk : ¬ cK q.cells q.slots[v]!.ptr true = 0) : dP ts (n + 1) v q = (⟨q.slots, iL q.cells q.slots[v]!.ptr, q.read⟩, fB (cK q.cells q.slots[v]!.ptr true)) := by
 rw [dP, if_pos h, if_neg hk]
theorem It (ts : List Int) (s : Mc) (hm : OkM s.cells) (hsl : s.slots.length = ts.length) (hl : ts.length ≤ 1000000) : PC Tryz.prog 89 [sl cI ts, hG s] (fun r => r = .tup [hG (dP ts ts.length 0 s).1, iv (dP ts ts.length 0 s).2]) := by
 (refine aS Tryz.func89 rfl (by simp [Tryz.ntmps89]) ?_; rw [Tryz.ntmps89])
 repeat' (first|(apply aL;first|(apply aC;rfl;rfl)|(apply aF;kernel_rfl)|(apply bH;rfl;rfl;rfl;rfl)|(apply a6;rfl;rfl))|(apply aM;first|apply aH|apply aB|apply aK)|with_reducible apply aA)
 refine bB (σ := Nat × Mc) [0, 3, 4] [(0, _), (3, _), (4, _)] [1] [(1, some _)] (fun k => [(6, iv (k.1 : Int))]) (fun k => [(0, some [sl eG k.2.slots, sl c6 k.2.cells, sl cI k.2.read])]) (fun k => k.1 ≤ ts.length ∧ dP ts (ts.length - k.1) k.1 k.2 = dP ts ts.length 0 s ∧ OkM k.2.cells ∧ k.2.slots.length = ts.length) (fun k => ts.length - k.1) (0, s) ⟨Nat.zero_le _, rfl, hm, hsl⟩ rfl rfl (by repeat' (first|exact trivial|refine And.intro rfl ?_)) (by repeat' (first|exact trivial|refine And.intro (.inr rfl) ?_)) ?_
 rintro ⟨v, q⟩ ⟨hv, hf, hmq, hlq⟩
 dsimp only at hv hf hmq hlq ⊢
 have hfr := mI q.cells hmq q.slots[v]!.ptr
 have hcl := fun h => pR ⟨q.slots, iL q.cells q.slots[v]!.ptr, q.read⟩ v h (by show q.slots.length ≤ _; omega)
 repeat' (first|(apply aL;first|((with_reducible apply aJ (k := 141));(case ha => rfl);(case h => exact hfr);(case hp => (exact Pur.pf));(case hN => rfl))|((with_reducible apply aJ (k := 143));(case ha => rfl);(case h => exact hcl (by show v < q.slots.length;omega));(case hp => (exact Pur.pf));(case hN => rfl))|(apply aE;rfl;rfl)|(first|(apply aN;rfl;rfl;rfl;rfl)|(apply aV;rfl;rfl;(first|exact (rfl:_=[_, _])|exact (rfl:_=[_, _, _]));rfl;rfl;rfl))|(apply aD;rfl;rfl;rfl)|(first|(apply a8;rfl;rfl;rfl;(assumption))|(apply bC;rfl;rfl;rfl;(assumption))|(apply bR;(case hj|hb|hN => rfl);all_goals (intro hg;have hq := hg;(try simp only [cJ] at hq);(try (exfalso;omega)))))|(first|(apply bS;rfl;rfl;omega;rfl)|(apply aU;rfl;rfl;rfl;rfl))|(apply aC;rfl;rfl)|(first|(apply bY;rfl;(assumption);rfl;rfl)|(apply bQ;rfl;(assumption);rfl;rfl))|(apply a7;(case hx|hi => rfl);(case hm => (omega));(case hml => (rfl));(case hα | hf|hg => infer_instance);(case hN => rfl))|((with_reducible apply aJ (k := 142));(case ha => rfl);(case h => (apply lE <;> (fail)));(case hp => (rfl));(case hN => rfl))|(apply bI;rfl;rfl;rfl)|(apply aF;kernel_rfl)|(apply cF;rfl;rfl)|(apply bD;rfl;rfl;rfl)|(apply aW;rfl;rfl;rfl;rfl;rfl;(case hl => (simp;done));(exact (rfl:_=[_, _, _]))))|(apply aM;first|apply aH|apply aB|(apply bV;kernel_rfl)|(apply cB;rfl;(rfl))|(apply aQ;rfl;all_goals intro hc;have hq:=hc;(try simp only [cJ] at hq);try exfalso;omega)|apply aK|apply aT|apply bK|apply aR)|with_reducible apply aA|with_reducible apply bG|with_reducible apply bJ|with_reducible apply aX|with_reducible apply cP|with_reducible apply bO)
 ·(apply dK (v + 1, q); focus (refine Le.ren [(0, 0), (1, 1)] rfl (by decide) ?_ ?_ <;> repeat' (first | exact trivial | refine And.intro ⟨_, rfl, ?_⟩ ?_ | refine And.intro ⟨_, _, rfl, rfl, ?_⟩ ?_ | exact Or.inr rfl | refine Or.inl ⟨?_, (by first | rfl | exact aY _ _ | exact Pur.pf)⟩ | rfl)))
  ·refine ⟨by omega, ?_, hmq, hlq⟩
   dsimp only
   rw [← hf, show ts.length - v = (ts.length - (v + 1)) + 1 by omega, xT (fun h => by
    have h2 : q.slots[v]!.set = false := by assumption
    rw [h2] at h;exact absurd h.2 (by decide))]
  ·dsimp only;omega
 ·have hk : ¬ cK q.cells q.slots[v]!.ptr true = 0 := by assumption
  have hq2 : dP ts ts.length 0 s = (⟨q.slots, iL q.cells q.slots[v]!.ptr, q.read⟩, fB (cK q.cells q.slots[v]!.ptr true)) := by
   rw [← hf, show ts.length - v = (ts.length - (v + 1)) + 1 by omega, Hc ⟨by assumption, by assumption⟩ hk]
  rw [hq2]
  refine aO (l := [hG ⟨q.slots, iL q.cells q.slots[v]!.ptr, q.read⟩, iv (if cK q.cells q.slots[v]!.ptr true = 1 then 3 else if cK q.cells q.slots[v]!.ptr true = 0 then 0 else 4)]) rfl ?_
  rw [xL hk]
  exact ⟨rfl, by (exact Pur.pf)⟩
 ·(apply dK (v + 1, ⟨q.slots.set v hU, iL q.cells q.slots[v]!.ptr, q.read⟩); focus (refine Le.ren [(0, 0), (1, 1)] rfl (by decide) ?_ ?_ <;> repeat' (first | exact trivial | refine And.intro ⟨_, rfl, ?_⟩ ?_ | refine And.intro ⟨_, _, rfl, rfl, ?_⟩ ?_ | exact Or.inr rfl | refine Or.inl ⟨?_, (by first | rfl | exact aY _ _ | exact Pur.pf)⟩ | rfl)))
  ·refine ⟨by omega, ?_, hmq.fr _, by show (q.slots.set v hU).length = _; rw [List.length_set]; exact hlq⟩
   dsimp only
   rw [← hf, show ts.length - v = (ts.length - (v + 1)) + 1 by omega, E3 ⟨by assumption, by assumption⟩ (by assumption)]
  ·dsimp only;omega
 ·(apply dK (v + 1, q); focus (refine Le.ren [(0, 0), (1, 1)] rfl (by decide) ?_ ?_ <;> repeat' (first | exact trivial | refine And.intro ⟨_, rfl, ?_⟩ ?_ | refine And.intro ⟨_, _, rfl, rfl, ?_⟩ ?_ | exact Or.inr rfl | refine Or.inl ⟨?_, (by first | rfl | exact aY _ _ | exact Pur.pf)⟩ | rfl)))
  ·refine ⟨by omega, ?_, hmq, hlq⟩
   dsimp only
   rw [← hf, show ts.length - v = (ts.length - (v + 1)) + 1 by omega, xT (fun h => by
    have h2 : ¬ ts[v]! = 2 := by assumption
    exact h2 h.1)]
  ·dsimp only;omega
 ·have hve : v = ts.length := by omega
  have hq2 : dP ts ts.length 0 s = (q, 0) := by rw [← hf, hve, Nat.sub_self]; rfl
  rw [hq2]
  exact aO (l := [hG q, iv 0]) rfl ⟨rfl, by (exact Pur.pf)⟩
theorem xM (p : Prg) (hl : p.types.length ≤ 1000000) (hs : bX p.body ≤ 1000000) : PC Tryz.prog 116 [dF p] (fun r => r = sl dV (if cS p = true then dC p else [])) := by
 have hval := pH p hl (by omega)
 have h2 := tX p hs
 (refine aS Tryz.func116 rfl (by simp [Tryz.ntmps116]) ?_; rw [Tryz.ntmps116])
 repeat' (first|(apply aL;first|((with_reducible apply aJ (k := 87));(case ha => rfl);(case h => exact hval);(case hp => (exact Pur.pf));(case hN => rfl))|((with_reducible apply aJ (k := 60));(case ha => rfl);(case h => exact h2);(case hp => (exact Pur.pf));(case hN => rfl))|(apply aV;rfl;rfl;(exact (rfl:_=[_, _]));rfl;rfl;rfl)|(apply aC;rfl;rfl)|(apply aF;kernel_rfl)|(apply cF;rfl;rfl)|(apply bH;rfl;rfl;rfl;rfl)|((apply bE (t := _));(case hze|hsm|hl => rfl);(case hfl => (rfl));(case hM|hN => rfl)))|(apply aM;first|apply aH|apply aB|(apply aQ;rfl;all_goals intro hc;have hq:=hc;(try simp only [cJ] at hq);try exfalso;omega)|apply aT|apply aR)|with_reducible apply aA|with_reducible apply bG)
 ·refine aO rfl ⟨?_, (by (rfl))⟩
  rw [if_neg (by simp [hq])]; rfl
 ·refine aO rfl ⟨?_, (by (exact aY _ _))⟩
  rw [if_pos hq]; rfl
def wm (pts : List Pnt) (n a : Nat) (cs : List Int) : List Int × Bool := ((eJ pts n a cs).1.map (fun a : Nat => (a : Int)), (eJ pts n a cs).2)
theorem GK {pts : List Pnt} {n a : Nat} {cs : List Int} (h : pts[a]!.op = 11) : wm pts n a cs = ([(a : Int)], true) := by
 have e : eJ pts n a cs = ([a], true) := by cases n <;> (unfold eJ;rw [if_pos h])
 unfold wm;rw [e]; rfl
theorem GG {pts : List Pnt} {a : Nat} {cs : List Int} (h : ¬ pts[a]!.op = 11) : wm pts 0 a cs = ([], false) := by
 have e : eJ pts 0 a cs = ([], false) := by unfold eJ;rw [if_neg h]
 unfold wm;rw [e]; rfl
theorem L3 {pts : List Pnt} {n a : Nat} {cs : List Int} (h : ¬ pts[a]!.op = 11) : wm pts (n + 1) a cs = ((a : Int) :: (wm pts n (iI pts a cs).1 (iI pts a cs).2).1, (wm pts n (iI pts a cs).1 (iI pts a cs).2).2) := by
 unfold wm;rw [eJ, if_neg h]; rfl
theorem JG {pts : List Pnt} {a : Nat} {cs : List Int} (h : ¬ pts[a]!.next.length = 2) : iI pts a cs = ((pts[a]!.next[0]!).toNat, cs) := by
 unfold iI;rw [if_neg h]
theorem LC {pts : List Pnt} {a u : Nat} {cs : List Int} (h : pts[a]!.next.length = 2) (hu : cs.length ≤ u) : iI pts a (cs.drop u) = ((pts[a]!.next[1]!).toNat, cs.drop (u + 1)) := by
 unfold iI;rw [if_pos h, List.drop_eq_nil_of_le hu, List.drop_eq_nil_of_le (by omega)]
theorem Jz {pts : List Pnt} {a u : Nat} {cs : List Int} (h : pts[a]!.next.length = 2) (hu : u < cs.length) : iI pts a (cs.drop u) = ((pts[a]!.next[if cs[u]!.tmod 2 = 0 then 0 else 1]!).toNat, cs.drop (u + 1)) := by
 have e : (cs[u]! % 2).toNat = if cs[u]!.tmod 2 = 0 then 0 else 1 := by
  by_cases q : cs[u]!.tmod 2 = 0
  ·rw [if_pos q, Int.emod_eq_zero_of_dvd (Int.dvd_of_tmod_eq_zero q)]; rfl
  ·rw [if_neg q]
   have : ¬ cs[u]! % 2 = 0 := fun q2 => q (Int.tmod_eq_zero_of_dvd (Int.dvd_of_emod_eq_zero q2))
   omega
 have e2 : cs.drop u = cs[u]! :: cs.drop (u + 1) := by rw [List.drop_eq_getElem_cons hu, cT _ _ hu]
 unfold iI
 rw [if_pos h, e2]
 dsimp only
 rw [e]
theorem oL {pts : List Pnt} {n a : Nat} {out cs cs2 : List Int} {b : Nat} {q : List Int × Bool} (h : ¬ pts[a]!.op = 11) (ho : out.length < n) (hs : iI pts a cs = (b, cs2)) (hq : q = (out ++ (wm pts (n - out.length) a cs).1, (wm pts (n - out.length) a cs).2)) :
  q = ((out ++ [(a : Int)]) ++ (wm pts (n - (out ++ [(a : Int)]).length) b cs2).1, (wm pts (n - (out ++ [(a : Int)]).length) b cs2).2) := by
 rw [hq, show n - out.length = (n - (out.length + 1)) + 1 by omega, L3 h, hs, List.length_append, List.append_assoc]
 rfl
theorem B4 (p : Prg) (cs : List Int) (n : Nat) (hv : cS p = true) (hl : p.types.length ≤ 1000000) (hs : bX p.body ≤ 1000000) (hn : n ≤ 1000) (hcl : cs.length ≤ 1000000) : PC Tryz.prog 88 [dF p, sl cI cs, iv (n : Int)] (fun r => r = .tup [sl cI (wm (dC p) n 0 cs).1, bv (wm (dC p) n 0 cs).2]) := by
 have hpo := xM p hl hs
 rw [if_pos hv] at hpo
 have w := WG.of_valid hv
 have wa := WA.of_valid hv
 obtain ⟨pts, hpts⟩ : ∃ pts, pts = dC p := ⟨_, rfl⟩
 rw [← hpts] at hpo w wa ⊢
 have hpl := w.pl
 have hp0 := w.p0
 (refine aS Tryz.func88 rfl (by simp [Tryz.ntmps88]) ?_; rw [Tryz.ntmps88])
 repeat' (first|(apply aL;first|((with_reducible apply aJ (k := 116));(case ha => rfl);(case h => exact hpo);(case hp => (exact Pur.pf));(case hN => rfl))|(apply aE;rfl;rfl)|(apply aV;rfl;rfl;(exact (rfl:_=[_, _]));rfl;rfl;rfl)|(first|(apply a8;rfl;rfl;rfl;(first|rfl|assumption))|(apply bR;(case hj|hb|hN => rfl);all_goals (intro hg;have hq := hg;(try simp only [cJ] at hq);(try (exfalso;omega)))))|(apply aU;rfl;rfl;rfl;rfl)|(apply aC;rfl;rfl)|(apply bQ;rfl;(first|rfl|assumption);rfl;rfl)|(apply bI;rfl;rfl;rfl)|(apply aF;kernel_rfl)|(apply bH;rfl;rfl;rfl;rfl)|(apply bZ;rfl;rfl;rfl;(rfl);rfl;rfl))|(apply aM;first|apply aH|apply aB|(apply aQ;rfl;all_goals intro hc;have hq:=hc;(try simp only [cJ] at hq);try exfalso;omega)|apply aK|apply aT)|with_reducible apply aA)
 refine bB (σ := Int × Nat × List Int × Nat) [1, 2, 9] [(1, _), (2, _), (9, _)] [] [] (fun k => [(10, iv k.1), (11, iv (k.2.1 : Int)), (8, .own 1 0 k.2.2.2 1)]) (fun k => [(1, some (aI cI k.2.2.1))]) (fun k => (0 ≤ k.1 ∧ k.1 < pts.length) ∧ k.2.1 ≤ k.2.2.1.length ∧ k.2.2.1.length ≤ n ∧ k.2.2.2 = k.2.2.1.length ∧ wm pts n 0 cs = (k.2.2.1 ++ (wm pts (n - k.2.2.1.length) k.1.toNat (cs.drop k.2.1)).1, (wm pts (n - k.2.2.1.length) k.1.toNat (cs.drop k.2.1)).2)) (fun k => n + 1 - k.2.2.1.length) (0, 0, [], 0) ⟨⟨Int.le_refl _, by show (0 : Int) < _; omega⟩, Nat.le_refl _, Nat.zero_le _, rfl, rfl⟩ rfl rfl (by repeat' (first|exact trivial|refine And.intro rfl ?_)) (by repeat' (first|exact trivial|refine And.intro (.inr rfl) ?_)) ?_
 rintro ⟨a, u, out, m⟩ ⟨⟨ha0, ha⟩, hu, ho, hm, hw⟩
 dsimp only at ha0 ha hu ho hm hw ⊢
 have hat : (a.toNat : Int) = a := Int.toNat_of_nonneg ha0
 have hnx := w.nx a.toNat (by omega)
 have hnl := w.nl a.toNat (by omega)
 have hn1 := wa.n a.toNat (by omega)
 have hk : ∀ k, k < pts[a.toNat]!.next.length → 0 ≤ pts[a.toNat]!.next[k]! ∧ pts[a.toNat]!.next[k]! < pts.length := fun k h => hnx _ (cM _ _ h)
 repeat' (first|(apply aL;first|(apply aE;rfl;rfl)|(apply aN;rfl;rfl;rfl;rfl)|(apply aD;rfl;rfl;rfl)|(first|(apply a8;rfl;rfl;rfl;(assumption))|(apply bC;rfl;rfl;rfl;(assumption))|(apply bR;(case hj|hb|hN => rfl);all_goals (intro hg;have hq := hg;(try simp only [cJ] at hq);(try (exfalso;omega)))))|(first|(apply bS;rfl;rfl;omega;rfl)|(apply aU;rfl;rfl;rfl;rfl))|(apply aC;rfl;rfl)|(first|(apply bY;rfl;(assumption);rfl;rfl)|(apply bQ;rfl;(assumption);rfl;rfl))|(first|(apply a7;(case hx|hi => rfl);(case hm => (omega));(case hml => (rfl));(case hα | hf|hg => infer_instance);(case hN => rfl))|(apply cL;(case hx|hi => rfl);(case hm => (omega));(case hml => (rfl));(case hα | hf|hg => infer_instance);(case hN => rfl)))|(first|(apply bI;rfl;rfl;rfl)|(apply bW;rfl;rfl;rfl;rfl;rfl;(rw [aP]; omega);(rfl);omega;omega;(exact gD (by (assumption)));rfl;rfl))|(apply aF;kernel_rfl)|((apply bE (t := _));(case hze|hsm|hl => rfl);(case hfl => exact (rfl:_=some [_]));(case hM|hN => rfl)))|(apply aM;first|apply aH|apply aB|(apply cG;rfl;(rfl))|(apply aQ;rfl;all_goals intro hc;have hq:=hc;(try simp only [cJ] at hq);try exfalso;omega)|apply aK|apply aT|apply bK|apply aR)|with_reducible apply aA|with_reducible apply bG|with_reducible apply bJ|with_reducible apply aX|with_reducible apply cP|with_reducible apply bO)
 ·have hop : ¬ pts[a.toNat]!.op = 11 := by assumption
  have e : wm pts n 0 cs = (out, false) := by rw [hw, show n - out.length = 0 by omega, GG hop, List.append_nil]
  rw [e]
  (refine cD (Le.frzD (d := 6) (i := 1) rfl rfl) ?_; refine aO rfl ?_)
  refine ⟨?_, (by (exact Pur.pf))⟩
  simp only [b0, sl]
  rw [hm]
 ·have hop : ¬ pts[a.toNat]!.op = 11 := by assumption
  have hst := oL hop (by omega) ((Jz (by omega) (by omega)).trans (by rw [if_pos (by assumption)])) hw
  rw [hat] at hst
  have hk := hk 0 (by omega)
  (apply dK (pts[a.toNat]!.next[0]!, u + 1, _, _);focus (refine Le.ren [(1, 3)] rfl (by decide) ?_ ?_ <;> repeat' (first|exact trivial|refine And.intro ⟨_, rfl, ?_⟩ ?_|refine And.intro ⟨_, _, rfl, rfl, ?_⟩ ?_|exact Or.inr rfl|refine Or.inl ⟨?_, (by first|rfl|exact aY _ _)⟩|rfl)))
  ·refine ⟨hk, ?_, ?_, ?_, hst⟩ <;> (dsimp only;rw [List.length_append]; simp only [List.length_singleton]; omega)
  ·dsimp only;rw [List.length_append]; simp only [List.length_singleton]; omega
 ·have hop : ¬ pts[a.toNat]!.op = 11 := by assumption
  have hst := oL hop (by omega) ((Jz (by omega) (by omega)).trans (by rw [if_neg (by assumption)])) hw
  rw [hat] at hst
  have hk := hk 1 (by omega)
  (apply dK (pts[a.toNat]!.next[1]!, u + 1, _, _);focus (refine Le.ren [(1, 3)] rfl (by decide) ?_ ?_ <;> repeat' (first|exact trivial|refine And.intro ⟨_, rfl, ?_⟩ ?_|refine And.intro ⟨_, _, rfl, rfl, ?_⟩ ?_|exact Or.inr rfl|refine Or.inl ⟨?_, (by first|rfl|exact aY _ _)⟩|rfl)))
  ·refine ⟨hk, ?_, ?_, ?_, hst⟩ <;> (dsimp only;rw [List.length_append]; simp only [List.length_singleton]; omega)
  ·dsimp only;rw [List.length_append]; simp only [List.length_singleton]; omega
 ·have hop : ¬ pts[a.toNat]!.op = 11 := by assumption
  have hst := oL hop (by omega) (LC (by omega) (by omega)) hw
  rw [hat] at hst
  have hk := hk 1 (by omega)
  (apply dK (pts[a.toNat]!.next[1]!, u + 1, _, _);focus (refine Le.ren [(1, 3)] rfl (by decide) ?_ ?_ <;> repeat' (first|exact trivial|refine And.intro ⟨_, rfl, ?_⟩ ?_|refine And.intro ⟨_, _, rfl, rfl, ?_⟩ ?_|exact Or.inr rfl|refine Or.inl ⟨?_, (by first|rfl|exact aY _ _)⟩|rfl)))
  ·refine ⟨hk, ?_, ?_, ?_, hst⟩ <;> (dsimp only;rw [List.length_append]; simp only [List.length_singleton]; omega)
  ·dsimp only;rw [List.length_append]; simp only [List.length_singleton]; omega
 ·have hop : ¬ pts[a.toNat]!.op = 11 := by assumption
  have hst := oL hop (by omega) (JG (by omega)) hw
  rw [hat] at hst
  have hk := hk 0 (by omega)
  (apply dK (pts[a.toNat]!.next[0]!, u, _, _);focus (refine Le.ren [(1, 3)] rfl (by decide) ?_ ?_ <;> repeat' (first|exact trivial|refine And.intro ⟨_, rfl, ?_⟩ ?_|refine And.intro ⟨_, _, rfl, rfl, ?_⟩ ?_|exact Or.inr rfl|refine Or.inl ⟨?_, (by first|rfl|exact aY _ _)⟩|rfl)))
  ·refine ⟨hk, ?_, ?_, ?_, hst⟩ <;> (dsimp only;rw [List.length_append]; simp only [List.length_singleton]; omega)
  ·dsimp only;rw [List.length_append]; simp only [List.length_singleton]; omega
 ·have hop : pts[a.toNat]!.op = 11 := by assumption
  have e : wm pts n 0 cs = (out ++ [a], true) := by rw [hw, GK hop, hat]
  rw [e]
  (refine cD (Le.frzD (d := 6) (i := 3) rfl rfl) ?_; refine aO rfl ?_)
  refine ⟨?_, (by (exact Pur.pf))⟩
  simp only [b0, sl]
  rw [hm, List.length_append]; rfl
theorem Ku {ts : List Int} {s : Mc} {x : Pnt} (hx : (x.op = 7 ∨ x.op = 8) → 0 ≤ x.x ∧ x.x < ts.length) (hy : (x.op = 3 ∨ x.op = 4 ∨ x.op = 5 ∨ x.op = 6 ∨ x.op = 7) → 0 ≤ x.y ∧ x.y < ts.length) : K5 s x = dI ts s x := by
 have hX : ∀ v : Nat, (v : Int) = x.x → v = x.x.toNat := fun v h => by omega
 have hY : ∀ v : Nat, (v : Int) = x.y → v = x.y.toNat := fun v h => by omega
 cases hu : dI ts s x with
 | true =>
  obtain ⟨v, hv, hne, hs⟩ := sJ hu
  unfold cC at hne
  unfold K5
  by_cases h3 : x.op = 3
  ·rw [if_pos h3] at hne
   by_cases e : (v : Int) = x.y
   ·rw [if_pos (.inl h3), ← hY v e, hs]; rfl
   ·rw [if_neg e] at hne;exact absurd rfl hne
  ·rw [if_neg h3] at hne
   by_cases h4 : x.op = 4 ∨ x.op = 5 ∨ x.op = 6
   ·rw [if_pos h4] at hne
    by_cases e : (v : Int) = x.y
    ·rw [if_pos (by omega), ← hY v e, hs]; rfl
    ·rw [if_neg e] at hne;exact absurd rfl hne
   ·rw [if_neg h4] at hne
    rw [if_neg (by omega)]
    by_cases h7 : x.op = 7
    ·rw [if_pos h7] at hne ⊢
     by_cases e : (v : Int) = x.x
     ·rw [← hX v e, hs]; rfl
     ·rw [if_neg e] at hne
      by_cases e2 : (v : Int) = x.y
      ·rw [← hY v e2, hs]; simp
      ·rw [if_neg e2] at hne;exact absurd rfl hne
    ·rw [if_neg h7] at hne ⊢
     by_cases h8 : x.op = 8
     ·rw [if_pos h8] at hne ⊢
      by_cases e : (v : Int) = x.x
      ·rw [← hX v e, hs]; rfl
      ·rw [if_neg e] at hne;exact absurd rfl hne
     ·rw [if_neg h8] at hne;exact absurd rfl hne
 | false =>
  have hS : ∀ v : Nat, v < ts.length → cC ts x v ≠ 0 → s.slots[v]!.set = true := fun v hv h => iS hu hv h
  unfold K5
  by_cases h3 : x.op = 3
  ·have := hy (.inl h3)
   rw [if_pos (.inl h3), hS x.y.toNat (by omega) (by unfold cC;rw [if_pos h3, if_pos (by omega)]; split <;> decide)]; rfl
  ·by_cases h4 : x.op = 4 ∨ x.op = 5 ∨ x.op = 6
   ·have := hy (by omega)
    rw [if_pos (by omega), hS x.y.toNat (by omega) (by unfold cC;rw [if_neg h3, if_pos h4, if_pos (by omega)]; decide)]; rfl
   ·rw [if_neg (by omega)]
    by_cases h7 : x.op = 7
    ·have hy7 := hy (by omega)
     have hx7 := hx (.inl h7)
     rw [if_pos h7, hS x.x.toNat (by omega) (by unfold cC; rw [if_neg h3, if_neg h4, if_pos h7, if_pos (by omega)]; decide),
      hS x.y.toNat (by omega) (by unfold cC;rw [if_neg h3, if_neg h4, if_pos h7]; split;decide;rw [if_pos (by omega)]; decide)]; rfl
    ·rw [if_neg h7]
     by_cases h8 : x.op = 8
     ·have hx8 := hx (.inr h8)
      rw [if_pos h8, hS x.x.toNat (by omega) (by unfold cC;rw [if_neg h3, if_neg h4, if_neg h7, if_pos h8, if_pos (by omega)]; decide)]; rfl
     ·rw [if_neg h8]
theorem Ct (k : Int) : kH k ≠ 0 := by
 unfold kH fB;split
 ·decide
 ·split <;> decide
theorem C9 (k : Int) : fB k ≠ 0 := by unfold fB; split <;> decide
theorem o7 {ts : List Int} {s : Mc} {v : Nat} {y : Sl} : (c5 ts s v y).2 ≠ 0 := by
 unfold c5;split
 ·exact Ct _
 ·show (-1 : Int) ≠ 0;decide
theorem Lr {ts : List Int} {s : Mc} {x : Pnt} (h : x.op ≠ 11) : (dA ts s x).2 ≠ 0 := by
 unfold dA
 split
 ·exact o7
 split
 ·split
  ·show (1 : Int) ≠ 0;decide
  ·exact o7
 split
 ·exact o7
 split
 ·split
  ·exact o7
  ·exact C9 _
 split
 ·split
  ·exact o7
  ·exact C9 _
 split
 ·exact Ct _
 split
 ·exact Ct _
 show (-1 : Int) ≠ 0;decide
theorem Mk {ts : List Int} {s : Mc} {x : Pnt} (h : x.op ≠ 11) : gk (dA ts s x).2 = 0 ↔ (dA ts s x).2 = -1 := by
 have := Lr (ts := ts) (s := s) h
 unfold gk;split
 ·simp [*]
 ·constructor <;> (intro q;contradiction)
theorem La (ts : List Int) (s : Mc) (x : Pnt) (ho : x.op = 9 ∨ x.op = 10) : PC Tryz.prog 91 [sl cI ts, hG s, fQ x] (fun r => r = .tup [hG (dA ts s x).1, iv (gk (dA ts s x).2)]) := by
 have h0 : dA ts s x = (s, -1) := by
  unfold dA;rw [if_neg (show ¬ x.op = 1 by omega), if_neg (show ¬ x.op = 2 by omega), if_neg (show ¬ x.op = 3 by omega), if_neg (show ¬ (x.op = 4 ∨ x.op = 5) by omega), if_neg (show ¬ x.op = 6 by omega), if_neg (show ¬ x.op = 7 by omega), if_neg (show ¬ x.op = 8 by omega), if_neg (show ¬ x.op = 11 by omega)]
 rw [h0]
 (refine aS Tryz.func91 rfl (by simp [Tryz.ntmps91]) ?_; rw [Tryz.ntmps91])
 repeat' (first|(apply aL;first|(first|(apply aN;rfl;rfl;rfl;rfl)|(apply aV;rfl;rfl;(exact (rfl:_=[_, _, _]));rfl;rfl;rfl))|(apply aD;rfl;rfl;rfl)|(apply aU;rfl;rfl;rfl;rfl)|(apply aC;rfl;rfl)|(apply aF;kernel_rfl)|(apply bH;rfl;rfl;rfl;rfl)|(apply a6;rfl;rfl)|(apply aW;rfl;rfl;rfl;rfl;rfl;(case hl => (simp;done));(exact (rfl:_=[_, _, _]))))|(apply aM;first|apply aH|apply aB|(apply aQ;rfl;all_goals intro hc;have hq:=hc;(try simp only [cJ] at hq);try exfalso;omega)|apply aK|apply aT|apply aR)|with_reducible apply aA|with_reducible apply aX)
 exact aO (l := [hG s, iv 0]) rfl ⟨rfl, by (exact Pur.pf)⟩
theorem Kd (ts : List Int) (s : Mc) (x : Pnt) (h11 : x.op ≠ 11) (hop : 1 ≤ x.op ∧ x.op ≤ 11) (hm : OkM s.cells) (hsl : s.slots.length = ts.length) (hx : x.op ≤ 8 → 0 ≤ x.x ∧ x.x < ts.length) (hy : 3 ≤ x.op → x.op ≤ 7 → 0 ≤ x.y ∧ x.y < ts.length) (hn : x.op = 2 → 0 ≤ x.n ∧ x.n ≤ 9) (hl : ts.length ≤ 1000000) (hrl : s.read.length ≤ 1000000) : PC Tryz.prog 91 [sl cI ts, hG s, fQ x] (fun r => r = .tup [hG (dA ts s x).1, iv (gk (dA ts s x).2)]) := by
 by_cases h1 : x.op = 1
 ·exact JQ ts s x h1 hm hsl (hx (by omega)) hl
 by_cases h2 : x.op = 2
 ·exact Ke ts s x h2 hm hsl (hx (by omega)) (hn h2) hl
 by_cases h3 : x.op = 3
 ·exact KF ts s x h3 hm hsl (hx (by omega)) (hy (by omega) (by omega)) hl
 by_cases h4 : x.op = 4 ∨ x.op = 5
 ·exact IE ts s x h4 hm hsl (hx (by omega)) (hy (by omega) (by omega)) hl
 by_cases h6 : x.op = 6
 ·exact JZ ts s x h6 hm hsl (hx (by omega)) (hy (by omega) (by omega)) hl hrl
 by_cases h7 : x.op = 7
 ·exact KG ts s x h7 hm hsl (hx (by omega)) (hy (by omega) (by omega)) hl
 by_cases h8 : x.op = 8
 ·exact KR ts s x h8 hm hsl (hx (by omega)) hl
 ·exact La ts s x (by omega)
theorem k9 {ts : List Int} {s : Mc} {v : Nat} {y : Sl} : (c5 ts s v y).1.read = s.read := by unfold c5; split <;> rfl
theorem Ad {ts : List Int} {s : Mc} {x : Pnt} (h : x.op ≠ 11) : (dA ts s x).1.read.length ≤ s.read.length + 1 := by
 unfold dA
 split
 ·rw [k9]; omega
 split
 ·split
  ·dsimp only;omega
  ·rw [k9]; dsimp only;omega
 split
 ·rw [k9]; split <;> (first|omega|(dsimp only;omega))
 split
 ·split
  ·rw [k9]; dsimp only;omega
  ·dsimp only;omega
 split
 ·split
  ·rw [k9]; dsimp only;rw [List.length_append]; simp only [List.length_singleton]; omega
  ·dsimp only;omega
 split
 ·dsimp only;omega
 split
 ·dsimp only;omega
 dsimp only;omega
theorem C4 (pts : List Pnt) : ∀ n a cs, (eJ pts n a cs).2 = true → ∃ l b, (eJ pts n a cs).1 = l ++ [b] ∧ pts[b]!.op = 11
 | 0, a, cs, h => by
  unfold eJ at h ⊢
  by_cases e : pts[a]!.op = 11
  ·rw [if_pos e]; exact ⟨[], a, rfl, e⟩
  ·rw [if_neg e] at h;exact absurd h (by decide)
 | n + 1, a, cs, h => by
  rw [eJ] at h ⊢
  by_cases e : pts[a]!.op = 11
  ·rw [if_pos e]; exact ⟨[], a, rfl, e⟩
  ·rw [if_neg e] at h ⊢
   obtain ⟨l, b, h1, h2⟩ := C4 pts n _ _ h
   exact ⟨a :: l, b, by dsimp only;rw [h1]; rfl, h2⟩
theorem K0 {s : Mc} {x : Pnt} (h : x.op = 11) : K5 s x = false := by
 unfold K5;rw [if_neg (by omega), if_neg (by omega), if_neg (by omega)]
theorem HD (p : Prg) (cs : List Int) (n : Nat) (hv : cS p = true) (hl : p.types.length ≤ 1000000) (hs : bX p.body ≤ 1000000) (hn : n ≤ 150) (hcl : cs.length ≤ 1000000) (hL : ∀ a ∈ (eJ (dC p) n 0 cs).1, a < (dC p).length) (hLl : (eJ (dC p) n 0 cs).1.length ≤ 151) : PC Tryz.prog 43 [dF p, sl cI cs, iv (n : Int)] (fun r => r = .tup [hG (eR p.types (dC p) cs n).1, iv (eR p.types (dC p) cs n).2.1, iv (eR p.types (dC p) cs n).2.2]) := by
 have hpo := tX p hs
 have hru := B4 p cs n hv hl hs (by omega) hcl
 have w := WG.of_valid hv
 have wa := WA.of_valid hv
 obtain ⟨q, hq⟩ : ∃ q, q = eR p.types (dC p) cs n := ⟨_, rfl⟩
 rw [← hq]
 unfold eR at hq
 unfold wm at hru
 obtain ⟨L, hLe⟩ : ∃ L, L = (eJ (dC p) n 0 cs).1 := ⟨_, rfl⟩
 obtain ⟨dn, hdn⟩ : ∃ dn, dn = (eJ (dC p) n 0 cs).2 := ⟨_, rfl⟩
 rw [← hLe, ← hdn] at hru
 rw [← hLe] at hq hL hLl
 have hgx : ∀ i, i < L.length → (L.map (fun a : Nat => (a : Int)))[i]! = (L[i]! : Int) := fun i h => by rw [cT _ _ (by rw [List.length_map]; exact h), List.getElem_map, cT _ _ h]
 have hml : (L.map (fun a : Nat => (a : Int))).length = L.length := List.length_map _
 generalize (L.map (fun a : Nat => (a : Int))) = LI at *
 generalize hP : dC p = pts at *
 have e1 : AV.imm p.types.length ((List.replicate p.types.length ([Value.bool false, Value.int .i64 0, Value.int .i64 0, Value.int .i64 0].map AV.v)).flatten) = sl eG (List.replicate p.types.length hU) := by
  rw [xQ (f := eG) (x := hU) (l := [Value.bool false, Value.int .i64 0, Value.int .i64 0, Value.int .i64 0].map AV.v) rfl]; exact fU (by simp)
 (refine aS Tryz.func43 rfl (by simp [Tryz.ntmps43]) ?_; rw [Tryz.ntmps43])
 repeat' (first|(apply aL;first|((with_reducible apply aJ (k := 60));(case ha => rfl);(case h => exact hpo);(case hp => (exact Pur.pf));(case hN => rfl))|(with_reducible apply cV (d := 27))|(first|(apply aN;rfl;rfl;rfl;rfl)|(apply aV;rfl;rfl;(exact (rfl:_=[_, _]));rfl;rfl;rfl))|(apply aD;rfl;rfl;rfl)|(apply aC;rfl;rfl)|(apply bI;rfl;rfl;rfl)|(apply aF;kernel_rfl)|(apply bH;rfl;rfl;rfl;rfl)|(apply a6;rfl;rfl)|((apply bE (t := _));(case hze|hsm|hl => rfl);(case hfl => (rfl));(case hM|hN => rfl))|(apply e7;rfl;rfl;rfl;omega;omega;(rfl);rfl;rfl))|(apply aM;first|apply aH|apply aB)|with_reducible apply aA)
 refine dX (jM ?_ (Le.frzD (d := 24) (i := 2) rfl rfl))
 rw [e1]
 repeat' (first|(apply aL;first|((with_reducible apply aJ (k := 88));(case ha => rfl);(case h => exact hru);(case hp => (exact Pur.pf));(case hN => rfl))|(apply aE;rfl;rfl)|(apply aV;rfl;rfl;(exact (rfl:_=[_, _]));rfl;rfl;rfl)|(apply aC;rfl;rfl)|(apply aF;kernel_rfl)|(apply b8;rfl;(exact (rfl:_=some [_, _, _]));(exact (rfl:_=[_, _, _]));rfl)|(apply a6;rfl;rfl)|(apply bD;rfl;rfl;rfl)|(apply aW;rfl;rfl;rfl;rfl;rfl;(case hl => (simp;done));(exact (rfl:_=[_, _, _]))))|(apply aM;first|apply aH|apply aB|apply aK)|with_reducible apply aA)
 refine bB (σ := Nat × Mc) [3, 6, 9, 10, 11, 12] [(3, _), (6, _), (9, _), (10, _), (11, _), (12, _)] [0, 1] [(0, some _), (1, some _)] (fun k => [(13, iv (k.1 : Int))]) (fun k => [(5, some [sl eG k.2.slots, sl c6 k.2.cells, sl cI k.2.read])]) (fun k => k.1 ≤ L.length ∧ iK p.types pts (L.drop k.1) k.2 (if k.1 = 0 then 0 else L[k.1 - 1]!) = q ∧ OkS p.types.length k.2 ∧ k.2.read.length ≤ k.1 ∧ (∀ j, j < k.1 → pts[L[j]!]!.op ≠ 11)) (fun k => L.length - k.1) (0, mc0 p.types.length) ⟨Nat.zero_le _, by rw [hq]; rfl, OkS.mc0 _, Nat.le_refl _, fun j h => absurd h (by omega)⟩ rfl rfl (by repeat' (first|exact trivial|refine And.intro rfl ?_)) (by repeat' (first|exact trivial|refine And.intro (.inr rfl) ?_)) ?_
 rintro ⟨i, s⟩ ⟨hi, hf, hok, hrd, h11⟩
 dsimp only at hi hf hok hrd h11 ⊢
 have hil : i < L.length → L[i]! < pts.length := fun h => hL _ (cM _ _ h)
 have hex := fun h => It p.types s hok.m hok.l h
 by_cases hiL : i < L.length
 ·have hap := hil hiL
  have hop := w.op L[i]! hap
  have hwx := w.x L[i]! hap
  have hwy := w.y L[i]! hap
  have hA := wa.a L[i]! hap
  have hg := hgx i hiL
  have hen := hex hl
  have hun := D8 s pts[L[i]!]! (fun h => by have := hok.l;omega) (fun h => by have := hok.l;omega)
  have hun2 := Ku (ts := p.types) (s := s) (x := pts[L[i]!]!) (fun h => by omega) (fun h => by omega)
  rw [hun2] at hun
  have hdo := fun h => Kd p.types s pts[L[i]!]! h hop hok.m hok.l (fun h => by omega) (fun h h2 => by omega) (fun h => hA.n (.inr h)) hl (by omega)
  repeat' (first|(apply aL;first|(with_reducible apply cV (d := 46))|(apply aE;rfl;rfl)|(apply aN;rfl;rfl;rfl;rfl)|(apply aU;rfl;rfl;rfl;rfl)|(apply a7;(case hx|hi => rfl);(case hm => (omega));(case hml => (rfl));(case hα | hf|hg => infer_instance);(case hN => rfl))|(apply bI;rfl;rfl;rfl)|(apply aF;kernel_rfl))|(apply aM;first|apply aH|apply aB|(apply aQ;rfl;all_goals intro hc;have hq:=hc;(try simp only [cJ] at hq);try exfalso;omega)|apply aK|apply aT)|with_reducible apply aA)
  refine dX ?_
  rw [hg]
  repeat' (first|(apply aL;first|((with_reducible apply aJ (k := 89));(case ha => rfl);(case h => exact hen);(case hp => (exact Pur.pf));(case hN => rfl))|((with_reducible apply aJ (k := 90));(case ha => rfl);(case h => exact hun);(case hp => (exact Pur.pf));(case hN => rfl))|((with_reducible apply aJ (k := 91));(case ha => rfl);(case h => exact hdo (by assumption));(case hp => (exact Pur.pf));(case hN => rfl))|(apply aE;rfl;rfl)|(first|(apply aN;rfl;rfl;rfl;rfl)|(apply aV;rfl;rfl;(first|exact (rfl:_=[_, _, _])|exact (rfl:_=[_, _, _, _, _]));rfl;rfl;rfl))|(apply aD;rfl;rfl;rfl)|(first|(apply bS;rfl;rfl;omega;rfl)|(apply aU;rfl;rfl;rfl;rfl))|(apply aC;rfl;rfl)|(apply a7;(case hx|hi => rfl);(case hm => (first|assumption|omega));(case hml => (rfl));(case hα | hf|hg => infer_instance);(case hN => rfl))|(apply aF;kernel_rfl)|(apply a6;rfl;rfl)|(apply bD;rfl;rfl;rfl)|(apply aW;rfl;rfl;rfl;rfl;rfl;(case hl => (simp;done));(first|exact (rfl:_=[_, _, _])|exact (rfl:_=[_, _, _, _, _]))))|(apply aM;first|apply aH|apply aB|(apply bV;kernel_rfl)|(apply aQ;rfl;all_goals intro hc;have hq:=hc;(try simp only [cJ] at hq);try exfalso;omega)|apply aT|apply aR)|with_reducible apply aA|with_reducible apply bG|with_reducible apply aX|with_reducible apply cP)
  all_goals have hdr : L.drop i = L[i]! :: L.drop (i + 1) := by rw [List.drop_eq_getElem_cons hiL, cT _ _ hiL]
  all_goals rw [hdr] at hf
  ·have ho : pts[L[i]!]!.op = 11 := by assumption
   have hqq : q = ((dP p.types p.types.length 0 s).1, (dP p.types p.types.length 0 s).2, L[i]!) := by
    rw [← hf, iK, if_neg (by rw [← hun2, K0 ho]; decide), sR ho, if_neg (by have := mX p.types p.types.length 0 s;omega)]
   rw [hqq]
   refine aO (l := [hG (dP p.types p.types.length 0 s).1, iv (dP p.types p.types.length 0 s).2, iv LI[i]!]) rfl ?_
   rw [hg]
   exact ⟨rfl, by (exact Pur.pf)⟩
  ·have hu : dI p.types s pts[L[i]!]! = true := by assumption
   have hqq : q = (s, 2, L[i]!) := by rw [← hf, iK, if_pos hu]
   rw [hqq]
   refine aO (l := [hG s, iv 2, iv LI[i]!]) rfl ?_
   rw [hg]
   exact ⟨rfl, by (exact Pur.pf)⟩
  ·have ho : ¬ pts[L[i]!]!.op = 11 := by assumption
   have hu : dI p.types s pts[L[i]!]! = false := by assumption
   have hk : ¬ gk (dA p.types s pts[L[i]!]!).2 = 0 := by assumption
   have hk2 : ¬ (dA p.types s pts[L[i]!]!).2 = -1 := fun e => hk ((Mk ho).2 e)
   have hqq : q = ((dA p.types s pts[L[i]!]!).1, (dA p.types s pts[L[i]!]!).2, L[i]!) := by rw [← hf, iK, if_neg (by rw [hu]; decide), if_neg hk2]
   rw [hqq]
   refine aO (l := [hG (dA p.types s pts[L[i]!]!).1, iv (gk (dA p.types s pts[L[i]!]!).2), iv LI[i]!]) rfl ?_
   rw [hg, show gk (dA p.types s pts[L[i]!]!).2 = (dA p.types s pts[L[i]!]!).2 by unfold gk;rw [if_neg hk2]]
   exact ⟨rfl, by (exact Pur.pf)⟩
  ·have ho : ¬ pts[L[i]!]!.op = 11 := by assumption
   have hu : dI p.types s pts[L[i]!]! = false := by assumption
   have hk2 : (dA p.types s pts[L[i]!]!).2 = -1 := (Mk ho).1 (by assumption)
   (apply dK (i + 1, (dA p.types s pts[L[i]!]!).1);focus (refine Le.ren [(0, 0), (1, 1), (5, 5)] rfl (by decide) ?_ ?_ <;> repeat' (first|exact trivial|refine And.intro ⟨_, rfl, ?_⟩ ?_|refine And.intro ⟨_, _, rfl, rfl, ?_⟩ ?_|exact Or.inr rfl|refine Or.inl ⟨?_, (by first|rfl|exact aY _ _|exact Pur.pf)⟩|rfl)))
   ·refine ⟨by dsimp only; omega, ?_, hok.do ⟨fun h => hA.n (.inr h)⟩, ?_, ?_⟩
    ·dsimp only
     rw [← hf, if_neg (by omega), show i + 1 - 1 = i by omega, iK, if_neg (by rw [hu]; decide), if_pos hk2]
    ·dsimp only;have := Ad (ts := p.types) (s := s) ho;omega
    ·intro j hj
     rcases Nat.lt_or_ge j i with h|h
     ·exact h11 j h
     ·rw [show j = i by omega]; exact ho
   ·dsimp only;omega
 ·repeat' (first | (apply aL; first | (apply aE;rfl;rfl) | (first | (apply aN;rfl;rfl;rfl;rfl) | (apply aV;rfl;rfl;(exact (rfl:_=[_, _, _]));rfl;rfl;rfl)) | (first | (apply a8;rfl;rfl;rfl;(assumption)) | (apply bC;rfl;rfl;rfl;(assumption)) | (apply bR; (case hj | hb | hN => rfl); all_goals (intro hg; have hq := hg; (try simp only [cJ] at hq); (try (exfalso; omega))))) | (first | (apply iB;rfl;rfl;omega;rfl) | (apply aU;rfl;rfl;rfl;rfl)) | (apply aC;rfl;rfl) | (first | (apply bY;rfl;(assumption);rfl;rfl) | (apply bQ;rfl;(assumption);rfl;rfl)) | (apply cL; (case hx | hi => rfl); (case hm => (omega)); (case hml => (rfl)); (case hα | hf | hg => infer_instance); (case hN => rfl)) | (apply bI;rfl;rfl;rfl) | (apply aF;kernel_rfl) | (apply cF;rfl;rfl) | (apply aW;rfl;rfl;rfl;rfl;rfl;(case hl => (simp;done));(exact (rfl:_=[_, _, _])))) | (apply aM; first | apply aH | apply aB | (apply bV;kernel_rfl) | (apply cG;rfl;(rfl)) | (apply aQ;rfl;all_goals intro hc;have hq:=hc;(try simp only [cJ] at hq);try exfalso;omega) | apply aT | apply bK | apply aR) | with_reducible apply aA | with_reducible apply bG | with_reducible apply bJ | with_reducible apply bO)
  all_goals have hie : i = L.length := by omega
  all_goals have hqq : q = (s, 1, if i = 0 then 0 else L[i - 1]!) := by rw [← hf, hie, List.drop_length]; rfl
  ·rw [hqq, if_neg (by omega)]
   refine aO (l := [hG s, iv 1, iv LI[((LI.length : Int) - 1).toNat]!]) rfl ?_
   rw [show ((LI.length : Int) - 1).toNat = i - 1 by omega, hgx (i - 1) (by omega)]
   exact ⟨rfl, by (exact Pur.pf)⟩
  ·rw [hqq, if_pos (by omega)]
   exact aO (l := [hG s, iv 1, iv 0]) rfl ⟨rfl, by (exact Pur.pf)⟩
  ·exfalso
   have hd1 : dn = true := by assumption
   obtain ⟨l, b, e1, e2⟩ := C4 pts n 0 cs (by rw [← hdn]; exact hd1)
   rw [← hLe] at e1
   have hlen : L.length = l.length + 1 := by rw [e1, List.length_append]; rfl
   have hb : L[l.length]! = b := by rw [cT _ _ (by omega)]; simp [e1]
   have := h11 l.length (by omega)
   rw [hb] at this
   exact this e2
theorem Bp {ts : List Int} {pts : List Pnt} (w : WG ts pts) (A : WA ts pts) : ∀ n a cs, a < pts.length → ∀ x ∈ (eJ pts n a cs).1, x < pts.length
 | 0, a, cs, ha, x, hx => by
  unfold eJ at hx
  by_cases e : pts[a]!.op = 11
  ·rw [if_pos e] at hx;rw [List.mem_singleton.1 hx]; exact ha
  ·rw [if_neg e] at hx;exact absurd hx (by simp)
 | n + 1, a, cs, ha, x, hx => by
  rw [eJ] at hx
  by_cases e : pts[a]!.op = 11
  ·rw [if_pos e] at hx;rw [List.mem_singleton.1 hx]; exact ha
  ·rw [if_neg e] at hx
   rcases List.mem_cons.1 hx with h|h
   ·rw [h]; exact ha
   ·have he := sD w A ha e cs
    have := w.nx a ha _ he.2
    exact Bp w A n _ _ (by omega) x h
theorem rE {pts : List Pnt} : ∀ n a cs, (eJ pts n a cs).1.length ≤ n + 1
 | 0, a, cs => by unfold eJ;split <;> simp
 | n + 1, a, cs => by
  rw [eJ]; split
  ·simp
  ·have := rE (pts := pts) n (iI pts a cs).1 (iI pts a cs).2
   dsimp only;rw [List.length_cons]; omega
theorem ET (p : Prg) (cs : List Int) (n : Nat) (hv : cS p = true) (hl : p.types.length ≤ 1000000) (hs : bX p.body ≤ 1000000) (hn : n ≤ 150) (hcl : cs.length ≤ 1000000) : PC Go.Proofs.Tryz.prog 43 [dF p, sl cI cs, iv (n : Int)] (fun r => r = .tup [hG (eR p.types (dC p) cs n).1, iv (eR p.types (dC p) cs n).2.1, iv (eR p.types (dC p) cs n).2.2]) :=
 HD p cs n hv hl hs hn hcl (Bp (WG.of_valid hv) (WA.of_valid hv) n 0 cs (WG.of_valid hv).p0) (by have := rE (pts := dC p) n 0 cs;omega)
def zS (p : Prg) (most : Int) : Bool := cS p && (decide (0 ≤ most) && decide (most ≤ 150))
theorem DO (p : Prg) (most : Int) (hl : p.types.length ≤ 1000000) (hs : bX p.body ≤ 1000000) : PC Tryz.prog 42 [dF p, iv most] (fun r => r = bv (zS p most)) := by
 have hval := pH p hl (by omega)
 (refine aS Tryz.func42 rfl (by simp [Tryz.ntmps42]) ?_; rw [Tryz.ntmps42])
 repeat' (first|(apply aL;first|((with_reducible apply aJ (k := 87));(case ha => rfl);(case h => exact hval);(case hp => (exact Pur.pf));(case hN => rfl))|(apply aE;rfl;rfl)|(apply aV;rfl;rfl;(exact (rfl:_=[_, _]));rfl;rfl;rfl)|(first|(apply a8;rfl;rfl;rfl;(assumption))|(apply bC;rfl;rfl;rfl;(first|rfl|assumption))|(apply bR;(case hj|hb|hN => rfl);all_goals (intro hg;have hq := hg;(try simp only [cJ] at hq);(try (exfalso;omega)))))|(apply aU;rfl;rfl;rfl;rfl)|(apply aC;rfl;rfl)|(first|(apply bY;rfl;(assumption);rfl;rfl)|(apply bQ;rfl;(first|rfl|assumption);rfl;rfl))|(apply aF;kernel_rfl)|(apply bH;rfl;rfl;rfl;rfl))|(apply aM;first|apply aH|apply aB|apply aR)|with_reducible apply aA)
 all_goals (refine aO rfl ⟨?_, rfl⟩; simp only [b0, AV.v.injEq, Value.bool.injEq]; unfold zS;grind)
theorem vL (p : Prg) (cs : List Int) (most : Int) (hl : p.types.length ≤ 1000000) (hs : bX p.body ≤ 1000000) (hcl : cs.length ≤ 1000000) : PC Tryz.prog 14 [dF p, sl cI cs, iv most] (fun r => r = .tup (if zS p most = true then [iv (eR p.types (dC p) cs most.toNat).2.1, iv (eR p.types (dC p) cs most.toNat).2.2] else [iv 5, iv 0])) := by
 have hrt := DO p most hl hs
 by_cases h : zS p most = true
 ·have h' := h
  unfold zS at h'
  simp only [Bool.and_eq_true, decide_eq_true_eq] at h'
  obtain ⟨hv, h0, h1⟩ := h'
  have hru := ET p cs most.toNat hv hl hs (by omega) hcl
  rw [Int.toNat_of_nonneg h0] at hru
  rw [h] at hrt
  rw [if_pos h]
  (refine aS Tryz.func14 rfl (by simp [Tryz.ntmps14]) ?_; rw [Tryz.ntmps14])
  repeat' (first|(apply aL;first|((with_reducible apply aJ (k := 42));(case ha => rfl);(case h => exact hrt);(case hp => (exact Pur.pf));(case hN => rfl))|((with_reducible apply aJ (k := 43));(case ha => rfl);(case h => exact hru);(case hp => (exact Pur.pf));(case hN => rfl))|(apply aE;rfl;rfl)|(apply aV;rfl;rfl;(exact (rfl:_=[_, _]));rfl;rfl;rfl)|(apply aC;rfl;rfl)|(apply aF;kernel_rfl)|(apply cF;rfl;rfl)|(apply bH;rfl;rfl;rfl;rfl)|(apply a6;rfl;rfl)|(apply bD;rfl;rfl;rfl)|(apply aW;rfl;rfl;rfl;rfl;rfl;(case hl => (simp;done));(exact (rfl:_=[_, _, _]))))|(apply aM;first|apply aH|apply aB|(apply cG;rfl;(rfl))|apply aT|apply aR)|with_reducible apply aA)
  exact aO (l := [iv (eR p.types (dC p) cs most.toNat).2.1, iv (eR p.types (dC p) cs most.toNat).2.2]) rfl ⟨rfl, rfl⟩
 ·rw [if_neg h]
  have h2 : zS p most = false := by simpa using h
  rw [h2] at hrt
  (refine aS Tryz.func14 rfl (by simp [Tryz.ntmps14]) ?_; rw [Tryz.ntmps14])
  repeat' (first|(apply aL;first|((with_reducible apply aJ (k := 42));(case ha => rfl);(case h => exact hrt);(case hp => (exact Pur.pf));(case hN => rfl))|(apply aE;rfl;rfl)|(apply aV;rfl;rfl;(exact (rfl:_=[_, _]));rfl;rfl;rfl)|(apply aC;rfl;rfl)|(apply aF;kernel_rfl)|(apply cF;rfl;rfl)|(apply bH;rfl;rfl;rfl;rfl))|(apply aM;first|apply aH|apply aB|(apply cB;rfl;(rfl))|apply aR)|with_reducible apply aA|with_reducible apply bG)
  exact aO (l := [iv 5, iv 0]) rfl ⟨rfl, rfl⟩
theorem KW {p : Prg} {cs : List Int} {n : Nat} (hv : cS p = true) : OkS p.types.length (eR p.types (dC p) cs n).1 := by
 have wa := WA.of_valid hv
 have hp : ∀ a : Nat, PtN (dC p)[a]! := fun a => by
  by_cases h : a < (dC p).length
  ·exact ⟨fun e => (wa.a a h).n (.inr e)⟩
  ·refine ⟨fun e => ?_⟩
   rw [Gl, dif_neg h] at e
   exact absurd e (by decide)
 exact OkS.run hp _ _ _ (OkS.mc0 _)
theorem Be {ts : List Int} {s : Mc} {x : Pnt} : (dA ts s x).1.read.length ≤ s.read.length + 1 := by
 by_cases h : x.op = 11
 ·rw [sR h, sZ]; omega
 ·exact Ad h
theorem vZ (ts : List Int) (pts : List Pnt) : ∀ (l : List Nat) (s : Mc) (last : Nat), (iK ts pts l s last).1.read.length ≤ s.read.length + l.length
 | [], s, last => by unfold iK;simp
 | a :: l, s, last => by
  have h := Be (ts := ts) (s := s) (x := pts[a]!)
  unfold iK;split
  ·dsimp only;omega
  ·split
   ·have := vZ ts pts l (dA ts s pts[a]!).1 a
    rw [List.length_cons]; omega
   ·rw [List.length_cons]; dsimp only;omega
theorem Br {ts : List Int} {pts : List Pnt} {cs : List Int} {n : Nat} (hn : n ≤ 150) : (eR ts pts cs n).1.read.length ≤ 151 := by
 have h := vZ ts pts (eJ pts n 0 cs).1 (mc0 ts.length) 0
 have h2 := rE (pts := pts) n 0 cs
 have h3 : (mc0 ts.length).read.length = 0 := rfl
 unfold eR;omega
theorem LJ : Go.Proofs.Tryz.prog.underlying 246 = some (.map 3 4) := by kernel_rfl
theorem Mm : Go.Proofs.Tryz.prog.underlying 3 = some (.int .i64) := by kernel_rfl
theorem LQ : (Go.Proofs.Tryz.prog.info? 4).bind (·.zero) = some (.bool false) := by kernel_rfl
theorem LG {a b c : Int} (h : a ≤ b ∧ b ≤ c) : (!(decide (a ≤ b) && decide (b ≤ c))) = false := by simp [h.1, h.2]
theorem iT (m : List Cl) (hm : OkM m) : PC Tryz.prog 184 [sl c6 m] (fun r => r = bv true) := by
 have hml := hm.l
 (refine aS Tryz.func184 rfl (by simp [Tryz.ntmps184]) ?_; rw [Tryz.ntmps184])
 repeat' (first|(apply aL;first|(apply aE;rfl;rfl)|(apply aU;rfl;rfl;rfl;rfl)|(apply aC;rfl;rfl)|(apply bI;rfl;rfl;rfl)|(apply aF;kernel_rfl))|(apply aM;first|apply aH|apply aB|(apply aQ;rfl;all_goals intro hc;have hq:=hc;(try simp only [cJ] at hq);try exfalso;omega)|apply aK|apply aT)|with_reducible apply aA)
 all_goals (try (exfalso;omega))
 refine bB (σ := Nat) [11, 12] [(11, _), (12, _)] [] [] (fun i => [(13, iv (i : Int))]) (fun i => []) (fun i => i ≤ m.length) (fun i => m.length - i) (0) (Nat.zero_le _) rfl rfl (by repeat' (first|exact trivial|refine And.intro rfl ?_)) (by repeat' (exact trivial)) ?_
 rintro i hi
 by_cases hin : i < m.length
 ·have hc := (dY m).1 hm |>.2 i hin
  obtain ⟨h1, h2, h3, h4, h5⟩ := (o5 _).1 hc
  repeat' (first|(apply aL;first|(apply aE;rfl;rfl)|(first|(apply aN;rfl;rfl;rfl;rfl)|(apply aV;rfl;rfl;(exact (rfl:_=[_, _, _, _]));rfl;rfl;rfl))|(apply aD;rfl;rfl;rfl)|(first|(apply a8;rfl;rfl;rfl;(assumption))|(apply bR;(case hj|hb|hN => rfl);all_goals (intro hg;have hq := hg;(try simp only [cJ] at hq);(try (exfalso;omega)))))|(apply aU;rfl;rfl;rfl;rfl)|(apply aC;rfl;rfl)|(apply bQ;rfl;(assumption);rfl;rfl)|(first|(apply a7;(case hx|hi => rfl);(case hm => (assumption));(case hml => (rfl));(case hα | hf|hg => infer_instance);(case hN => rfl))|(apply cL;(case hx|hi => rfl);(case hm => (omega));(case hml => (rfl));(case hα | hf|hg => infer_instance);(case hN => rfl)))|((with_reducible apply aJ (k := 84));(case ha => rfl);(case h => (apply eL <;> (fail)));(case hp => (rfl));(case hN => rfl))|(apply bI;rfl;rfl;rfl)|(apply aF;kernel_rfl)|(apply cF;rfl;rfl)|(apply a6;rfl;rfl)|(apply aW;rfl;rfl;rfl;rfl;rfl;(case hl => (simp;done));(exact (rfl:_=[_, _, _, _]))))|(apply aM;first|with_reducible apply GO|apply aH|apply aB|(apply aQ;rfl;all_goals intro hc;have hq:=hc;(try simp only [cJ] at hq);try exfalso;omega)|apply aK|apply aT|apply aR)|with_reducible apply aA|with_reducible apply bG|with_reducible apply cP)
  ·exfalso
   have hu : m[i]!.stk[Int.toNat 0]!.uq = false := by assumption
   rw [show Int.toNat 0 = 0 from rfl, h4] at hu;exact absurd hu (by decide)
  ·refine Lg (FO rfl (fun r => ?_))
   refine AQ ?_
   repeat' (apply aL;first|(apply aC;rfl;rfl)|(apply aF;kernel_rfl))
   refine ⟨rfl, rfl, ?_⟩
   refine lM (oH ?_)
   repeat' (first|(apply aL;first|(apply aE;rfl;rfl)|(apply aN;rfl;rfl;rfl;rfl)|(apply aD;rfl;rfl;rfl)|(apply bI;rfl;rfl;rfl)|(apply aF;kernel_rfl))|(apply aM;(apply aB)))
   show rW _ _ _ _ _ _ _
   refine vX ?_
   refine EN (σ := Nat) [4, 5, 11, 12, 13, 44, 45] [(4, _), (5, _), (11, _), (12, _), (13, _), (44, _), (45, _)] [0] [(0, some _)] (fun k => [(46, iv (k : Int))]) (fun k => []) (fun k => (m[i]!.stk.take k).map (·.id)) (fun k => k ≤ m[i]!.stk.length) (fun k => m[i]!.stk.length - k) (0) (Nat.zero_le _) (rfl) rfl rfl (by repeat' (first|exact trivial|refine And.intro rfl ?_)) (by repeat' (exact trivial)) ?_
   rintro k hk
   refine lM (oH ?_)
   repeat' (first|(apply aL;first|(apply aU;rfl;rfl;rfl;rfl)|(apply aF;kernel_rfl))|(apply aM;(apply aB)))
   show rW _ _ _ _ _ _ _
   refine lM (zW rfl (fun hb => Ax ?_) (fun hb => Ft ?_))
   ·show rW _ _ _ _ _ _ _
    have hkl : k < m[i]!.stk.length := by have := of_decide_eq_true hb;omega
    obtain ⟨g1, g2, g3⟩ := h5 k hkl
    have hw := LG (a := 0) (b := m[i]!.stk[k]!.id) (c := m[i]!.next - 1) ⟨g1, by omega⟩
    have hni : m[i]!.stk[k]!.id ∉ (m[i]!.stk.take k).map (·.id) := fun q => by
     obtain ⟨t, ht, e⟩ := List.mem_map.1 q
     obtain ⟨j, hj, rfl⟩ := List.getElem_of_mem ht
     rw [List.length_take] at hj
     have f := uP (stk := m[i]!.stk) (id := m[i]!.stk[k]!.id) (by omega) j (by omega)
     rw [cT _ _ (by omega)] at f
     rw [List.getElem_take] at e
     exact f e
    refine lM (vX (lM (oH ?_)))
    repeat' (first|(apply aL;first|(apply aV;rfl;rfl;(exact (rfl:_=[_, _]));rfl;rfl;rfl)|(apply a7;(case hx|hi => rfl);(case hm => (assumption));(case hml => (rfl));(case hα | hf|hg => infer_instance);(case hN => rfl))|(apply aF;kernel_rfl)|(apply a6;rfl;rfl)|(apply aW;rfl;rfl;rfl;rfl;rfl;(case hl => (simp;done));(exact (rfl:_=[_, _]))))|(apply aM;(apply aB)))
    show rW _ _ _ _ _ _ _
    refine lM (lM (tM ?_))
    refine Ak (l1 := [_, _, _, _, _, _, _, _, _, _, _]) (l2 := [_, _]) ?_
    repeat' (apply aL;first|(apply aE;rfl;rfl)|(apply aN;rfl;rfl;rfl;rfl)|(apply aD;rfl;rfl;rfl)|(apply a8;rfl;rfl;rfl;(assumption))|(apply iB;rfl;rfl;omega;rfl)|((with_reducible apply aJ (k := 84));(case ha => rfl);(case h => (apply eL <;> (fail)));(case hp => (rfl));(case hN => rfl))|(apply aF;kernel_rfl)|(apply cF;rfl;rfl))
    refine ⟨rfl, ?_⟩
    refine Ec rfl rfl hw ?_
    refine BW LJ Mm LQ rfl rfl hni rfl ?_
    refine AQ ?_
    repeat' (apply aL;first|(apply bQ;rfl;(assumption);rfl;rfl)|(apply aF;kernel_rfl))
    refine ⟨rfl, ?_⟩
    show rW _ _ _ _ _ _ _
    refine zW rfl (fun h => by cases h) (fun _ => Ax ?_)
    show rW _ _ _ _ _ _ _
    refine tM ?_
    refine Ak (l1 := [_, _, _]) (l2 := [_]) ?_
    repeat' (apply aL;first|(apply aE;rfl;rfl)|(apply aN;rfl;rfl;rfl;rfl)|(apply aD;rfl;rfl;rfl)|(apply aF;kernel_rfl))
    refine ⟨rfl, ?_⟩
    refine Cs LJ Mm LQ rfl rfl hni ?_
    refine Ji ?_
    show rW _ _ _ _ _ _ _
    refine oH ?_
    repeat' (first|(apply aL;first|(apply aE;rfl;rfl)|(apply bS;rfl;rfl;omega;rfl)|(apply aF;kernel_rfl))|(apply aM;(apply aB)))
    refine ⟨k + 1, by omega, by omega, ?_, ?_⟩
    ·refine Le.ren [(0, 0)] rfl (by decide) ?_ ?_ <;> repeat' (first|exact trivial|refine And.intro ⟨_, rfl, ?_⟩ ?_|refine And.intro ⟨_, _, rfl, rfl, ?_⟩ ?_|exact Or.inr rfl|refine Or.inl ⟨?_, (by first|rfl|exact aY _ _|exact Pur.pf)⟩|rfl)
    ·rw [cX _ k hkl, List.map_append]; rfl
   ·have hkl : k = m[i]!.stk.length := by have := of_decide_eq_false hb; omega
    refine Fy ?_
    show BT 1 _ _ _
    repeat' (first|(apply aL;first|(apply aE;rfl;rfl)|(apply bS;rfl;rfl;omega;rfl)|(apply aF;kernel_rfl))|(apply aM;(apply aB))|with_reducible apply aA|with_reducible apply aX)
    (apply dK (i + 1);focus (refine Le.ren [] rfl (by decide) ?_ ?_ <;> repeat' (first|exact trivial|refine And.intro ⟨_, rfl, ?_⟩ ?_|refine Or.inl ⟨?_, (by first|rfl|exact aY _ _)⟩|rfl)))
    ·omega
    ·omega
 ·repeat' (first | (apply aL; first | (apply aU;rfl;rfl;rfl;rfl) | (apply aC;rfl;rfl) | (apply aF;kernel_rfl)) | (apply aM; first | apply aH | apply aB | (apply aQ;rfl;all_goals intro hc;have hq:=hc;(try simp only [cJ] at hq);try exfalso;omega) | apply bK | apply aR) | with_reducible apply aA | with_reducible apply bJ | with_reducible apply bO)
  refine aO rfl ⟨rfl, rfl⟩
end Go.Proofs.YtckihjkcgfphmaaGreat
