/-
 A part of the proofs over this program: rules and contracts of its functions (the contracts).
-/
import Derived.Test.YtckihjkcgfphmaaGreatP5B04
set_option linter.unusedVariables false
set_option linter.unusedSimpArgs false
set_option maxHeartbeats 8000000
set_option maxRecDepth 4000
attribute [local irreducible] Go.AL.RW Go.AL.AW Go.AL.Stop
namespace Go.Proofs.YtckihjkcgfphmaaGreat
open Go.AL Go.RowKit
theorem Cs {stk r : List Tg} {k : Nat} {N : Nat} {Q : Exit → AS → Prop} {all : Array Oper} {rest : List Oper} {tsl : List (Nat × AV)} {hsl : List (Nat × Option (List AV))} {nidl : Nat} {z0 : Lo} {md : Md} {d : Nat} {ty : TypeId} {pos : String} {af : Array Edge} {tys : Array TypeId} {x0 x1 : Operand} (ha0 : ev (lk tsl) x0 = some (sl dM stk)) (ha1 : ev (lk tsl) x1 = some (iv (k : Int))) (hmc : MC Tryz.prog 196 [sl dM stk, iv (k : Int)] [] 0 (fun _ : Unit => True) (fun _ => .own 1 0 r.length 2) (fun _ => [(1, some (aI dM r))])) (hM : Nat.ble (nidl + 2) eS = true) (hN : Nat.blt d N = true) {md' : Md} [hmd : MdA md (gL [x0, x1] ++ []) (List.map Sum.inr (List.map Prod.fst ([((nidl + 1), some (aI dM r))] : List (Nat × Option (List AV)))) ++ [.inl d]) md'] (kk : RW Tryz.prog N all Q md' rest ⟨(d, .own (nidl + 1) 0 r.length 2) :: tsl, iH hsl [((nidl + 1), some (aI dM r))], nidl + 2, z0⟩) : RW Tryz.prog N all Q md (⟨some d, .call ⟨.value (.func 196), #[x0, x1], tys⟩, ty, pos, af, none⟩ :: rest) ⟨tsl, hsl, nidl, z0⟩ := by
 refine cE [] 2 [((nidl + 1), some (aI dM r))] hmc (avs := [sl dM stk, iv (k : Int)]) ?_ rfl ?_ rfl ?_ (by simpa using hM) ?_ ?_ ?_ hN (md' := md') (hmd := hmd) kk
 ·show evL (lk tsl) [x0, x1] = _
  simp only [evL, ha0, ha1]
 ·exact trivial
 ·(repeat' (exact RnL.purI inferInstance))
 ·(repeat' (exact RnV.own rfl))
 ·simp [dL]
 ·(repeat' (first|exact trivial|(refine And.intro ⟨1, _, rfl, rfl, ?_⟩ ?_)|exact RnL.purI inferInstance))
theorem Ed (stk r : List Tg) (k : Nat) (hr : r = fP stk k false) (hk : k < stk.length) (hl : stk.length ≤ 1000000) : MC Tryz.prog 196 [sl dM stk, iv (k : Int)] [] 0 (fun _ : Unit => True) (fun _ => .own 1 0 r.length 2) (fun _ => [(1, some (aI dM r))]) := by
 have e1 : List.take (((k : Int) + 1).toNat - 0) (List.drop 0 stk) = stk.take (k + 1) := by rw [List.drop_zero]; congr 1
 have e2 : (stk.take (k + 1)).length = k + 1 := by rw [List.length_take]; omega
 (refine cC Tryz.func196 rfl (by simp [Tryz.ntmps196]) ?_; rw [Tryz.ntmps196])
 repeat' (first|(apply aL;first|(with_reducible apply cS (d := 12))|(apply aE;rfl;rfl)|(apply bR;rfl;rfl;omega;rfl)|(apply aC;rfl;rfl)|(apply aF;kernel_rfl)|(apply gN;rfl;infer_instance;rfl;rfl;(omega);rfl)|(apply bZ;rfl;rfl;rfl;(rfl);rfl;rfl))|(apply aM;first|apply aH|apply aB)|with_reducible apply aA)
 refine dO ?_
 rw [e1]
 repeat' (first|(apply aL;first|(apply aE;rfl;rfl)|(apply bR;rfl;rfl;omega;rfl)|(apply aC;rfl;rfl)|(apply bW;rfl;rfl;rfl;rfl;rfl;(case hl => (simp [aQ]; done));(exact iJ (by (rfl)));omega;omega;(exact e9 (by (omega)));rfl;rfl)|(apply aF;kernel_rfl))|(apply aM;first|apply aH|apply aB|apply aK)|with_reducible apply aA)
 refine a6 (σ := Nat × List Tg × Nat) [0] [(0, _)] [] [] (fun s => [(6, iv (s.1 : Int)), (5, .own 1 0 s.2.2 2)]) (fun s => [(1, some (aI dM s.2.1))]) (fun s => k + 1 ≤ s.1 ∧ s.1 ≤ stk.length ∧ s.2.1 = stk.take (k + 1) ++ ((stk.drop (k + 1)).take (s.1 - (k + 1))).filter (fun t => !t.uq) ∧ s.2.2 = s.2.1.length ∧ s.2.2 ≤ s.1) (fun s => stk.length - s.1) (k + 1, stk.take (k + 1), 0 + (stk.take (k + 1)).length) ⟨Nat.le_refl _, by dsimp only;omega, by simp, by dsimp only;omega, by dsimp only;omega⟩ rfl rfl (by repeat' (first|exact trivial|refine And.intro rfl ?_)) (by repeat' (first|exact trivial|refine And.intro (.inr rfl) ?_)) ?_
 rintro ⟨i, xs, n⟩ ⟨hki, hi, hxs, hn, hni⟩
 dsimp only at hki hi hxs hn hni ⊢
 repeat' (first|(apply aL;first|(apply aE;rfl;rfl)|(first|(apply aN;rfl;rfl;rfl;rfl)|(apply aV;rfl;rfl;(exact (rfl:_=[_, _]));rfl;rfl;rfl))|(apply aD;rfl;rfl;rfl)|(first|(apply bR;rfl;rfl;omega;rfl)|(apply aT;rfl;rfl;rfl;rfl))|(apply aC;rfl;rfl)|(apply aZ;(case hx|hi => rfl);(case hm => (omega));(case hml => (rfl));(case hα | hf|hg => infer_instance);(case hN => rfl))|(first|(apply bC;rfl;rfl;rfl)|(apply bW;rfl;rfl;rfl;rfl;rfl;(rw [aQ]; omega);(rfl);omega;omega;(exact tL (by (assumption)));rfl;rfl))|(apply aF;kernel_rfl)|(apply cG;rfl;rfl)|((apply a7 (t := _));(case hze|hsm|hl => rfl);(case hfl => (exact (rfl:_=some [_, _])));(case hM|hN => rfl)))|(apply aM;first|apply aH|apply aB|(apply aO;rfl;all_goals intro hc;have hq:=hc;(try simp only [cJ] at hq);try exfalso;omega)|apply aK|apply aS|apply bG|apply aR)|with_reducible apply aA|with_reducible apply bH|with_reducible apply aW|with_reducible apply bF)
 ·(apply dJ (i + 1, _, _); focus (refine Le.ren [(1, 3)] rfl (by decide) ?_ ?_ <;> repeat' (first | exact trivial | refine And.intro ⟨_, rfl, ?_⟩ ?_ | refine And.intro ⟨_, _, rfl, rfl, ?_⟩ ?_ | exact Or.inr rfl | refine Or.inl ⟨?_, (by first | rfl | exact aY _ _)⟩ | rfl)))
  ·refine ⟨by dsimp only; omega, by dsimp only; omega, ?_, by dsimp only; rw [List.length_append, hn]; rfl, by dsimp only; omega⟩
   dsimp only
   rw [hxs, kO stk hki (by omega), List.filter_append, List.append_assoc]
   congr 2
   have hu : stk[i]!.uq = false := by assumption
   rw [qD (by rw [hu]; rfl)]
  ·dsimp only;omega
 ·(apply dJ (i + 1, xs, n); focus (refine Le.ren [(1, 1)] rfl (by decide) ?_ ?_ <;> repeat' (first | exact trivial | refine And.intro ⟨_, rfl, ?_⟩ ?_ | refine And.intro ⟨_, _, rfl, rfl, ?_⟩ ?_ | exact Or.inr rfl | refine Or.inl ⟨?_, (by first | rfl | exact aY _ _)⟩ | rfl)))
  ·refine ⟨by dsimp only; omega, by dsimp only; omega, ?_, hn, by dsimp only; omega⟩
   dsimp only
   have hu : stk[i]!.uq = true := by assumption
   rw [hxs, kO stk hki (by omega), List.filter_append, m8 (by rw [hu]; rfl), List.append_nil]
  ·dsimp only;omega
 ·have hie : i = stk.length := by omega
  have hd : (stk.drop (k + 1)).take (stk.length - (k + 1)) = stk.drop (k + 1) := List.take_of_length_le (by rw [List.length_drop]; exact Nat.le_refl _)
  have hxr : xs = r := by rw [hxs, hie, hd, hr]; rfl
  subst hxr
  (refine aP rfl ?_; refine bU () trivial ?_ ⟨.inr (Eq.trans (b := some _) rfl ?_), trivial⟩)
  ·rw [hn]; rfl
  ·rfl
theorem Hx {m : List Cl} {x : Pt} {j : Nat} {r : List Tg} {v : Int} {N : Nat} {Q : Exit → AS → Prop} {all : Array Oper} {rest : List Oper} {tsl : List (Nat × AV)} {hsl : List (Nat × Option (List AV))} {nidl : Nat} {z0 : Lo} {md : Md} {d : Nat} {ty : TypeId} {pos : String} {af : Array Edge} {tys : Array TypeId} {x0 x1 : Operand} (ha0 : ev (lk tsl) x0 = some (sl c7 m)) (ha1 : ev (lk tsl) x1 = some (m5 x)) (hmc : MC Tryz.prog 148 [sl c7 m, m5 x] [] 0 (fun _ : Unit => True) (fun _ => .tup [.own 1 0 m.length 4, iv v, iv 0]) (fun _ => [(1, some (aI fR (eE m j (.own 3 0 r.length 2)))), (3, some (aI dM r))])) (hM : Nat.ble (nidl + 4) eS = true) (hN : Nat.blt d N = true) {md' : Md} [hmd : MdA md (gL [x0, x1] ++ []) (List.map Sum.inr (List.map Prod.fst ([((nidl + 1), some (aI fR (eE m j (.own (nidl + 3) 0 r.length 2)))), ((nidl + 3), some (aI dM r))] : List (Nat × Option (List AV)))) ++ [.inl d]) md'] (kk : RW Tryz.prog N all Q md' rest ⟨(d, .tup [.own (nidl + 1) 0 m.length 4, iv v, iv 0]) :: tsl, iH hsl [((nidl + 1), some (aI fR (eE m j (.own (nidl + 3) 0 r.length 2)))), ((nidl + 3), some (aI dM r))], nidl + 4, z0⟩) : RW Tryz.prog N all Q md (⟨some d, .call ⟨.value (.func 148), #[x0, x1], tys⟩, ty, pos, af, none⟩ :: rest) ⟨tsl, hsl, nidl, z0⟩ := by
 refine cE [] 4 [((nidl + 1), some (aI fR (eE m j (.own (nidl + 3) 0 r.length 2)))), ((nidl + 3), some (aI dM r))] hmc (avs := [sl c7 m, m5 x]) ?_ rfl ?_ rfl ?_ (by simpa using hM) ?_ ?_ ?_ hN (md' := md') (hmd := hmd) kk
 ·show evL (lk tsl) [x0, x1] = _
  simp only [evL, ha0, ha1]
 ·exact trivial
 ·(repeat' (exact RnL.purI inferInstance))
 ·(repeat' (first|exact RnL.purI inferInstance|exact RnV.own rfl|refine RnL.cons ?_ ?_|refine RnV.tup ?_))
 ·simp [dL]
 ·(repeat' (first|exact trivial|(refine And.intro ⟨1, _, rfl, rfl, ?_⟩ ?_)|(refine And.intro ⟨3, _, rfl, rfl, ?_⟩ ?_)|exact RnL.purI inferInstance|exact kP rfl))
theorem IG (m : List Cl) (x : Pt) (j : Nat) (r : List Tg) (v : Int) (hm : OkM m) (hk : cP m x false = 0) (hj : j = x.cell.toNat) (hr : r = fP m[j]!.stk (dE m[j]!.stk x.tag).toNat false) (hv : v = m[j]!.val) : MC Tryz.prog 148 [sl c7 m, m5 x] [] 0 (fun _ : Unit => True) (fun _ => .tup [.own 1 0 m.length 4, iv v, iv 0]) (fun _ => [(1, some (aI fR (eE m j (.own 3 0 r.length 2)))), (3, some (aI dM r))]) := by
 subst hj
 have hml := hm.l
 have hst : 0 ≤ x.cell → x.cell < m.length → m[x.cell.toNat]!.stk.length ≤ 1000000 := fun h1 h2 => Nat.le_trans (((eA m).1 hm).2 x.cell.toNat (by omega)).l.2 (by decide)
 have hpl := k7 m hm x
 rw [if_pos hk, hk] at hpl
 obtain ⟨h1, h2, h3, h4, _⟩ := eU hk
 have hbd := eZ m[x.cell.toNat]!.stk x.tag
 have hrd := Ed m[x.cell.toNat]!.stk r (dE m[x.cell.toNat]!.stk x.tag).toNat hr (by omega) (hst h1 h2)
 rw [Int.toNat_of_nonneg h4] at hrd
 obtain ⟨k, hkk⟩ := Int.eq_ofNat_of_zero_le h4
 rw [hkk] at hpl hrd
 (refine cC Tryz.func148 rfl (by simp [Tryz.ntmps148]) ?_; rw [Tryz.ntmps148])
 repeat' (first|(apply aL;first|(apply fW;rfl;exact gP m hm;rfl;rfl)|((with_reducible apply aJ (k := 195));(case ha => rfl);(case h => exact hpl);(case hp => (exact Pur.pf));(case hN => rfl))|(apply Cs;rfl;rfl;exact hrd;rfl;rfl)|(apply aE;rfl;rfl)|(first|(apply aN;rfl;rfl;rfl;rfl)|(apply aV;rfl;rfl;(exact (rfl:_=[_, _]));rfl;rfl;rfl))|(apply aD;rfl;rfl;rfl)|(apply aT;rfl;rfl;rfl;rfl)|(apply aC;rfl;rfl)|(first|(apply cL;(case hx|hi => rfl);(case hm => (omega));(case hml => (rfl));(case hα | hf|hg => infer_instance);(case hN => rfl))|(apply cR;rfl;rfl;(omega);rfl))|(apply aF;kernel_rfl)|(apply bK;rfl;rfl;rfl;rfl)|(apply bE;rfl;rfl;rfl)|(apply aX;rfl;rfl;rfl;rfl;rfl;(rw [aQ]; simp only [fY] <;> omega);(exact x7 (by (omega)))))|(apply aM;first|apply aH|apply aB|(apply b0;kernel_rfl)|(apply cH;rfl;(rfl))|apply aS|apply aR)|with_reducible apply aA)
 (refine aP rfl ?_; refine bU () trivial ?_ ⟨.inr (Eq.trans (b := some _) rfl ?_), ⟨.inr (Eq.trans (b := some _) rfl ?_), trivial⟩⟩)
 ·rw [hv]; rfl
 ·rfl
 ·rfl
theorem DU {m : List Cl} {x : Pt} {j : Nat} {r : List Tg} {N : Nat} {Q : Exit → AS → Prop} {all : Array Oper} {rest : List Oper} {tsl : List (Nat × AV)} {hsl : List (Nat × Option (List AV))} {nidl : Nat} {z0 : Lo} {md : Md} {d : Nat} {ty : TypeId} {pos : String} {af : Array Edge} {tys : Array TypeId} {x0 x1 : Operand} (ha0 : ev (lk tsl) x0 = some (sl c7 m)) (ha1 : ev (lk tsl) x1 = some (m5 x)) (hmc : MC Tryz.prog 190 [sl c7 m, m5 x] [] 0 (fun _ : Unit => True) (fun _ => .tup [.own 1 0 m.length 4, iv 0]) (fun _ => [(1, some (aI fR (eE m j (.own 3 0 r.length 2)))), (3, some (aI dM r))])) (hM : Nat.ble (nidl + 4) eS = true) (hN : Nat.blt d N = true) {md' : Md} [hmd : MdA md (gL [x0, x1] ++ []) (List.map Sum.inr (List.map Prod.fst ([((nidl + 1), some (aI fR (eE m j (.own (nidl + 3) 0 r.length 2)))), ((nidl + 3), some (aI dM r))] : List (Nat × Option (List AV)))) ++ [.inl d]) md'] (kk : RW Tryz.prog N all Q md' rest ⟨(d, .tup [.own (nidl + 1) 0 m.length 4, iv 0]) :: tsl, iH hsl [((nidl + 1), some (aI fR (eE m j (.own (nidl + 3) 0 r.length 2)))), ((nidl + 3), some (aI dM r))], nidl + 4, z0⟩) : RW Tryz.prog N all Q md (⟨some d, .call ⟨.value (.func 190), #[x0, x1], tys⟩, ty, pos, af, none⟩ :: rest) ⟨tsl, hsl, nidl, z0⟩ := by
 refine cE [] 4 [((nidl + 1), some (aI fR (eE m j (.own (nidl + 3) 0 r.length 2)))), ((nidl + 3), some (aI dM r))] hmc (avs := [sl c7 m, m5 x]) ?_ rfl ?_ rfl ?_ (by simpa using hM) ?_ ?_ ?_ hN (md' := md') (hmd := hmd) kk
 ·show evL (lk tsl) [x0, x1] = _
  simp only [evL, ha0, ha1]
 ·exact trivial
 ·(repeat' (exact RnL.purI inferInstance))
 ·(repeat' (first|exact RnL.purI inferInstance|exact RnV.own rfl|refine RnL.cons ?_ ?_|refine RnV.tup ?_))
 ·simp [dL]
 ·(repeat' (first|exact trivial|(refine And.intro ⟨1, _, rfl, rfl, ?_⟩ ?_)|(refine And.intro ⟨3, _, rfl, rfl, ?_⟩ ?_)|exact RnL.purI inferInstance|exact kP rfl))
theorem GW (m : List Cl) (x : Pt) (j : Nat) (r : List Tg) (hm : OkM m) (hk : cP m x true = 0) (hj : j = x.cell.toNat) (hr : r = fP m[j]!.stk (dE m[j]!.stk x.tag).toNat true) : MC Tryz.prog 190 [sl c7 m, m5 x] [] 0 (fun _ : Unit => True) (fun _ => .tup [.own 1 0 m.length 4, iv 0]) (fun _ => [(1, some (aI fR (eE m j (.own 3 0 r.length 2)))), (3, some (aI dM r))]) := by
 subst hj
 have hml := hm.l
 obtain ⟨h1, h2, h3, h4, hu⟩ := eU hk
 have hk0 : cP m x false = 0 := rU h1 h2 h3 h4
 have hs2 : m[x.cell.toNat]!.stk.length ≤ 200 := (((eA m).1 hm).2 x.cell.toNat (by omega)).l.2
 have hpl := k7 m hm x
 rw [if_pos hk0, hk0] at hpl
 have hbd := eZ m[x.cell.toNat]!.stk x.tag
 obtain ⟨k, hkk⟩ := Int.eq_ofNat_of_zero_le h4
 have hkt : (dE m[x.cell.toNat]!.stk x.tag).toNat = k := by omega
 rw [hkk] at hpl
 rw [hkt] at hr hu
 have hkn : k < m[x.cell.toNat]!.stk.length := by omega
 have e1 : List.take (((k : Int) + 1).toNat - 0) (List.drop 0 m[x.cell.toNat]!.stk) = r := by rw [List.drop_zero, hr]; unfold fP;rw [if_pos rfl]; congr 1
 have e2 : r.length = k + 1 := by rw [← e1, List.drop_zero, List.length_take]; omega
 have hut := hu rfl
 (refine cC Tryz.func190 rfl (by simp [Tryz.ntmps190]) ?_; rw [Tryz.ntmps190])
 repeat' (first|(apply aL;first|(apply fW;rfl;exact gP m hm;rfl;rfl)|((with_reducible apply aJ (k := 195));(case ha => rfl);(case h => exact hpl);(case hp => (exact Pur.pf));(case hN => rfl))|(with_reducible apply cS (d := 46))|(apply aE;rfl;rfl)|(first|(apply aN;rfl;rfl;rfl;rfl)|(apply aV;rfl;rfl;(exact (rfl:_=[_, _]));rfl;rfl;rfl))|(apply aD;rfl;rfl;rfl)|(first|(apply bR;rfl;rfl;omega;rfl)|(apply aT;rfl;rfl;rfl;rfl))|(apply aC;rfl;rfl)|(first|(apply aZ;(case hx|hi => rfl);(case hm => (assumption));(case hml => (rfl));(case hα | hf|hg => infer_instance);(case hN => rfl))|(apply cL;(case hx|hi => rfl);(case hm => (omega));(case hml => (rfl));(case hα | hf|hg => infer_instance);(case hN => rfl)))|(apply aF;kernel_rfl)|(apply gN;rfl;infer_instance;rfl;rfl;(omega);rfl)|(apply cG;rfl;rfl)|(apply bK;rfl;rfl;rfl;rfl)|(apply bE;rfl;rfl;rfl)|(apply bZ;rfl;rfl;rfl;(rfl);rfl;rfl))|(apply aM;first|apply aH|apply aB|(apply b0;kernel_rfl)|(apply cH;rfl;(rfl))|(apply aO;rfl;all_goals intro hc;have hq:=hc;(try simp only [cJ] at hq);try exfalso;omega)|apply aS|apply aR)|with_reducible apply aA|with_reducible apply bJ)
 ·exfalso; have hf : m[x.cell.toNat]!.stk[k]!.uq = false := by assumption
  rw [hut] at hf;exact absurd hf (by decide)
 refine dO ?_
 rw [e1]
 repeat' (first|(apply aL;first|(apply aE;rfl;rfl)|(apply aD;rfl;rfl;rfl)|(apply aC;rfl;rfl)|(apply cR;rfl;rfl;(omega);rfl)|(apply bW;rfl;rfl;rfl;rfl;rfl;(case hl => (simp [aQ]; done));(exact iJ (by (rfl)));omega;omega;(exact e9 (by (omega)));rfl;rfl)|(apply aF;kernel_rfl)|(apply aX;rfl;rfl;rfl;rfl;rfl;(rw [aQ]; simp only [fY] <;> omega);(exact x7 (by (omega)))))|(apply aM;first|apply aH|apply aB|apply aR)|with_reducible apply aA)
 (refine aP rfl ?_; refine bU () trivial ?_ ⟨.inr (Eq.trans (b := some _) rfl ?_), ⟨.inr (Eq.trans (b := some _) rfl ?_), trivial⟩⟩)
 ·rfl
 ·rw [Nat.zero_add r.length]
 ·rfl
theorem lW {m : List Cl} {x : Pt} {u : Bool} {r : List Tg} (hk : cP m x u = 0) (hr : r = fP m[x.cell.toNat]!.stk (dE m[x.cell.toNat]!.stk x.tag).toNat u) : kU m x u = kA m x.cell.toNat r ∧ j5 m x u = j9 m m x.cell.toNat u r ∧ oU m x u = kB m x.cell.toNat r := by
 obtain ⟨h1, h2, _⟩ := eU hk
 subst hr
 have e : kU m x u = kA m x.cell.toNat (fP m[x.cell.toNat]!.stk (dE m[x.cell.toNat]!.stk x.tag).toNat u) := by
  unfold kU;rw [if_pos hk]; rfl
 refine ⟨e, ?_, ?_⟩
 ·unfold j5 j9
  rw [e]; unfold kA
  split
  ·rw [if_neg (by decide)]
  ·rw [if_pos rfl]; rfl
 ·unfold oU kB
  rw [e]; unfold kA
  split
  ·rw [if_neg (by decide)]
  ·rw [if_pos rfl, Int.toNat_of_nonneg h1]
theorem Ha {m : List Cl} {x : Pt} {u : Bool} (hk : cP m x u ≠ 0) : kU m x u = cP m x u ∧ j5 m x u = m ∧ oU m x u = ⟨0, 0⟩ := by
 have e : kU m x u = cP m x u := by unfold kU;rw [if_neg hk]
 exact ⟨e, by unfold j5;rw [if_neg (by rw [e]; exact hk)], by unfold oU;rw [if_neg (by rw [e]; exact hk)]⟩
theorem yS (m : List Cl) (hm : OkM m) (x : Pt) : PC Tryz.prog 193 [sl c7 m, m5 x] (fun r => r = .tup [sl c7 (j5 m x false), m5 (oU m x false), iv (kU m x false)]) := by
 have hml := hm.l
 by_cases hk : cP m x false = 0
 ·obtain ⟨c, t⟩ := x
  obtain ⟨h1, h2, _⟩ := eU hk
  have h1' : 0 ≤ c := h1
  obtain ⟨j, rfl⟩ := Int.eq_ofNat_of_zero_le h1'
  have h2' : (j : Int) < m.length := h2
  have hc := ((eA m).1 hm).2 j (by omega)
  obtain ⟨r, hr⟩ : ∃ r, r = fP m[j]!.stk (dE m[j]!.stk t).toNat false := ⟨_, rfl⟩
  have hrl : r.length ≤ 200 := by rw [hr]; exact Nat.le_trans tchS_sub.length_le hc.l.2
  obtain ⟨e1, e2, e3⟩ := lW hk hr
  have hpu := Av m m j false r m.length r.length hm rfl rfl (by omega) (by have := hc.n;omega) hrl hml
  rw [e1, e2, e3]
  (refine aU Tryz.func193 rfl (by simp [Tryz.ntmps193]) ?_; rw [Tryz.ntmps193])
  repeat' (first|(apply aL;first|((apply Hx (j := j) (r := r) (v := m[j]!.val));(case ha0|ha1 => rfl);(case hmc => exact IG m _ _ r _ hm hk rfl hr rfl);(case hM|hN => rfl))|((apply v7 (m := m) (b := m) (j := j) (u := false) (r := r) (n := m.length) (k := r.length));(case ha0|ha1|ha2|ha3|hH0|hH1|hdd => rfl);(case hmc => exact hpu);(case hM|hN => rfl))|(apply aE;rfl;rfl)|(first|(apply aN;rfl;rfl;rfl;rfl)|(apply aV;rfl;rfl;(exact (rfl:_=[_, _]));rfl;rfl;rfl))|(apply aD;rfl;rfl;rfl)|(apply aT;rfl;rfl;rfl;rfl)|(apply aC;rfl;rfl)|(apply aF;kernel_rfl)|(apply bK;rfl;rfl;rfl;rfl)|(apply bI;rfl;rfl)|(apply bE;rfl;rfl;rfl)|(apply aX;rfl;rfl;rfl;rfl;rfl;(case hl => (simp;done));(exact (rfl:_=[_, _]))))|(apply aM;first|apply aH|apply aB|(apply cH;rfl;(rfl))|apply aS|apply aR)|with_reducible apply aA)
  exact aP (l := [sl c7 (j9 m m j false r), .agg [iv (kB m j r).cell, iv (kB m j r).tag], iv (kA m j r)]) rfl ⟨rfl, by (exact Pur.pf)⟩
 ·obtain ⟨e1, e2, e3⟩ := Ha hk
  have hrd := qG m hm x
  have e4 : dS m x false = m := by unfold dS;rw [if_neg hk]
  rw [e4] at hrd
  rw [e1, e2, e3]
  (refine aU Tryz.func193 rfl (by simp [Tryz.ntmps193]) ?_; rw [Tryz.ntmps193])
  repeat' (first|(apply aL;first|((with_reducible apply aJ (k := 148));(case ha => rfl);(case h => exact hrd);(case hp => (exact Pur.pf));(case hN => rfl))|(apply aE;rfl;rfl)|(apply aV;rfl;rfl;(exact (rfl:_=[_, _]));rfl;rfl;rfl)|(apply aT;rfl;rfl;rfl;rfl)|(apply aC;rfl;rfl)|(apply aF;kernel_rfl)|(apply b8;rfl;(exact (rfl:_=some [_, _]));(exact (rfl:_=[_, _]));rfl)|(apply bK;rfl;rfl;rfl;rfl)|(apply bI;rfl;rfl)|(apply bE;rfl;rfl;rfl)|(apply aX;rfl;rfl;rfl;rfl;rfl;(decide);(exact (rfl:_=[_, _]))))|(apply aM;first|apply aH|apply aB|(apply aO;rfl;all_goals intro hc;have hq:=hc;(try simp only [cJ] at hq);try exfalso;omega)|apply aR)|with_reducible apply aA|with_reducible apply bJ)
  skip
  exact aP (l := [sl c7 m, .agg [iv 0, iv 0], iv (cP m x false)]) rfl ⟨rfl, by (exact Pur.pf)⟩
theorem vE (m : List Cl) (hm : OkM m) (x : Pt) : PC Tryz.prog 194 [sl c7 m, m5 x] (fun r => r = .tup [sl c7 (j5 m x true), m5 (oU m x true), iv (kU m x true)]) := by
 have hml := hm.l
 by_cases hk : cP m x true = 0
 ·obtain ⟨c, t⟩ := x
  obtain ⟨h1, h2, _⟩ := eU hk
  have h1' : 0 ≤ c := h1
  obtain ⟨j, rfl⟩ := Int.eq_ofNat_of_zero_le h1'
  have h2' : (j : Int) < m.length := h2
  have hc := ((eA m).1 hm).2 j (by omega)
  obtain ⟨r, hr⟩ : ∃ r, r = fP m[j]!.stk (dE m[j]!.stk t).toNat true := ⟨_, rfl⟩
  have hrl : r.length ≤ 200 := by rw [hr]; exact Nat.le_trans tchS_sub.length_le hc.l.2
  obtain ⟨e1, e2, e3⟩ := lW hk hr
  have hpu := Av m m j true r m.length r.length hm rfl rfl (by omega) (by have := hc.n;omega) hrl hml
  rw [e1, e2, e3]
  (refine aU Tryz.func194 rfl (by simp [Tryz.ntmps194]) ?_; rw [Tryz.ntmps194])
  repeat' (first|(apply aL;first|((apply DU (j := j) (r := r));(case ha0|ha1 => rfl);(case hmc => exact GW m _ _ r hm hk rfl hr);(case hM|hN => rfl))|((apply v7 (m := m) (b := m) (j := j) (u := true) (r := r) (n := m.length) (k := r.length));(case ha0|ha1|ha2|ha3|hH0|hH1|hdd => rfl);(case hmc => exact hpu);(case hM|hN => rfl))|(apply aE;rfl;rfl)|(first|(apply aN;rfl;rfl;rfl;rfl)|(apply aV;rfl;rfl;(exact (rfl:_=[_, _]));rfl;rfl;rfl))|(apply aD;rfl;rfl;rfl)|(apply aT;rfl;rfl;rfl;rfl)|(apply aC;rfl;rfl)|(apply aF;kernel_rfl)|(apply bK;rfl;rfl;rfl;rfl)|(apply bI;rfl;rfl)|(apply bE;rfl;rfl;rfl)|(apply aX;rfl;rfl;rfl;rfl;rfl;(case hl => (simp;done));(exact (rfl:_=[_, _]))))|(apply aM;first|apply aH|apply aB|(apply cH;rfl;(rfl))|apply aS|apply aR)|with_reducible apply aA)
  exact aP (l := [sl c7 (j9 m m j true r), .agg [iv (kB m j r).cell, iv (kB m j r).tag], iv (kA m j r)]) rfl ⟨rfl, by (exact Pur.pf)⟩
 ·obtain ⟨e1, e2, e3⟩ := Ha hk
  have hwr := jY m x hm
  have e4 : dS m x true = m := by unfold dS;rw [if_neg hk]
  rw [e1, e2, e3]
  (refine aU Tryz.func194 rfl (by simp [Tryz.ntmps194]) ?_; rw [Tryz.ntmps194])
  repeat' (first|(apply aL;first|(apply iV;rfl;rfl;exact hwr;rfl;rfl)|(apply aE;rfl;rfl)|(apply aV;rfl;rfl;(exact (rfl:_=[_, _]));rfl;rfl;rfl)|(apply aT;rfl;rfl;rfl;rfl)|(apply aC;rfl;rfl)|(apply aF;kernel_rfl)|(apply b8;rfl;(exact (rfl:_=some [_, _]));(exact (rfl:_=[_, _]));rfl)|(apply bK;rfl;rfl;rfl;rfl)|(apply bI;rfl;rfl)|(apply bE;rfl;rfl;rfl)|(apply aX;rfl;rfl;rfl;rfl;rfl;(decide);(exact (rfl:_=[_, _]))))|(apply aM;first|apply aH|apply aB|(apply aO;rfl;all_goals intro hc;have hq:=hc;(try simp only [cJ] at hq);try exfalso;omega)|apply aR)|with_reducible apply aA|with_reducible apply bJ)
  refine cD (Le.frzD (d := 4) (i := 3) (m := m.length) (cs := aI c7 (dS m x true)) rfl rfl) ?_
  rw [e4]
  exact aP (l := [sl c7 m, .agg [iv 0, iv 0], iv (cP m x true)]) rfl ⟨rfl, by (exact Pur.pf)⟩
abbrev gR (s : Mc) : AV := .agg [sl eH s.slots, sl c7 s.cells, sl cI s.read]
theorem vL {xs : List Sl} {k : Nat} {a : Bool} {b c d : Int} (hk : k < xs.length) : iN (aI eH xs) (0 + k * 4) [bv a, iv b, iv c, iv d] = aI eH (xs.set k ⟨a, b, ⟨c, d⟩⟩) := mS hk rfl
theorem pY (s : Mc) (v : Nat) (hv : v < s.slots.length) (hl : s.slots.length ≤ 1000000) : PC Tryz.prog 143 [gR s, iv (v : Int)] (fun r => r = gR ⟨s.slots.set v gW, s.cells, s.read⟩) := by
 (refine aU Tryz.func143 rfl (by simp [Tryz.ntmps143]) ?_; rw [Tryz.ntmps143])
 repeat' (first|(apply aL;first|(apply aE;rfl;rfl)|(first|(apply aN;rfl;rfl;rfl;rfl)|(apply aV;rfl;rfl;(exact (rfl:_=[_, _, _]));rfl;rfl;rfl))|(apply aD;rfl;rfl;rfl)|(apply cM;rfl;rfl;(omega);rfl)|(apply bW;rfl;rfl;rfl;rfl;rfl;(case hl => (simp [aQ]; done));(exact iJ (by (rfl)));omega;omega;(exact e9 (by (omega)));rfl;rfl)|(apply aF;kernel_rfl)|(apply b8;rfl;(exact (rfl:_=some [_, _, _, _]));(exact (rfl:_=[_, _, _, _]));rfl)|(apply bK;rfl;rfl;rfl;rfl)|(apply bI;rfl;rfl)|(apply bZ;rfl;rfl;rfl;(rfl);rfl;rfl)|(apply aX;rfl;rfl;rfl;rfl;rfl;(case hl => (first|(rw [aQ]; simp only [fY] <;> omega)|(simp;done)));(first|exact vL (by (assumption))|exact (rfl:_=[_, _, _]))))|(apply aM;first|apply aH|apply aB|apply aR)|with_reducible apply aA)
 refine cD (Le.frzC (j := 1) (i := 3) [] rfl rfl (by decide)) ?_
 have e : AV.imm (0 + s.slots.length) (aI eH (s.slots.set v gW)) = sl eH (s.slots.set v gW) := fO (by rw [List.length_set, Nat.zero_add])
 refine aP (l := [.agg [.imm (0 + s.slots.length) (aI eH (s.slots.set v gW)), sl c7 s.cells, sl cI s.read]]) rfl ?_
 rw [e]
 exact ⟨rfl, by (exact Pur.pf)⟩
theorem Fh (k : Int) : (if kN k = -1 then (0 : Int) else kN k) = if k = 1 then 3 else if k = 0 then 0 else 4 := by
 unfold kN e8
 by_cases h : k = 0
 ·subst h;rfl
 ·rw [if_neg h, if_neg h]
  by_cases h1 : k = 1
  ·rw [if_pos h1]; rfl
  ·rw [if_neg h1]; rfl
theorem lL (ts : List Int) (s : Mc) (v : Nat) (y : Sl) (hm : OkM s.cells) (hv : v < s.slots.length) (hvt : v < ts.length) (hl : s.slots.length ≤ 1000000) : PC Tryz.prog 144 [sl cI ts, gR s, iv (v : Int), E9 y] (fun r => r = .tup [gR (c6 ts s v y).1, iv (if (c6 ts s v y).2 = -1 then 0 else (c6 ts s v y).2)]) := by
 have hfc := mE s.cells hm s.slots[v]!.ptr
 (refine aU Tryz.func144 rfl (by simp [Tryz.ntmps144]) ?_; rw [Tryz.ntmps144])
 repeat' (first|(apply aL;first|((with_reducible apply aJ (k := 141));(case ha => rfl);(case h => exact hfc);(case hp => (exact Pur.pf));(case hN => rfl))|(apply aE;rfl;rfl)|(first|(apply aN;rfl;rfl;rfl;rfl)|(apply aV;rfl;rfl;(first|exact (rfl:_=[_, _])|exact (rfl:_=[_, _, _])|exact (rfl:_=[_, _, _, _]));rfl;rfl;rfl))|(apply aD;rfl;rfl;rfl)|(first|(apply bB;rfl;rfl;rfl;(assumption))|(apply bD;rfl;rfl;rfl;(assumption))|(apply bS;(case hj|hb|hN => rfl);all_goals (intro hg;have hq := hg;(try simp only [cJ] at hq);(try (exfalso;omega)))))|(apply aT;rfl;rfl;rfl;rfl)|(apply aC;rfl;rfl)|(first|(apply bV;rfl;(assumption);rfl;rfl)|(apply bQ;rfl;(assumption);rfl;rfl))|(first|(apply aZ;(case hx|hi => rfl);(case hm => (assumption));(case hml => (rfl));(case hα | hf|hg => infer_instance);(case hN => rfl))|(apply cM;rfl;rfl;(omega);rfl))|((with_reducible apply aJ (k := 142));(case ha => rfl);(case h => (apply kV <;> (fail)));(case hp => (rfl));(case hN => rfl))|(apply bW;rfl;rfl;rfl;rfl;rfl;(case hl => (simp [aQ]; done));(exact iJ (by (rfl)));omega;omega;(exact e9 (by (omega)));rfl;rfl)|(apply aF;kernel_rfl)|(apply bK;rfl;rfl;rfl;rfl)|(apply bI;rfl;rfl)|(apply bE;rfl;rfl;rfl)|(apply bZ;rfl;rfl;rfl;(rfl);rfl;rfl)|(apply aX;rfl;rfl;rfl;rfl;rfl;(case hl => (first|(rw [aQ]; simp only [fY] <;> omega)|(simp;done)));(first|exact vL (by (assumption))|exact (rfl:_=[_, _, _]))))|(apply aM;first|apply aH|apply aB|(apply b0;kernel_rfl)|(apply cH;rfl;(rfl))|(apply aO;rfl;all_goals intro hc;have hq:=hc;(try simp only [cJ] at hq);try exfalso;omega)|apply aS|apply aR)|with_reducible apply aA)
 all_goals (
  refine cD (Le.frzC (j := 2) (i := 4) [] rfl rfl (by decide)) ?_
  have e : AV.imm (0 + s.slots.length) (aI eH (s.slots.set v y)) = sl eH (s.slots.set v y) := fO (by rw [List.length_set, Nat.zero_add]))
 ·have hp : c6 ts s v y = (⟨s.slots.set v y, iD s.cells s.slots[v]!.ptr, s.read⟩, kN (cP s.cells s.slots[v]!.ptr true)) := if_pos ⟨by assumption, by assumption⟩
  refine aP (l := [.agg [.imm (0 + s.slots.length) (aI eH (s.slots.set v y)), sl c7 (iD s.cells s.slots[v]!.ptr), sl cI s.read], iv (if cP s.cells s.slots[v]!.ptr true = 1 then 3 else if cP s.cells s.slots[v]!.ptr true = 0 then 0 else 4)]) rfl ?_
  rw [e, hp]
  dsimp only
  rw [Fh]
  exact ⟨rfl, by (exact Pur.pf)⟩
 all_goals (
  have hp : c6 ts s v y = (⟨s.slots.set v y, s.cells, s.read⟩, -1) := if_neg (by
   rintro ⟨q1, q2⟩
   first|(exact (by assumption : ¬ ts[v]! = 2) q1)|(rw [(by assumption : s.slots[v]!.set = false)] at q2;exact absurd q2 (by decide)))
  refine aP (l := [.agg [.imm (0 + s.slots.length) (aI eH (s.slots.set v y)), sl c7 s.cells, sl cI s.read], iv 0]) rfl ?_
  rw [e, hp]
  exact ⟨rfl, by (exact Pur.pf)⟩)
def gk (e : Int) : Int := if e = -1 then 0 else e
theorem JY {t : Int} (h : t = 2 ∨ t = 4) : wC t = true := by
 unfold wC;rcases h with h|h <;> subst h <;> rfl
theorem LJ {t : Int} (h : ¬ t = 2) (h2 : ¬ t = 4) : ¬ wC t = true := by
 unfold wC;rw [decide_eq_false h, decide_eq_false h2]; decide
theorem xO {k : Int} (h : ¬ k = 0) : (if k = 1 then (3 : Int) else if k = 0 then 0 else 4) = e8 k := by
 unfold e8;rw [if_neg h]
theorem JR {m : List Cl} {x : Pt} {u : Bool} (h : ¬ kU m x u = 0) : j5 m x u = m := by unfold j5; rw [if_neg h]
theorem Hw (ts : List Int) (s : Mc) (x : Pnt) (hm : OkM s.cells) (hsl : s.slots.length = ts.length) (hx : 0 ≤ x.x ∧ x.x < ts.length) (hy : 0 ≤ x.y ∧ x.y < ts.length) (hl : ts.length ≤ 1000000) : PC Tryz.prog 146 [sl cI ts, gR s, fL x] (fun r => r = .tup [gR (c6 ts (if wC ts[x.y.toNat]! = true then ⟨s.slots.set x.y.toNat gW, s.cells, s.read⟩ else s) x.x.toNat s.slots[x.y.toNat]!).1, iv (gk (c6 ts (if wC ts[x.y.toNat]! = true then ⟨s.slots.set x.y.toNat gW, s.cells, s.read⟩ else s) x.x.toNat s.slots[x.y.toNat]!).2)]) := by
 have hcl := pY s x.y.toNat (by omega) (by omega)
 have hp1 := lL ts ⟨s.slots.set x.y.toNat gW, s.cells, s.read⟩ x.x.toNat s.slots[x.y.toNat]! hm (by show _ < (s.slots.set x.y.toNat gW).length;rw [List.length_set]; omega) (by omega) (by show (s.slots.set x.y.toNat gW).length ≤ _; rw [List.length_set]; omega)
 have hp2 := lL ts s x.x.toNat s.slots[x.y.toNat]! hm (by omega) (by omega) (by omega)
 rw [Int.toNat_of_nonneg hy.1] at hcl
 rw [Int.toNat_of_nonneg hx.1] at hp1 hp2
 (refine aU Tryz.func146 rfl (by simp [Tryz.ntmps146]) ?_; rw [Tryz.ntmps146])
 repeat' (first|(apply aL;first|((with_reducible apply aJ (k := 143));(case ha => rfl);(case h => exact hcl);(case hp => (exact Pur.pf));(case hN => rfl))|((with_reducible apply aJ (k := 144));(case ha => rfl);(case h => first|exact hp1|exact hp2);(case hp => (exact Pur.pf));(case hN => rfl))|(apply aE;rfl;rfl)|(first|(apply aN;rfl;rfl;rfl;rfl)|(apply aV;rfl;rfl;(first|exact (rfl:_=[_, _, _])|exact (rfl:_=[_, _, _, _]));rfl;rfl;rfl))|(apply aD;rfl;rfl;rfl)|(first|(apply bB;rfl;rfl;rfl;(assumption))|(apply bD;rfl;rfl;rfl;(assumption))|(apply bS;(case hj|hb|hN => rfl);all_goals (intro hg;have hq := hg;(try simp only [cJ] at hq);(try (exfalso;omega)))))|(apply aT;rfl;rfl;rfl;rfl)|(apply aC;rfl;rfl)|(first|(apply bV;rfl;(assumption);rfl;rfl)|(apply bQ;rfl;(assumption);rfl;rfl))|(apply cL;(case hx|hi => rfl);(case hm => (first|assumption|omega));(case hml => (rfl));(case hα | hf|hg => infer_instance);(case hN => rfl))|(apply aF;kernel_rfl)|(apply bK;rfl;rfl;rfl;rfl)|(apply bI;rfl;rfl)|(apply bE;rfl;rfl;rfl)|(apply aX;rfl;rfl;rfl;rfl;rfl;(case hl => (simp;done));(first|exact (rfl:_=[_, _, _])|exact (rfl:_=[_, _, _, _]))))|(apply aM;first|apply aH|apply aB|(apply cA;rfl;(rfl))|(apply aO;rfl;all_goals intro hc;have hq:=hc;(try simp only [cJ] at hq);try exfalso;omega)|apply aS|apply aR)|with_reducible apply aA)
 ·refine aP (l := [gR (c6 ts ⟨s.slots.set x.y.toNat gW, s.cells, s.read⟩ x.x.toNat s.slots[x.y.toNat]!).1, iv (gk (c6 ts ⟨s.slots.set x.y.toNat gW, s.cells, s.read⟩ x.x.toNat s.slots[x.y.toNat]!).2)]) rfl ⟨?_, by (exact Pur.pf)⟩
  rw [if_pos (JY (.inr (by assumption)))]; rfl
 ·refine aP (l := [gR (c6 ts s x.x.toNat s.slots[x.y.toNat]!).1, iv (gk (c6 ts s x.x.toNat s.slots[x.y.toNat]!).2)]) rfl ⟨?_, by (exact Pur.pf)⟩
  rw [if_neg (LJ (by assumption) (by assumption))]; rfl
 ·refine aP (l := [gR (c6 ts ⟨s.slots.set x.y.toNat gW, s.cells, s.read⟩ x.x.toNat s.slots[x.y.toNat]!).1, iv (gk (c6 ts ⟨s.slots.set x.y.toNat gW, s.cells, s.read⟩ x.x.toNat s.slots[x.y.toNat]!).2)]) rfl ⟨?_, by (exact Pur.pf)⟩
  rw [if_pos (JY (.inl (by assumption)))]; rfl
theorem Gd (ts : List Int) (s : Mc) (x : Pnt) (u : Bool) (hu : u = decide (x.op = 5)) (hm : OkM s.cells) (hsl : s.slots.length = ts.length) (hx : 0 ≤ x.x ∧ x.x < ts.length) (hy : 0 ≤ x.y ∧ x.y < ts.length) (hl : ts.length ≤ 1000000) : PC Tryz.prog 147 [sl cI ts, gR s, fL x] (fun r => r = if kU s.cells s.slots[x.y.toNat]!.ptr u = 0 then
  .tup [gR (c6 ts ⟨s.slots, j5 s.cells s.slots[x.y.toNat]!.ptr u, s.read⟩ x.x.toNat ⟨true, 0, oU s.cells s.slots[x.y.toNat]!.ptr u⟩).1, iv (gk (c6 ts ⟨s.slots, j5 s.cells s.slots[x.y.toNat]!.ptr u, s.read⟩ x.x.toNat ⟨true, 0, oU s.cells s.slots[x.y.toNat]!.ptr u⟩).2)]
  else .tup [gR s, iv (e8 (kU s.cells s.slots[x.y.toNat]!.ptr u))]) := by
 have hsh := yS s.cells hm s.slots[x.y.toNat]!.ptr
 have hbo := vE s.cells hm s.slots[x.y.toNat]!.ptr
 have hp1 := lL ts ⟨s.slots, j5 s.cells s.slots[x.y.toNat]!.ptr false, s.read⟩ x.x.toNat ⟨true, 0, oU s.cells s.slots[x.y.toNat]!.ptr false⟩ (hm.ln _ _) (by show _ < s.slots.length;omega) (by omega) (by show s.slots.length ≤ _; omega)
 have hp2 := lL ts ⟨s.slots, j5 s.cells s.slots[x.y.toNat]!.ptr true, s.read⟩ x.x.toNat ⟨true, 0, oU s.cells s.slots[x.y.toNat]!.ptr true⟩ (hm.ln _ _) (by show _ < s.slots.length;omega) (by omega) (by show s.slots.length ≤ _; omega)
 rw [Int.toNat_of_nonneg hx.1] at hp1 hp2
 (refine aU Tryz.func147 rfl (by simp [Tryz.ntmps147]) ?_; rw [Tryz.ntmps147])
 repeat' (first|(apply aL;first|((with_reducible apply aJ (k := 193));(case ha => rfl);(case h => exact hsh);(case hp => (exact Pur.pf));(case hN => rfl))|((with_reducible apply aJ (k := 194));(case ha => rfl);(case h => exact hbo);(case hp => (exact Pur.pf));(case hN => rfl))|((with_reducible apply aJ (k := 144) (avs := [sl cI ts, gR ⟨s.slots, j5 s.cells s.slots[x.y.toNat]!.ptr false, s.read⟩, iv x.x, E9 ⟨true, 0, oU s.cells s.slots[x.y.toNat]!.ptr false⟩]));(case ha => rfl);(case h => exact hp1);(case hp => (exact Pur.pf));(case hN => rfl))|((with_reducible apply aJ (k := 144) (avs := [sl cI ts, gR ⟨s.slots, j5 s.cells s.slots[x.y.toNat]!.ptr true, s.read⟩, iv x.x, E9 ⟨true, 0, oU s.cells s.slots[x.y.toNat]!.ptr true⟩]));(case ha => rfl);(case h => exact hp2);(case hp => (exact Pur.pf));(case hN => rfl))|(apply aE;rfl;rfl)|(first|(apply aN;rfl;rfl;rfl;rfl)|(apply aV;rfl;rfl;(first|exact (rfl:_=[_, _])|exact (rfl:_=[_, _, _]));rfl;rfl;rfl))|(apply aD;rfl;rfl;rfl)|(apply aT;rfl;rfl;rfl;rfl)|(apply aC;rfl;rfl)|(apply cL;(case hx|hi => rfl);(case hm => (omega));(case hml => (rfl));(case hα | hf|hg => infer_instance);(case hN => rfl))|((with_reducible apply aJ (k := 142));(case ha => rfl);(case h => (apply kV <;> (fail)));(case hp => (rfl));(case hN => rfl))|(apply aF;kernel_rfl)|(apply b8;rfl;(exact (rfl:_=some [_, _, _, _]));(exact (rfl:_=[_, _, _, _]));rfl)|(apply bK;rfl;rfl;rfl;rfl)|(apply bI;rfl;rfl)|(apply bE;rfl;rfl;rfl)|(apply aX;rfl;rfl;rfl;rfl;rfl;(case hl => (simp;done));(first|exact (rfl:_=[_, _])|exact (rfl:_=[_, _, _]))))|(apply aM;first|apply aH|apply aB|(apply b0;kernel_rfl)|(apply aO;rfl;all_goals intro hc;have hq:=hc;(try simp only [cJ] at hq);try exfalso;omega)|apply aS|apply aR)|with_reducible apply aA|with_reducible apply bJ)
 ·have hk : ¬ kU s.cells s.slots[x.y.toNat]!.ptr true = 0 := by assumption
  have hu2 : u = true := by rw [hu]; exact decide_eq_true (by assumption)
  subst hu2
  refine aP (l := [.agg [sl eH s.slots, sl c7 (j5 s.cells s.slots[x.y.toNat]!.ptr true), sl cI s.read], iv (if kU s.cells s.slots[x.y.toNat]!.ptr true = 1 then 3 else if kU s.cells s.slots[x.y.toNat]!.ptr true = 0 then 0 else 4)]) rfl ?_
  rw [xO hk, if_neg hk, JR hk]
  exact ⟨rfl, by (exact Pur.pf)⟩
 ·have hk : kU s.cells s.slots[x.y.toNat]!.ptr true = 0 := by assumption
  have hu2 : u = true := by rw [hu]; exact decide_eq_true (by assumption)
  subst hu2
  refine aP (l := [gR (c6 ts ⟨s.slots, j5 s.cells s.slots[x.y.toNat]!.ptr true, s.read⟩ x.x.toNat ⟨true, 0, oU s.cells s.slots[x.y.toNat]!.ptr true⟩).1, iv (gk (c6 ts ⟨s.slots, j5 s.cells s.slots[x.y.toNat]!.ptr true, s.read⟩ x.x.toNat ⟨true, 0, oU s.cells s.slots[x.y.toNat]!.ptr true⟩).2)]) rfl ⟨?_, by (exact Pur.pf)⟩
  rw [if_pos hk]; rfl
 ·have hk : ¬ kU s.cells s.slots[x.y.toNat]!.ptr false = 0 := by assumption
  have hu2 : u = false := by rw [hu]; exact decide_eq_false (by assumption)
  subst hu2
  refine aP (l := [.agg [sl eH s.slots, sl c7 (j5 s.cells s.slots[x.y.toNat]!.ptr false), sl cI s.read], iv (if kU s.cells s.slots[x.y.toNat]!.ptr false = 1 then 3 else if kU s.cells s.slots[x.y.toNat]!.ptr false = 0 then 0 else 4)]) rfl ?_
  rw [xO hk, if_neg hk, JR hk]
  exact ⟨rfl, by (exact Pur.pf)⟩
 ·have hk : kU s.cells s.slots[x.y.toNat]!.ptr false = 0 := by assumption
  have hu2 : u = false := by rw [hu]; exact decide_eq_false (by assumption)
  subst hu2
  refine aP (l := [gR (c6 ts ⟨s.slots, j5 s.cells s.slots[x.y.toNat]!.ptr false, s.read⟩ x.x.toNat ⟨true, 0, oU s.cells s.slots[x.y.toNat]!.ptr false⟩).1, iv (gk (c6 ts ⟨s.slots, j5 s.cells s.slots[x.y.toNat]!.ptr false, s.read⟩ x.x.toNat ⟨true, 0, oU s.cells s.slots[x.y.toNat]!.ptr false⟩).2)]) rfl ⟨?_, by (exact Pur.pf)⟩
  rw [if_pos hk]; rfl
theorem Kz (ts : List Int) (s : Mc) (x : Pnt) (ho : x.op = 1) (hm : OkM s.cells) (hsl : s.slots.length = ts.length) (hx : 0 ≤ x.x ∧ x.x < ts.length) (hl : ts.length ≤ 1000000) : PC Tryz.prog 91 [sl cI ts, gR s, fL x] (fun r => r = .tup [gR (c9 ts s x).1, iv (gk (c9 ts s x).2)]) := by
 have hp := lL ts s x.x.toNat ⟨true, x.n, ⟨0, 0⟩⟩ hm (by omega) (by omega) (by omega)
 rw [Int.toNat_of_nonneg hx.1] at hp
 have hd : c9 ts s x = c6 ts s x.x.toNat ⟨true, x.n, ⟨0, 0⟩⟩ := by unfold c9;rw [if_pos ho]
 rw [hd]
 (refine aU Tryz.func91 rfl (by simp [Tryz.ntmps91]) ?_; rw [Tryz.ntmps91])
 repeat' (first|(apply aL;first|((with_reducible apply aJ (k := 144) (avs := [sl cI ts, gR s, iv x.x, E9 ⟨true, x.n, ⟨0, 0⟩⟩]));(case ha => rfl);(case h => exact hp);(case hp => (exact Pur.pf));(case hN => rfl))|(apply aE;rfl;rfl)|(first|(apply aN;rfl;rfl;rfl;rfl)|(apply aV;rfl;rfl;(exact (rfl:_=[_, _, _]));rfl;rfl;rfl))|(apply aD;rfl;rfl;rfl)|(apply aT;rfl;rfl;rfl;rfl)|(apply aC;rfl;rfl)|(apply aF;kernel_rfl)|(apply b8;rfl;(exact (rfl:_=some [_, _, _, _]));(exact (rfl:_=[_, _, _, _]));rfl)|(apply bK;rfl;rfl;rfl;rfl)|(apply bI;rfl;rfl)|(apply bE;rfl;rfl;rfl)|(apply aX;rfl;rfl;rfl;rfl;rfl;(case hl => (simp;done));(exact (rfl:_=[_, _, _]))))|(apply aM;first|apply aH|apply aB|(apply aO;rfl;all_goals intro hc;have hq:=hc;(try simp only [cJ] at hq);try exfalso;omega)|apply aK|apply aR)|with_reducible apply aA|with_reducible apply bJ|with_reducible apply cQ)
 exact aP (l := [gR (c6 ts s x.x.toNat ⟨true, x.n, ⟨0, 0⟩⟩).1, iv (gk (c6 ts s x.x.toNat ⟨true, x.n, ⟨0, 0⟩⟩).2)]) rfl ⟨rfl, by (exact Pur.pf)⟩
theorem Kf (ts : List Int) (s : Mc) (x : Pnt) (ho : x.op = 2) (hm : OkM s.cells) (hsl : s.slots.length = ts.length) (hx : 0 ≤ x.x ∧ x.x < ts.length) (hn : 0 ≤ x.n ∧ x.n ≤ 9) (hl : ts.length ≤ 1000000) : PC Tryz.prog 91 [sl cI ts, gR s, fL x] (fun r => r = .tup [gR (c9 ts s x).1, iv (gk (c9 ts s x).2)]) := by
 have hml := hm.l
 have hnc := Cm s.cells hm x.n
 by_cases h2 : s.cells.length = 200
 ·rw [if_neg (by omega)] at hnc
  have hd : c9 ts s x = (s, 1) := by unfold c9;rw [if_neg (by omega), if_pos ho, if_pos h2]
  rw [hd]
  (refine aU Tryz.func91 rfl (by simp [Tryz.ntmps91]) ?_; rw [Tryz.ntmps91])
  repeat' (first|(apply aL;first|((with_reducible apply aJ (k := 145));(case ha => rfl);(case h => exact hnc);(case hp => (exact Pur.pf));(case hN => rfl))|(apply aE;rfl;rfl)|(first|(apply aN;rfl;rfl;rfl;rfl)|(apply aV;rfl;rfl;(exact (rfl:_=[_, _, _]));rfl;rfl;rfl))|(apply aD;rfl;rfl;rfl)|(apply aT;rfl;rfl;rfl;rfl)|(apply aC;rfl;rfl)|(apply aF;kernel_rfl)|(apply cG;rfl;rfl)|(apply bK;rfl;rfl;rfl;rfl)|(apply bI;rfl;rfl)|(apply bE;rfl;rfl;rfl)|(apply aX;rfl;rfl;rfl;rfl;rfl;(case hl => (first|decide|(simp;done)));(first|exact (rfl:_=[_, _])|exact (rfl:_=[_, _, _]))))|(apply aM;first|apply aH|apply aB|(apply cA;rfl;(rfl))|(apply aO;rfl;all_goals intro hc;have hq:=hc;(try simp only [cJ] at hq);try exfalso;omega)|apply aK|apply aR)|with_reducible apply aA|with_reducible apply bJ|with_reducible apply cQ)
  exact aP (l := [gR s, iv 1]) rfl ⟨rfl, by (exact Pur.pf)⟩
 ·rw [if_pos (by omega)] at hnc
  have hp := lL ts ⟨s.slots, s.cells ++ [nT x.n], s.read⟩ x.x.toNat ⟨true, 0, ⟨s.cells.length, 0⟩⟩ (hm.nw hn (by omega)) (by show _ < s.slots.length;omega) (by omega) (by show s.slots.length ≤ _; omega)
  rw [Int.toNat_of_nonneg hx.1] at hp
  have hd : c9 ts s x = c6 ts ⟨s.slots, s.cells ++ [nT x.n], s.read⟩ x.x.toNat ⟨true, 0, ⟨s.cells.length, 0⟩⟩ := by unfold c9;rw [if_neg (by omega), if_pos ho, if_neg h2]
  rw [hd]
  (refine aU Tryz.func91 rfl (by simp [Tryz.ntmps91]) ?_; rw [Tryz.ntmps91])
  repeat' (first|(apply aL;first|((with_reducible apply aJ (k := 145));(case ha => rfl);(case h => exact hnc);(case hp => (exact Pur.pf));(case hN => rfl))|((with_reducible apply aJ (k := 144) (avs := [sl cI ts, gR ⟨s.slots, s.cells ++ [nT x.n], s.read⟩, iv x.x, E9 ⟨true, 0, ⟨s.cells.length, 0⟩⟩]));(case ha => rfl);(case h => exact hp);(case hp => (exact Pur.pf));(case hN => rfl))|(apply aE;rfl;rfl)|(first|(apply aN;rfl;rfl;rfl;rfl)|(apply aV;rfl;rfl;(first|exact (rfl:_=[_, _])|exact (rfl:_=[_, _, _]));rfl;rfl;rfl))|(apply aD;rfl;rfl;rfl)|(apply aT;rfl;rfl;rfl;rfl)|(apply aC;rfl;rfl)|(apply aF;kernel_rfl)|(apply b8;rfl;(exact (rfl:_=some [_, _, _, _]));(exact (rfl:_=[_, _, _, _]));rfl)|(apply cG;rfl;rfl)|(apply bK;rfl;rfl;rfl;rfl)|(apply bI;rfl;rfl)|(apply bE;rfl;rfl;rfl)|(apply aX;rfl;rfl;rfl;rfl;rfl;(case hl => (simp;done));(first|exact (rfl:_=[_, _])|exact (rfl:_=[_, _, _]))))|(apply aM;first|apply aH|apply aB|(apply cH;rfl;(rfl))|(apply aO;rfl;all_goals intro hc;have hq:=hc;(try simp only [cJ] at hq);try exfalso;omega)|apply aK|apply aS|apply aR)|with_reducible apply aA|with_reducible apply bJ|with_reducible apply cQ)
  exact aP (l := [gR (c6 ts ⟨s.slots, s.cells ++ [nT x.n], s.read⟩ x.x.toNat ⟨true, 0, ⟨s.cells.length, 0⟩⟩).1, iv (gk (c6 ts ⟨s.slots, s.cells ++ [nT x.n], s.read⟩ x.x.toNat ⟨true, 0, ⟨s.cells.length, 0⟩⟩).2)]) rfl ⟨rfl, by (exact Pur.pf)⟩
theorem Lt (ts : List Int) (s : Mc) (x : Pnt) (ho : x.op = 3) (hm : OkM s.cells) (hsl : s.slots.length = ts.length) (hx : 0 ≤ x.x ∧ x.x < ts.length) (hy : 0 ≤ x.y ∧ x.y < ts.length) (hl : ts.length ≤ 1000000) : PC Tryz.prog 91 [sl cI ts, gR s, fL x] (fun r => r = .tup [gR (c9 ts s x).1, iv (gk (c9 ts s x).2)]) := by
 have hmv := Hw ts s x hm hsl hx hy hl
 have hd : c9 ts s x = c6 ts (if wC ts[x.y.toNat]! = true then ⟨s.slots.set x.y.toNat gW, s.cells, s.read⟩ else s) x.x.toNat s.slots[x.y.toNat]! := by unfold c9;rw [if_neg (by omega), if_neg (by omega), if_pos ho]
 rw [← hd] at hmv
 (refine aU Tryz.func91 rfl (by simp [Tryz.ntmps91]) ?_; rw [Tryz.ntmps91])
 repeat' (first|(apply aL;first|((with_reducible apply aJ (k := 146));(case ha => rfl);(case h => exact hmv);(case hp => (exact Pur.pf));(case hN => rfl))|(apply aE;rfl;rfl)|(first|(apply aN;rfl;rfl;rfl;rfl)|(apply aV;rfl;rfl;(first|exact (rfl:_=[_, _, _])|exact (rfl:_=[_, _, _, _, _]));rfl;rfl;rfl))|(apply aD;rfl;rfl;rfl)|(apply aT;rfl;rfl;rfl;rfl)|(apply aC;rfl;rfl)|(apply aF;kernel_rfl)|(apply bK;rfl;rfl;rfl;rfl)|(apply bI;rfl;rfl)|(apply bE;rfl;rfl;rfl)|(apply aX;rfl;rfl;rfl;rfl;rfl;(case hl => (simp;done));(exact (rfl:_=[_, _, _]))))|(apply aM;first|apply aH|apply aB|(apply aO;rfl;all_goals intro hc;have hq:=hc;(try simp only [cJ] at hq);try exfalso;omega)|apply aK|apply aR)|with_reducible apply aA|with_reducible apply bJ|with_reducible apply cQ)
 exact aP (l := [gR (c9 ts s x).1, iv (gk (c9 ts s x).2)]) rfl ⟨rfl, by (exact Pur.pf)⟩
theorem Il (ts : List Int) (s : Mc) (x : Pnt) (ho : x.op = 4 ∨ x.op = 5) (hm : OkM s.cells) (hsl : s.slots.length = ts.length) (hx : 0 ≤ x.x ∧ x.x < ts.length) (hy : 0 ≤ x.y ∧ x.y < ts.length) (hl : ts.length ≤ 1000000) : PC Tryz.prog 91 [sl cI ts, gR s, fL x] (fun r => r = .tup [gR (c9 ts s x).1, iv (gk (c9 ts s x).2)]) := by
 have hmk := Gd ts s x (decide (x.op = 5)) rfl hm hsl hx hy hl
 have h0 : c9 ts s x = (if kU s.cells s.slots[x.y.toNat]!.ptr (decide (x.op = 5)) = 0 then c6 ts ⟨s.slots, j5 s.cells s.slots[x.y.toNat]!.ptr (decide (x.op = 5)), s.read⟩ x.x.toNat ⟨true, 0, oU s.cells s.slots[x.y.toNat]!.ptr (decide (x.op = 5))⟩
   else (s, e8 (kU s.cells s.slots[x.y.toNat]!.ptr (decide (x.op = 5))))) := by
  unfold c9;rw [if_neg (show ¬ x.op = 1 by omega), if_neg (show ¬ x.op = 2 by omega), if_neg (show ¬ x.op = 3 by omega), if_pos ho]
 have hd : ∀ r, (r = if kU s.cells s.slots[x.y.toNat]!.ptr (decide (x.op = 5)) = 0 then
   AV.tup [gR (c6 ts ⟨s.slots, j5 s.cells s.slots[x.y.toNat]!.ptr (decide (x.op = 5)), s.read⟩ x.x.toNat ⟨true, 0, oU s.cells s.slots[x.y.toNat]!.ptr (decide (x.op = 5))⟩).1, iv (gk (c6 ts ⟨s.slots, j5 s.cells s.slots[x.y.toNat]!.ptr (decide (x.op = 5)), s.read⟩ x.x.toNat ⟨true, 0, oU s.cells s.slots[x.y.toNat]!.ptr (decide (x.op = 5))⟩).2)]
   else AV.tup [gR s, iv (e8 (kU s.cells s.slots[x.y.toNat]!.ptr (decide (x.op = 5))))]) = (r = AV.tup [gR (c9 ts s x).1, iv (gk (c9 ts s x).2)]) := by
  intro r
  rw [h0]
  by_cases hk : kU s.cells s.slots[x.y.toNat]!.ptr (decide (x.op = 5)) = 0
  ·rw [if_pos hk, if_pos hk]
  ·rw [if_neg hk, if_neg hk]
   have : ∀ k, gk (e8 k) = e8 k := fun k => by unfold gk e8;split <;> rfl
   dsimp only
   rw [this]
 simp only [hd] at hmk
 (refine aU Tryz.func91 rfl (by simp [Tryz.ntmps91]) ?_; rw [Tryz.ntmps91])
 repeat' (first|(apply aL;first|((with_reducible apply aJ (k := 147));(case ha => rfl);(case h => exact hmk);(case hp => (exact Pur.pf));(case hN => rfl))|(apply aE;rfl;rfl)|(first|(apply aN;rfl;rfl;rfl;rfl)|(apply aV;rfl;rfl;(first|exact (rfl:_=[_, _, _])|exact (rfl:_=[_, _, _, _, _]));rfl;rfl;rfl))|(apply aD;rfl;rfl;rfl)|(apply aT;rfl;rfl;rfl;rfl)|(apply aC;rfl;rfl)|(apply aF;kernel_rfl)|(apply bK;rfl;rfl;rfl;rfl)|(apply bI;rfl;rfl)|(apply bE;rfl;rfl;rfl)|(apply aX;rfl;rfl;rfl;rfl;rfl;(case hl => (simp;done));(exact (rfl:_=[_, _, _]))))|(apply aM;first|apply aH|apply aB|(apply cA;rfl;(assumption))|(apply aO;rfl;all_goals intro hc;have hq:=hc;(try simp only [cJ] at hq);try exfalso;omega)|apply aK|apply aS|apply aR)|with_reducible apply aA|with_reducible apply bJ|with_reducible apply cQ)
 all_goals exact aP (l := [gR (c9 ts s x).1, iv (gk (c9 ts s x).2)]) rfl ⟨rfl, by (exact Pur.pf)⟩
theorem J4 (ts : List Int) (s : Mc) (x : Pnt) (ho : x.op = 6) (hm : OkM s.cells) (hsl : s.slots.length = ts.length) (hx : 0 ≤ x.x ∧ x.x < ts.length) (hy : 0 ≤ x.y ∧ x.y < ts.length) (hl : ts.length ≤ 1000000) (hrl : s.read.length ≤ 1000000) : PC Tryz.prog 91 [sl cI ts, gR s, fL x] (fun r => r = .tup [gR (c9 ts s x).1, iv (gk (c9 ts s x).2)]) := by
 have hrd := qG s.cells hm s.slots[x.y.toNat]!.ptr
 have h0 : c9 ts s x = (if cP s.cells s.slots[x.y.toNat]!.ptr false = 0 then c6 ts ⟨s.slots, dS s.cells s.slots[x.y.toNat]!.ptr false, s.read ++ [nK s.cells s.slots[x.y.toNat]!.ptr]⟩ x.x.toNat ⟨true, nK s.cells s.slots[x.y.toNat]!.ptr, ⟨0, 0⟩⟩
   else (s, e8 (cP s.cells s.slots[x.y.toNat]!.ptr false))) := by
  unfold c9;rw [if_neg (show ¬ x.op = 1 by omega), if_neg (show ¬ x.op = 2 by omega), if_neg (show ¬ x.op = 3 by omega), if_neg (show ¬ (x.op = 4 ∨ x.op = 5) by omega), if_pos ho]
 have hp := lL ts ⟨s.slots, dS s.cells s.slots[x.y.toNat]!.ptr false, s.read ++ [nK s.cells s.slots[x.y.toNat]!.ptr]⟩ x.x.toNat ⟨true, nK s.cells s.slots[x.y.toNat]!.ptr, ⟨0, 0⟩⟩ (hm.tch _ _) (by show _ < s.slots.length;omega) (by omega) (by show s.slots.length ≤ _; omega)
 rw [Int.toNat_of_nonneg hx.1] at hp
 by_cases hk : cP s.cells s.slots[x.y.toNat]!.ptr false = 0
 ·rw [if_pos hk] at h0
  rw [h0]
  (refine aU Tryz.func91 rfl (by simp [Tryz.ntmps91]) ?_; rw [Tryz.ntmps91])
  repeat' (first|(apply aL;first|((with_reducible apply aJ (k := 148));(case ha => rfl);(case h => exact hrd);(case hp => (exact Pur.pf));(case hN => rfl))|(with_reducible apply cS (d := 105))|(apply aE;rfl;rfl)|(first|(apply aN;rfl;rfl;rfl;rfl)|(apply aV;rfl;rfl;(exact (rfl:_=[_, _]));rfl;rfl;rfl))|(apply aD;rfl;rfl;rfl)|(apply aT;rfl;rfl;rfl;rfl)|(apply aC;rfl;rfl)|(apply cL;(case hx|hi => rfl);(case hm => (omega));(case hml => (rfl));(case hα | hf|hg => infer_instance);(case hN => rfl))|(apply bW;rfl;rfl;rfl;rfl;rfl;(case hl => first|(rw [aQ]; omega)|(simp [aQ]; done));(first|rfl|exact iJ (by (rfl)));omega;omega;(first|exact e9 (by (omega))|exact gA (by (omega)));rfl;rfl)|(apply aF;kernel_rfl)|(apply bK;rfl;rfl;rfl;rfl)|(apply bI;rfl;rfl)|(apply bE;rfl;rfl;rfl)|(apply bZ;rfl;rfl;rfl;(first|exact (rfl:_=some [_])|rfl);rfl;rfl)|(apply aX;rfl;rfl;rfl;rfl;rfl;(case hl => (simp;done));(exact (rfl:_=[_, _, _]))))|(apply aM;first|apply aH|apply aB|(apply b0;kernel_rfl)|(apply aO;rfl;all_goals intro hc;have hq:=hc;(try simp only [cJ] at hq);try exfalso;omega)|apply aK|apply aS)|with_reducible apply aA)
  refine dO (hO ?_ (Le.frzC (j := 0) (i := 6) [sl eH s.slots, sl c7 (dS s.cells s.slots[x.y.toNat]!.ptr false)] (m := 0 + s.read.length + 1) (d := aI cI (s.read ++ [nK s.cells s.slots[x.y.toNat]!.ptr])) rfl rfl (by decide)))
  have e : AV.imm (0 + s.read.length + 1) (aI cI (s.read ++ [nK s.cells s.slots[x.y.toNat]!.ptr])) = sl cI (s.read ++ [nK s.cells s.slots[x.y.toNat]!.ptr]) := fO (by rw [Nat.zero_add, List.length_append]; rfl)
  rw [e]
  repeat' (first|(apply aL;first|((with_reducible apply aJ (k := 144) (avs := [sl cI ts, gR ⟨s.slots, dS s.cells s.slots[x.y.toNat]!.ptr false, s.read ++ [nK s.cells s.slots[x.y.toNat]!.ptr]⟩, iv x.x, E9 ⟨true, nK s.cells s.slots[x.y.toNat]!.ptr, ⟨0, 0⟩⟩]));(case ha => rfl);(case h => exact hp);(case hp => (exact Pur.pf));(case hN => rfl))|(apply aE;rfl;rfl)|(first|(apply aN;rfl;rfl;rfl;rfl)|(apply aV;rfl;rfl;(exact (rfl:_=[_, _, _]));rfl;rfl;rfl))|(apply aD;rfl;rfl;rfl)|(apply aC;rfl;rfl)|(apply aF;kernel_rfl)|(apply b8;rfl;(exact (rfl:_=some [_, _, _, _]));(exact (rfl:_=[_, _, _, _]));rfl)|(apply bE;rfl;rfl;rfl)|(apply aX;rfl;rfl;rfl;rfl;rfl;(case hl => (simp;done));(exact (rfl:_=[_, _, _]))))|(apply aM;(apply aR))|with_reducible apply aA|with_reducible apply bJ|with_reducible apply cQ)
  exact aP (l := [gR (c6 ts ⟨s.slots, dS s.cells s.slots[x.y.toNat]!.ptr false, s.read ++ [nK s.cells s.slots[x.y.toNat]!.ptr]⟩ x.x.toNat ⟨true, nK s.cells s.slots[x.y.toNat]!.ptr, ⟨0, 0⟩⟩).1, iv (gk (c6 ts ⟨s.slots, dS s.cells s.slots[x.y.toNat]!.ptr false, s.read ++ [nK s.cells s.slots[x.y.toNat]!.ptr]⟩ x.x.toNat ⟨true, nK s.cells s.slots[x.y.toNat]!.ptr, ⟨0, 0⟩⟩).2)]) rfl ⟨rfl, by (exact Pur.pf)⟩
 ·rw [if_neg hk] at h0
  rw [h0]
  have e4 : dS s.cells s.slots[x.y.toNat]!.ptr false = s.cells := by unfold dS;rw [if_neg hk]
  rw [e4] at hrd
  (refine aU Tryz.func91 rfl (by simp [Tryz.ntmps91]) ?_; rw [Tryz.ntmps91])
  repeat' (first|(apply aL;first|((with_reducible apply aJ (k := 148));(case ha => rfl);(case h => exact hrd);(case hp => (exact Pur.pf));(case hN => rfl))|(apply aE;rfl;rfl)|(first|(apply aN;rfl;rfl;rfl;rfl)|(apply aV;rfl;rfl;(first|exact (rfl:_=[_, _])|exact (rfl:_=[_, _, _]));rfl;rfl;rfl))|(apply aD;rfl;rfl;rfl)|(apply aT;rfl;rfl;rfl;rfl)|(apply aC;rfl;rfl)|(apply cL;(case hx|hi => rfl);(case hm => (omega));(case hml => (rfl));(case hα | hf|hg => infer_instance);(case hN => rfl))|((with_reducible apply aJ (k := 142));(case ha => rfl);(case h => (apply kV <;> (fail)));(case hp => (rfl));(case hN => rfl))|(apply aF;kernel_rfl)|(apply bK;rfl;rfl;rfl;rfl)|(apply bI;rfl;rfl)|(apply bE;rfl;rfl;rfl)|(apply aX;rfl;rfl;rfl;rfl;rfl;(case hl => (simp;done));(exact (rfl:_=[_, _, _]))))|(apply aM;first|apply aH|apply aB|(apply b0;kernel_rfl)|(apply aO;rfl;all_goals intro hc;have hq:=hc;(try simp only [cJ] at hq);try exfalso;omega)|apply aK|apply aR)|with_reducible apply aA|with_reducible apply bJ|with_reducible apply cQ)
  refine aP (l := [gR s, iv (if cP s.cells s.slots[x.y.toNat]!.ptr false = 1 then 3 else if cP s.cells s.slots[x.y.toNat]!.ptr false = 0 then 0 else 4)]) rfl ?_
  rw [xO hk]
  have : ∀ k, gk (e8 k) = e8 k := fun k => by unfold gk e8;split <;> rfl
  dsimp only
  rw [this]
  exact ⟨rfl, by (exact Pur.pf)⟩
theorem KE (ts : List Int) (s : Mc) (x : Pnt) (ho : x.op = 7) (hm : OkM s.cells) (hsl : s.slots.length = ts.length) (hx : 0 ≤ x.x ∧ x.x < ts.length) (hy : 0 ≤ x.y ∧ x.y < ts.length) (hl : ts.length ≤ 1000000) : PC Tryz.prog 91 [sl cI ts, gR s, fL x] (fun r => r = .tup [gR (c9 ts s x).1, iv (gk (c9 ts s x).2)]) := by
 have hwr := yW s.cells hm s.slots[x.x.toNat]!.ptr s.slots[x.y.toNat]!.num
 have h0 : c9 ts s x = (⟨s.slots, nP s.cells s.slots[x.x.toNat]!.ptr s.slots[x.y.toNat]!.num, s.read⟩, kN (oJ s.cells s.slots[x.x.toNat]!.ptr s.slots[x.y.toNat]!.num)) := by
  unfold c9;rw [if_neg (show ¬ x.op = 1 by omega), if_neg (show ¬ x.op = 2 by omega), if_neg (show ¬ x.op = 3 by omega), if_neg (show ¬ (x.op = 4 ∨ x.op = 5) by omega), if_neg (show ¬ x.op = 6 by omega), if_pos ho]
 rw [h0]
 (refine aU Tryz.func91 rfl (by simp [Tryz.ntmps91]) ?_; rw [Tryz.ntmps91])
 repeat' (first|(apply aL;first|((with_reducible apply aJ (k := 149));(case ha => rfl);(case h => exact hwr);(case hp => (exact Pur.pf));(case hN => rfl))|(apply aE;rfl;rfl)|(first|(apply aN;rfl;rfl;rfl;rfl)|(apply aV;rfl;rfl;(first|exact (rfl:_=[_, _])|exact (rfl:_=[_, _, _]));rfl;rfl;rfl))|(apply aD;rfl;rfl;rfl)|(apply aT;rfl;rfl;rfl;rfl)|(apply aC;rfl;rfl)|(apply cL;(case hx|hi => rfl);(case hm => (omega));(case hml => (rfl));(case hα | hf|hg => infer_instance);(case hN => rfl))|((with_reducible apply aJ (k := 142));(case ha => rfl);(case h => (apply kV <;> (fail)));(case hp => (rfl));(case hN => rfl))|(apply aF;kernel_rfl)|(apply bK;rfl;rfl;rfl;rfl)|(apply bI;rfl;rfl)|(apply bE;rfl;rfl;rfl)|(apply aX;rfl;rfl;rfl;rfl;rfl;(case hl => (simp;done));(exact (rfl:_=[_, _, _]))))|(apply aM;first|apply aH|apply aB|(apply b0;kernel_rfl)|(apply aO;rfl;all_goals intro hc;have hq:=hc;(try simp only [cJ] at hq);try exfalso;omega)|apply aK|apply aR)|with_reducible apply aA|with_reducible apply bJ|with_reducible apply cQ)
 refine aP (l := [gR ⟨s.slots, nP s.cells s.slots[x.x.toNat]!.ptr s.slots[x.y.toNat]!.num, s.read⟩, iv (if oJ s.cells s.slots[x.x.toNat]!.ptr s.slots[x.y.toNat]!.num = 1 then 3 else if oJ s.cells s.slots[x.x.toNat]!.ptr s.slots[x.y.toNat]!.num = 0 then 0 else 4)]) rfl ?_
 rw [← Fh]
 exact ⟨rfl, by (exact Pur.pf)⟩
theorem KI (ts : List Int) (s : Mc) (x : Pnt) (ho : x.op = 8) (hm : OkM s.cells) (hsl : s.slots.length = ts.length) (hx : 0 ≤ x.x ∧ x.x < ts.length) (hl : ts.length ≤ 1000000) : PC Tryz.prog 91 [sl cI ts, gR s, fL x] (fun r => r = .tup [gR (c9 ts s x).1, iv (gk (c9 ts s x).2)]) := by
 have hfr := mE s.cells hm s.slots[x.x.toNat]!.ptr
 have hcl := pY ⟨s.slots, iD s.cells s.slots[x.x.toNat]!.ptr, s.read⟩ x.x.toNat (by show _ < s.slots.length;omega) (by show s.slots.length ≤ _; omega)
 rw [Int.toNat_of_nonneg hx.1] at hcl
 have h0 : c9 ts s x = (⟨s.slots.set x.x.toNat gW, iD s.cells s.slots[x.x.toNat]!.ptr, s.read⟩, kN (cP s.cells s.slots[x.x.toNat]!.ptr true)) := by
  unfold c9;rw [if_neg (show ¬ x.op = 1 by omega), if_neg (show ¬ x.op = 2 by omega), if_neg (show ¬ x.op = 3 by omega), if_neg (show ¬ (x.op = 4 ∨ x.op = 5) by omega), if_neg (show ¬ x.op = 6 by omega), if_neg (show ¬ x.op = 7 by omega), if_pos ho]
 rw [h0]
 (refine aU Tryz.func91 rfl (by simp [Tryz.ntmps91]) ?_; rw [Tryz.ntmps91])
 repeat' (first|(apply aL;first|((with_reducible apply aJ (k := 141));(case ha => rfl);(case h => exact hfr);(case hp => (exact Pur.pf));(case hN => rfl))|((with_reducible apply aJ (k := 143));(case ha => rfl);(case h => exact hcl);(case hp => (exact Pur.pf));(case hN => rfl))|(apply aE;rfl;rfl)|(first|(apply aN;rfl;rfl;rfl;rfl)|(apply aV;rfl;rfl;(first|exact (rfl:_=[_, _])|exact (rfl:_=[_, _, _]));rfl;rfl;rfl))|(apply aD;rfl;rfl;rfl)|(apply aT;rfl;rfl;rfl;rfl)|(apply aC;rfl;rfl)|(apply cL;(case hx|hi => rfl);(case hm => (omega));(case hml => (rfl));(case hα | hf|hg => infer_instance);(case hN => rfl))|((with_reducible apply aJ (k := 142));(case ha => rfl);(case h => (apply kV <;> (fail)));(case hp => (rfl));(case hN => rfl))|(apply aF;kernel_rfl)|(apply bK;rfl;rfl;rfl;rfl)|(apply bI;rfl;rfl)|(apply bE;rfl;rfl;rfl)|(apply aX;rfl;rfl;rfl;rfl;rfl;(case hl => (simp;done));(exact (rfl:_=[_, _, _]))))|(apply aM;first|apply aH|apply aB|(apply b0;kernel_rfl)|(apply aO;rfl;all_goals intro hc;have hq:=hc;(try simp only [cJ] at hq);try exfalso;omega)|apply aK|apply aR)|with_reducible apply aA|with_reducible apply bJ|with_reducible apply cQ)
 refine aP (l := [gR ⟨s.slots.set x.x.toNat gW, iD s.cells s.slots[x.x.toNat]!.ptr, s.read⟩, iv (if cP s.cells s.slots[x.x.toNat]!.ptr true = 1 then 3 else if cP s.cells s.slots[x.x.toNat]!.ptr true = 0 then 0 else 4)]) rfl ?_
 rw [← Fh]
 exact ⟨rfl, by (exact Pur.pf)⟩
def KT (s : Mc) (x : Pnt) : Bool :=
 if x.op = 3 ∨ x.op = 4 ∨ x.op = 5 ∨ x.op = 6 then !s.slots[x.y.toNat]!.set
 else if x.op = 7 then !s.slots[x.x.toNat]!.set || !s.slots[x.y.toNat]!.set
 else if x.op = 8 then !s.slots[x.x.toNat]!.set else false
theorem EM (s : Mc) (x : Pnt) (hx : (x.op = 7 ∨ x.op = 8) → 0 ≤ x.x ∧ x.x < s.slots.length) (hy : (x.op = 3 ∨ x.op = 4 ∨ x.op = 5 ∨ x.op = 6 ∨ x.op = 7) → 0 ≤ x.y ∧ x.y < s.slots.length) : PC Tryz.prog 90 [fL x, gR s] (fun r => r = bv (KT s x)) := by
 (refine aU Tryz.func90 rfl (by simp [Tryz.ntmps90]) ?_; rw [Tryz.ntmps90])
 repeat' (first|(apply aL;first|(apply aE;rfl;rfl)|(apply aN;rfl;rfl;rfl;rfl)|(apply aD;rfl;rfl;rfl)|(first|(apply bB;rfl;rfl;rfl;(assumption))|(apply bD;rfl;rfl;rfl;(assumption))|(apply bS;(case hj|hb|hN => rfl);all_goals (intro hg;have hq := hg;(try simp only [cJ] at hq);(try (exfalso;omega)))))|(apply aT;rfl;rfl;rfl;rfl)|(apply aC;rfl;rfl)|(first|(apply bV;rfl;(assumption);rfl;rfl)|(apply bQ;rfl;(assumption);rfl;rfl))|(apply cL;(case hx|hi => rfl);(case hm => (omega));(case hml => (rfl));(case hα | hf|hg => infer_instance);(case hN => rfl))|(apply aF;kernel_rfl)|(apply cG;rfl;rfl)|(apply bK;rfl;rfl;rfl;rfl))|(apply aM;first|apply aH|apply aB|(apply cA;rfl;(assumption))|(apply aO;rfl;all_goals intro hc;have hq:=hc;(try simp only [cJ] at hq);try exfalso;omega)|apply aK|apply aS|apply aR)|with_reducible apply aA|with_reducible apply bJ|with_reducible apply aW|with_reducible apply cQ)
 all_goals (refine aP rfl ⟨?_, rfl⟩; simp only [bX, AV.v.injEq, Value.bool.injEq]; unfold KT;grind)
theorem xA {ts : List Int} {n v : Nat} {q : Mc} (h : ¬ (ts[v]! = 2 ∧ q.slots[v]!.set = true)) : dP ts (n + 1) v q = dP ts n (v + 1) q := by
 rw [dP, if_neg h]
theorem G5 {ts : List Int} {n v : Nat} {q : Mc} (h : ts[v]! = 2 ∧ q.slots[v]!.set = true) (hk : cP q.cells q.slots[v]!.ptr true = 0) : dP ts (n + 1) v q = dP ts n (v + 1) ⟨q.slots.set v gW, iD q.cells q.slots[v]!.ptr, q.read⟩ := by
 rw [dP, if_pos h, if_pos hk]
theorem Hj {ts : List Int} {n v : Nat} {q : Mc} (h : ts[v]! = 2 ∧ q.slots[v]!.set = true) (hk : ¬ cP q.cells q.slots[v]!.ptr true = 0) : dP ts (n + 1) v q = (⟨q.slots, iD q.cells q.slots[v]!.ptr, q.read⟩, e8 (cP q.cells q.slots[v]!.ptr true)) := by
 rw [dP, if_pos h, if_neg hk]
theorem HT (ts : List Int) (s : Mc) (hm : OkM s.cells) (hsl : s.slots.length = ts.length) (hl : ts.length ≤ 1000000) : PC Tryz.prog 89 [sl cI ts, gR s] (fun r => r = .tup [gR (dP ts ts.length 0 s).1, iv (dP ts ts.length 0 s).2]) := by
 (refine aU Tryz.func89 rfl (by simp [Tryz.ntmps89]) ?_; rw [Tryz.ntmps89])
 repeat' (first|(apply aL;first|(apply aC;rfl;rfl)|(apply aF;kernel_rfl)|(apply bK;rfl;rfl;rfl;rfl)|(apply bI;rfl;rfl))|(apply aM;first|apply aH|apply aB|apply aK)|with_reducible apply aA)
 refine a6 (σ := Nat × Mc) [0, 3, 4] [(0, _), (3, _), (4, _)] [1] [(1, some _)] (fun k => [(6, iv (k.1 : Int))]) (fun k => [(0, some [sl eH k.2.slots, sl c7 k.2.cells, sl cI k.2.read])]) (fun k => k.1 ≤ ts.length ∧ dP ts (ts.length - k.1) k.1 k.2 = dP ts ts.length 0 s ∧ OkM k.2.cells ∧ k.2.slots.length = ts.length) (fun k => ts.length - k.1) (0, s) ⟨Nat.zero_le _, rfl, hm, hsl⟩ rfl rfl (by repeat' (first|exact trivial|refine And.intro rfl ?_)) (by repeat' (first|exact trivial|refine And.intro (.inr rfl) ?_)) ?_
 rintro ⟨v, q⟩ ⟨hv, hf, hmq, hlq⟩
 dsimp only at hv hf hmq hlq ⊢
 have hfr := mE q.cells hmq q.slots[v]!.ptr
 have hcl := fun h => pY ⟨q.slots, iD q.cells q.slots[v]!.ptr, q.read⟩ v h (by show q.slots.length ≤ _; omega)
 repeat' (first|(apply aL;first|((with_reducible apply aJ (k := 141));(case ha => rfl);(case h => exact hfr);(case hp => (exact Pur.pf));(case hN => rfl))|((with_reducible apply aJ (k := 143));(case ha => rfl);(case h => exact hcl (by show v < q.slots.length;omega));(case hp => (exact Pur.pf));(case hN => rfl))|(apply aE;rfl;rfl)|(first|(apply aN;rfl;rfl;rfl;rfl)|(apply aV;rfl;rfl;(first|exact (rfl:_=[_, _])|exact (rfl:_=[_, _, _]));rfl;rfl;rfl))|(apply aD;rfl;rfl;rfl)|(first|(apply bB;rfl;rfl;rfl;(assumption))|(apply bD;rfl;rfl;rfl;(assumption))|(apply bS;(case hj|hb|hN => rfl);all_goals (intro hg;have hq := hg;(try simp only [cJ] at hq);(try (exfalso;omega)))))|(first|(apply bR;rfl;rfl;omega;rfl)|(apply aT;rfl;rfl;rfl;rfl))|(apply aC;rfl;rfl)|(first|(apply bV;rfl;(assumption);rfl;rfl)|(apply bQ;rfl;(assumption);rfl;rfl))|(apply aZ;(case hx|hi => rfl);(case hm => (omega));(case hml => (rfl));(case hα | hf|hg => infer_instance);(case hN => rfl))|((with_reducible apply aJ (k := 142));(case ha => rfl);(case h => (apply kV <;> (fail)));(case hp => (rfl));(case hN => rfl))|(apply bC;rfl;rfl;rfl)|(apply aF;kernel_rfl)|(apply cG;rfl;rfl)|(apply bE;rfl;rfl;rfl)|(apply aX;rfl;rfl;rfl;rfl;rfl;(case hl => (simp;done));(exact (rfl:_=[_, _, _]))))|(apply aM;first|apply aH|apply aB|(apply b0;kernel_rfl)|(apply cA;rfl;(rfl))|(apply aO;rfl;all_goals intro hc;have hq:=hc;(try simp only [cJ] at hq);try exfalso;omega)|apply aK|apply aS|apply bG|apply aR)|with_reducible apply aA|with_reducible apply bJ|with_reducible apply bH|with_reducible apply aW|with_reducible apply cQ|with_reducible apply bF)
 ·(apply dJ (v + 1, q); focus (refine Le.ren [(0, 0), (1, 1)] rfl (by decide) ?_ ?_ <;> repeat' (first | exact trivial | refine And.intro ⟨_, rfl, ?_⟩ ?_ | refine And.intro ⟨_, _, rfl, rfl, ?_⟩ ?_ | exact Or.inr rfl | refine Or.inl ⟨?_, (by first | rfl | exact aY _ _ | exact Pur.pf)⟩ | rfl)))
  ·refine ⟨by omega, ?_, hmq, hlq⟩
   dsimp only
   rw [← hf, show ts.length - v = (ts.length - (v + 1)) + 1 by omega, xA (fun h => by
    have h2 : q.slots[v]!.set = false := by assumption
    rw [h2] at h;exact absurd h.2 (by decide))]
  ·dsimp only;omega
 ·have hk : ¬ cP q.cells q.slots[v]!.ptr true = 0 := by assumption
  have hq2 : dP ts ts.length 0 s = (⟨q.slots, iD q.cells q.slots[v]!.ptr, q.read⟩, e8 (cP q.cells q.slots[v]!.ptr true)) := by
   rw [← hf, show ts.length - v = (ts.length - (v + 1)) + 1 by omega, Hj ⟨by assumption, by assumption⟩ hk]
  rw [hq2]
  refine aP (l := [gR ⟨q.slots, iD q.cells q.slots[v]!.ptr, q.read⟩, iv (if cP q.cells q.slots[v]!.ptr true = 1 then 3 else if cP q.cells q.slots[v]!.ptr true = 0 then 0 else 4)]) rfl ?_
  rw [xO hk]
  exact ⟨rfl, by (exact Pur.pf)⟩
 ·(apply dJ (v + 1, ⟨q.slots.set v gW, iD q.cells q.slots[v]!.ptr, q.read⟩); focus (refine Le.ren [(0, 0), (1, 1)] rfl (by decide) ?_ ?_ <;> repeat' (first | exact trivial | refine And.intro ⟨_, rfl, ?_⟩ ?_ | refine And.intro ⟨_, _, rfl, rfl, ?_⟩ ?_ | exact Or.inr rfl | refine Or.inl ⟨?_, (by first | rfl | exact aY _ _ | exact Pur.pf)⟩ | rfl)))
  ·refine ⟨by omega, ?_, hmq.fr _, by show (q.slots.set v gW).length = _; rw [List.length_set]; exact hlq⟩
   dsimp only
   rw [← hf, show ts.length - v = (ts.length - (v + 1)) + 1 by omega, G5 ⟨by assumption, by assumption⟩ (by assumption)]
  ·dsimp only;omega
 ·(apply dJ (v + 1, q); focus (refine Le.ren [(0, 0), (1, 1)] rfl (by decide) ?_ ?_ <;> repeat' (first | exact trivial | refine And.intro ⟨_, rfl, ?_⟩ ?_ | refine And.intro ⟨_, _, rfl, rfl, ?_⟩ ?_ | exact Or.inr rfl | refine Or.inl ⟨?_, (by first | rfl | exact aY _ _ | exact Pur.pf)⟩ | rfl)))
  ·refine ⟨by omega, ?_, hmq, hlq⟩
   dsimp only
   rw [← hf, show ts.length - v = (ts.length - (v + 1)) + 1 by omega, xA (fun h => by
    have h2 : ¬ ts[v]! = 2 := by assumption
    exact h2 h.1)]
  ·dsimp only;omega
 ·have hve : v = ts.length := by omega
  have hq2 : dP ts ts.length 0 s = (q, 0) := by rw [← hf, hve, Nat.sub_self]; rfl
  rw [hq2]
  exact aP (l := [gR q, iv 0]) rfl ⟨rfl, by (exact Pur.pf)⟩
theorem xR (p : Prg) (hl : p.types.length ≤ 1000000) (hs : b9 p.body ≤ 1000000) : PC Tryz.prog 116 [dT p] (fun r => r = sl dW (if dF p = true then cT p else [])) := by
 have hval := oP p hl (by omega)
 have h2 := nV p hs
 (refine aU Tryz.func116 rfl (by simp [Tryz.ntmps116]) ?_; rw [Tryz.ntmps116])
 repeat' (first|(apply aL;first|((with_reducible apply aJ (k := 87));(case ha => rfl);(case h => exact hval);(case hp => (exact Pur.pf));(case hN => rfl))|((with_reducible apply aJ (k := 60));(case ha => rfl);(case h => exact h2);(case hp => (exact Pur.pf));(case hN => rfl))|(apply aV;rfl;rfl;(exact (rfl:_=[_, _]));rfl;rfl;rfl)|(apply aC;rfl;rfl)|(apply aF;kernel_rfl)|(apply cG;rfl;rfl)|(apply bK;rfl;rfl;rfl;rfl)|((apply a7 (t := _));(case hze|hsm|hl => rfl);(case hfl => (rfl));(case hM|hN => rfl)))|(apply aM;first|apply aH|apply aB|(apply aO;rfl;all_goals intro hc;have hq:=hc;(try simp only [cJ] at hq);try exfalso;omega)|apply aS|apply aR)|with_reducible apply aA|with_reducible apply bJ)
 ·refine aP rfl ⟨?_, (by (rfl))⟩
  rw [if_neg (by simp [hq])]; rfl
 ·refine aP rfl ⟨?_, (by (exact aY _ _))⟩
  rw [if_pos hq]; rfl
def wm (pts : List Pnt) (n a : Nat) (cs : List Int) : List Int × Bool := ((eL pts n a cs).1.map (fun a : Nat => (a : Int)), (eL pts n a cs).2)
theorem GJ {pts : List Pnt} {n a : Nat} {cs : List Int} (h : pts[a]!.op = 11) : wm pts n a cs = ([(a : Int)], true) := by
 have e : eL pts n a cs = ([a], true) := by cases n <;> (unfold eL;rw [if_pos h])
 unfold wm;rw [e]; rfl
theorem Gf {pts : List Pnt} {a : Nat} {cs : List Int} (h : ¬ pts[a]!.op = 11) : wm pts 0 a cs = ([], false) := by
 have e : eL pts 0 a cs = ([], false) := by unfold eL;rw [if_neg h]
 unfold wm;rw [e]; rfl
theorem Mn {pts : List Pnt} {n a : Nat} {cs : List Int} (h : ¬ pts[a]!.op = 11) : wm pts (n + 1) a cs = ((a : Int) :: (wm pts n (iF pts a cs).1 (iF pts a cs).2).1, (wm pts n (iF pts a cs).1 (iF pts a cs).2).2) := by
 unfold wm;rw [eL, if_neg h]; rfl
theorem JI {pts : List Pnt} {a : Nat} {cs : List Int} (h : ¬ pts[a]!.next.length = 2) : iF pts a cs = ((pts[a]!.next[0]!).toNat, cs) := by
 unfold iF;rw [if_neg h]
theorem LR {pts : List Pnt} {a u : Nat} {cs : List Int} (h : pts[a]!.next.length = 2) (hu : cs.length ≤ u) : iF pts a (cs.drop u) = ((pts[a]!.next[1]!).toNat, cs.drop (u + 1)) := by
 unfold iF;rw [if_pos h, List.drop_eq_nil_of_le hu, List.drop_eq_nil_of_le (by omega)]
theorem JN {pts : List Pnt} {a u : Nat} {cs : List Int} (h : pts[a]!.next.length = 2) (hu : u < cs.length) : iF pts a (cs.drop u) = ((pts[a]!.next[if cs[u]!.tmod 2 = 0 then 0 else 1]!).toNat, cs.drop (u + 1)) := by
 have e : (cs[u]! % 2).toNat = if cs[u]!.tmod 2 = 0 then 0 else 1 := by
  by_cases q : cs[u]!.tmod 2 = 0
  ·rw [if_pos q, Int.emod_eq_zero_of_dvd (Int.dvd_of_tmod_eq_zero q)]; rfl
  ·rw [if_neg q]
   have : ¬ cs[u]! % 2 = 0 := fun q2 => q (Int.tmod_eq_zero_of_dvd (Int.dvd_of_emod_eq_zero q2))
   omega
 have e2 : cs.drop u = cs[u]! :: cs.drop (u + 1) := by rw [List.drop_eq_getElem_cons hu, cV _ _ hu]
 unfold iF
 rw [if_pos h, e2]
 dsimp only
 rw [e]
theorem oV {pts : List Pnt} {n a : Nat} {out cs cs2 : List Int} {b : Nat} {q : List Int × Bool} (h : ¬ pts[a]!.op = 11) (ho : out.length < n) (hs : iF pts a cs = (b, cs2)) (hq : q = (out ++ (wm pts (n - out.length) a cs).1, (wm pts (n - out.length) a cs).2)) :
  q = ((out ++ [(a : Int)]) ++ (wm pts (n - (out ++ [(a : Int)]).length) b cs2).1, (wm pts (n - (out ++ [(a : Int)]).length) b cs2).2) := by
 rw [hq, show n - out.length = (n - (out.length + 1)) + 1 by omega, Mn h, hs, List.length_append, List.append_assoc]
 rfl
theorem Cj (p : Prg) (cs : List Int) (n : Nat) (hv : dF p = true) (hl : p.types.length ≤ 1000000) (hs : b9 p.body ≤ 1000000) (hn : n ≤ 1000) (hcl : cs.length ≤ 1000000) : PC Tryz.prog 88 [dT p, sl cI cs, iv (n : Int)] (fun r => r = .tup [sl cI (wm (cT p) n 0 cs).1, bv (wm (cT p) n 0 cs).2]) := by
 have hpo := xR p hl hs
 rw [if_pos hv] at hpo
 have w := WG.of_valid hv
 have wa := WA.of_valid hv
 obtain ⟨pts, hpts⟩ : ∃ pts, pts = cT p := ⟨_, rfl⟩
 rw [← hpts] at hpo w wa ⊢
 have hpl := w.pl
 have hp0 := w.p0
 (refine aU Tryz.func88 rfl (by simp [Tryz.ntmps88]) ?_; rw [Tryz.ntmps88])
 repeat' (first|(apply aL;first|((with_reducible apply aJ (k := 116));(case ha => rfl);(case h => exact hpo);(case hp => (exact Pur.pf));(case hN => rfl))|(apply aE;rfl;rfl)|(apply aV;rfl;rfl;(exact (rfl:_=[_, _]));rfl;rfl;rfl)|(first|(apply bB;rfl;rfl;rfl;(first|rfl|assumption))|(apply bS;(case hj|hb|hN => rfl);all_goals (intro hg;have hq := hg;(try simp only [cJ] at hq);(try (exfalso;omega)))))|(apply aT;rfl;rfl;rfl;rfl)|(apply aC;rfl;rfl)|(apply bQ;rfl;(first|rfl|assumption);rfl;rfl)|(apply bC;rfl;rfl;rfl)|(apply aF;kernel_rfl)|(apply bK;rfl;rfl;rfl;rfl)|(apply bZ;rfl;rfl;rfl;(rfl);rfl;rfl))|(apply aM;first|apply aH|apply aB|(apply aO;rfl;all_goals intro hc;have hq:=hc;(try simp only [cJ] at hq);try exfalso;omega)|apply aK|apply aS)|with_reducible apply aA)
 refine a6 (σ := Int × Nat × List Int × Nat) [1, 2, 9] [(1, _), (2, _), (9, _)] [] [] (fun k => [(10, iv k.1), (11, iv (k.2.1 : Int)), (8, .own 1 0 k.2.2.2 1)]) (fun k => [(1, some (aI cI k.2.2.1))]) (fun k => (0 ≤ k.1 ∧ k.1 < pts.length) ∧ k.2.1 ≤ k.2.2.1.length ∧ k.2.2.1.length ≤ n ∧ k.2.2.2 = k.2.2.1.length ∧ wm pts n 0 cs = (k.2.2.1 ++ (wm pts (n - k.2.2.1.length) k.1.toNat (cs.drop k.2.1)).1, (wm pts (n - k.2.2.1.length) k.1.toNat (cs.drop k.2.1)).2)) (fun k => n + 1 - k.2.2.1.length) (0, 0, [], 0) ⟨⟨Int.le_refl _, by show (0 : Int) < _; omega⟩, Nat.le_refl _, Nat.zero_le _, rfl, rfl⟩ rfl rfl (by repeat' (first|exact trivial|refine And.intro rfl ?_)) (by repeat' (first|exact trivial|refine And.intro (.inr rfl) ?_)) ?_
 rintro ⟨a, u, out, m⟩ ⟨⟨ha0, ha⟩, hu, ho, hm, hw⟩
 dsimp only at ha0 ha hu ho hm hw ⊢
 have hat : (a.toNat : Int) = a := Int.toNat_of_nonneg ha0
 have hnx := w.nx a.toNat (by omega)
 have hnl := w.nl a.toNat (by omega)
 have hn1 := wa.n a.toNat (by omega)
 have hk : ∀ k, k < pts[a.toNat]!.next.length → 0 ≤ pts[a.toNat]!.next[k]! ∧ pts[a.toNat]!.next[k]! < pts.length := fun k h => hnx _ (cK _ _ h)
 repeat' (first|(apply aL;first|(apply aE;rfl;rfl)|(apply aN;rfl;rfl;rfl;rfl)|(apply aD;rfl;rfl;rfl)|(first|(apply bB;rfl;rfl;rfl;(assumption))|(apply bD;rfl;rfl;rfl;(assumption))|(apply bS;(case hj|hb|hN => rfl);all_goals (intro hg;have hq := hg;(try simp only [cJ] at hq);(try (exfalso;omega)))))|(first|(apply bR;rfl;rfl;omega;rfl)|(apply aT;rfl;rfl;rfl;rfl))|(apply aC;rfl;rfl)|(first|(apply bV;rfl;(assumption);rfl;rfl)|(apply bQ;rfl;(assumption);rfl;rfl))|(first|(apply aZ;(case hx|hi => rfl);(case hm => (omega));(case hml => (rfl));(case hα | hf|hg => infer_instance);(case hN => rfl))|(apply cL;(case hx|hi => rfl);(case hm => (omega));(case hml => (rfl));(case hα | hf|hg => infer_instance);(case hN => rfl)))|(first|(apply bC;rfl;rfl;rfl)|(apply bW;rfl;rfl;rfl;rfl;rfl;(rw [aQ]; omega);(rfl);omega;omega;(exact gA (by (assumption)));rfl;rfl))|(apply aF;kernel_rfl)|((apply a7 (t := _));(case hze|hsm|hl => rfl);(case hfl => exact (rfl:_=some [_]));(case hM|hN => rfl)))|(apply aM;first|apply aH|apply aB|(apply cH;rfl;(rfl))|(apply aO;rfl;all_goals intro hc;have hq:=hc;(try simp only [cJ] at hq);try exfalso;omega)|apply aK|apply aS|apply bG|apply aR)|with_reducible apply aA|with_reducible apply bJ|with_reducible apply bH|with_reducible apply aW|with_reducible apply cQ|with_reducible apply bF)
 ·have hop : ¬ pts[a.toNat]!.op = 11 := by assumption
  have e : wm pts n 0 cs = (out, false) := by rw [hw, show n - out.length = 0 by omega, Gf hop, List.append_nil]
  rw [e]
  (refine cD (Le.frzD (d := 6) (i := 1) rfl rfl) ?_; refine aP rfl ?_)
  refine ⟨?_, (by (exact Pur.pf))⟩
  simp only [bX, sl]
  rw [hm]
 ·have hop : ¬ pts[a.toNat]!.op = 11 := by assumption
  have hst := oV hop (by omega) ((JN (by omega) (by omega)).trans (by rw [if_pos (by assumption)])) hw
  rw [hat] at hst
  have hk := hk 0 (by omega)
  (apply dJ (pts[a.toNat]!.next[0]!, u + 1, _, _);focus (refine Le.ren [(1, 3)] rfl (by decide) ?_ ?_ <;> repeat' (first|exact trivial|refine And.intro ⟨_, rfl, ?_⟩ ?_|refine And.intro ⟨_, _, rfl, rfl, ?_⟩ ?_|exact Or.inr rfl|refine Or.inl ⟨?_, (by first|rfl|exact aY _ _)⟩|rfl)))
  ·refine ⟨hk, ?_, ?_, ?_, hst⟩ <;> (dsimp only;rw [List.length_append]; simp only [List.length_singleton]; omega)
  ·dsimp only;rw [List.length_append]; simp only [List.length_singleton]; omega
 ·have hop : ¬ pts[a.toNat]!.op = 11 := by assumption
  have hst := oV hop (by omega) ((JN (by omega) (by omega)).trans (by rw [if_neg (by assumption)])) hw
  rw [hat] at hst
  have hk := hk 1 (by omega)
  (apply dJ (pts[a.toNat]!.next[1]!, u + 1, _, _);focus (refine Le.ren [(1, 3)] rfl (by decide) ?_ ?_ <;> repeat' (first|exact trivial|refine And.intro ⟨_, rfl, ?_⟩ ?_|refine And.intro ⟨_, _, rfl, rfl, ?_⟩ ?_|exact Or.inr rfl|refine Or.inl ⟨?_, (by first|rfl|exact aY _ _)⟩|rfl)))
  ·refine ⟨hk, ?_, ?_, ?_, hst⟩ <;> (dsimp only;rw [List.length_append]; simp only [List.length_singleton]; omega)
  ·dsimp only;rw [List.length_append]; simp only [List.length_singleton]; omega
 ·have hop : ¬ pts[a.toNat]!.op = 11 := by assumption
  have hst := oV hop (by omega) (LR (by omega) (by omega)) hw
  rw [hat] at hst
  have hk := hk 1 (by omega)
  (apply dJ (pts[a.toNat]!.next[1]!, u + 1, _, _);focus (refine Le.ren [(1, 3)] rfl (by decide) ?_ ?_ <;> repeat' (first|exact trivial|refine And.intro ⟨_, rfl, ?_⟩ ?_|refine And.intro ⟨_, _, rfl, rfl, ?_⟩ ?_|exact Or.inr rfl|refine Or.inl ⟨?_, (by first|rfl|exact aY _ _)⟩|rfl)))
  ·refine ⟨hk, ?_, ?_, ?_, hst⟩ <;> (dsimp only;rw [List.length_append]; simp only [List.length_singleton]; omega)
  ·dsimp only;rw [List.length_append]; simp only [List.length_singleton]; omega
 ·have hop : ¬ pts[a.toNat]!.op = 11 := by assumption
  have hst := oV hop (by omega) (JI (by omega)) hw
  rw [hat] at hst
  have hk := hk 0 (by omega)
  (apply dJ (pts[a.toNat]!.next[0]!, u, _, _);focus (refine Le.ren [(1, 3)] rfl (by decide) ?_ ?_ <;> repeat' (first|exact trivial|refine And.intro ⟨_, rfl, ?_⟩ ?_|refine And.intro ⟨_, _, rfl, rfl, ?_⟩ ?_|exact Or.inr rfl|refine Or.inl ⟨?_, (by first|rfl|exact aY _ _)⟩|rfl)))
  ·refine ⟨hk, ?_, ?_, ?_, hst⟩ <;> (dsimp only;rw [List.length_append]; simp only [List.length_singleton]; omega)
  ·dsimp only;rw [List.length_append]; simp only [List.length_singleton]; omega
 ·have hop : pts[a.toNat]!.op = 11 := by assumption
  have e : wm pts n 0 cs = (out ++ [a], true) := by rw [hw, GJ hop, hat]
  rw [e]
  (refine cD (Le.frzD (d := 6) (i := 3) rfl rfl) ?_; refine aP rfl ?_)
  refine ⟨?_, (by (exact Pur.pf))⟩
  simp only [bX, sl]
  rw [hm, List.length_append]; rfl
theorem KZ {ts : List Int} {s : Mc} {x : Pnt} (hx : (x.op = 7 ∨ x.op = 8) → 0 ≤ x.x ∧ x.x < ts.length) (hy : (x.op = 3 ∨ x.op = 4 ∨ x.op = 5 ∨ x.op = 6 ∨ x.op = 7) → 0 ≤ x.y ∧ x.y < ts.length) : KT s x = dI ts s x := by
 have hX : ∀ v : Nat, (v : Int) = x.x → v = x.x.toNat := fun v h => by omega
 have hY : ∀ v : Nat, (v : Int) = x.y → v = x.y.toNat := fun v h => by omega
 cases hu : dI ts s x with
 | true =>
  obtain ⟨v, hv, hne, hs⟩ := uF hu
  unfold cF at hne
  unfold KT
  by_cases h3 : x.op = 3
  ·rw [if_pos h3] at hne
   by_cases e : (v : Int) = x.y
   ·rw [if_pos (.inl h3), ← hY v e, hs]; rfl
   ·rw [if_neg e] at hne;exact absurd rfl hne
  ·rw [if_neg h3] at hne
   by_cases h4 : x.op = 4 ∨ x.op = 5 ∨ x.op = 6
   ·rw [if_pos h4] at hne
    by_cases e : (v : Int) = x.y
    ·rw [if_pos (by omega), ← hY v e, hs]; rfl
    ·rw [if_neg e] at hne;exact absurd rfl hne
   ·rw [if_neg h4] at hne
    rw [if_neg (by omega)]
    by_cases h7 : x.op = 7
    ·rw [if_pos h7] at hne ⊢
     by_cases e : (v : Int) = x.x
     ·rw [← hX v e, hs]; rfl
     ·rw [if_neg e] at hne
      by_cases e2 : (v : Int) = x.y
      ·rw [← hY v e2, hs]; simp
      ·rw [if_neg e2] at hne;exact absurd rfl hne
    ·rw [if_neg h7] at hne ⊢
     by_cases h8 : x.op = 8
     ·rw [if_pos h8] at hne ⊢
      by_cases e : (v : Int) = x.x
      ·rw [← hX v e, hs]; rfl
      ·rw [if_neg e] at hne;exact absurd rfl hne
     ·rw [if_neg h8] at hne;exact absurd rfl hne
 | false =>
  have hS : ∀ v : Nat, v < ts.length → cF ts x v ≠ 0 → s.slots[v]!.set = true := fun v hv h => iQ hu hv h
  unfold KT
  by_cases h3 : x.op = 3
  ·have := hy (.inl h3)
   rw [if_pos (.inl h3), hS x.y.toNat (by omega) (by unfold cF;rw [if_pos h3, if_pos (by omega)]; split <;> decide)]; rfl
  ·by_cases h4 : x.op = 4 ∨ x.op = 5 ∨ x.op = 6
   ·have := hy (by omega)
    rw [if_pos (by omega), hS x.y.toNat (by omega) (by unfold cF;rw [if_neg h3, if_pos h4, if_pos (by omega)]; decide)]; rfl
   ·rw [if_neg (by omega)]
    by_cases h7 : x.op = 7
    ·have hy7 := hy (by omega)
     have hx7 := hx (.inl h7)
     rw [if_pos h7, hS x.x.toNat (by omega) (by unfold cF; rw [if_neg h3, if_neg h4, if_pos h7, if_pos (by omega)]; decide),
      hS x.y.toNat (by omega) (by unfold cF;rw [if_neg h3, if_neg h4, if_pos h7]; split;decide;rw [if_pos (by omega)]; decide)]; rfl
    ·rw [if_neg h7]
     by_cases h8 : x.op = 8
     ·have hx8 := hx (.inr h8)
      rw [if_pos h8, hS x.x.toNat (by omega) (by unfold cF;rw [if_neg h3, if_neg h4, if_neg h7, if_pos h8, if_pos (by omega)]; decide)]; rfl
     ·rw [if_neg h8]
theorem Bk (k : Int) : kN k ≠ 0 := by
 unfold kN e8;split
 ·decide
 ·split <;> decide
theorem De (k : Int) : e8 k ≠ 0 := by unfold e8; split <;> decide
theorem oT {ts : List Int} {s : Mc} {v : Nat} {y : Sl} : (c6 ts s v y).2 ≠ 0 := by
 unfold c6;split
 ·exact Bk _
 ·show (-1 : Int) ≠ 0;decide
theorem Lp {ts : List Int} {s : Mc} {x : Pnt} (h : x.op ≠ 11) : (c9 ts s x).2 ≠ 0 := by
 unfold c9
 split
 ·exact oT
 split
 ·split
  ·show (1 : Int) ≠ 0;decide
  ·exact oT
 split
 ·exact oT
 split
 ·split
  ·exact oT
  ·exact De _
 split
 ·split
  ·exact oT
  ·exact De _
 split
 ·exact Bk _
 split
 ·exact Bk _
 show (-1 : Int) ≠ 0;decide
theorem LN {ts : List Int} {s : Mc} {x : Pnt} (h : x.op ≠ 11) : gk (c9 ts s x).2 = 0 ↔ (c9 ts s x).2 = -1 := by
 have := Lp (ts := ts) (s := s) h
 unfold gk;split
 ·simp [*]
 ·constructor <;> (intro q;contradiction)
theorem K3 (ts : List Int) (s : Mc) (x : Pnt) (ho : x.op = 9 ∨ x.op = 10) : PC Tryz.prog 91 [sl cI ts, gR s, fL x] (fun r => r = .tup [gR (c9 ts s x).1, iv (gk (c9 ts s x).2)]) := by
 have h0 : c9 ts s x = (s, -1) := by
  unfold c9;rw [if_neg (show ¬ x.op = 1 by omega), if_neg (show ¬ x.op = 2 by omega), if_neg (show ¬ x.op = 3 by omega), if_neg (show ¬ (x.op = 4 ∨ x.op = 5) by omega), if_neg (show ¬ x.op = 6 by omega), if_neg (show ¬ x.op = 7 by omega), if_neg (show ¬ x.op = 8 by omega), if_neg (show ¬ x.op = 11 by omega)]
 rw [h0]
 (refine aU Tryz.func91 rfl (by simp [Tryz.ntmps91]) ?_; rw [Tryz.ntmps91])
 repeat' (first|(apply aL;first|(first|(apply aN;rfl;rfl;rfl;rfl)|(apply aV;rfl;rfl;(exact (rfl:_=[_, _, _]));rfl;rfl;rfl))|(apply aD;rfl;rfl;rfl)|(apply aT;rfl;rfl;rfl;rfl)|(apply aC;rfl;rfl)|(apply aF;kernel_rfl)|(apply bK;rfl;rfl;rfl;rfl)|(apply bI;rfl;rfl)|(apply aX;rfl;rfl;rfl;rfl;rfl;(case hl => (simp;done));(exact (rfl:_=[_, _, _]))))|(apply aM;first|apply aH|apply aB|(apply aO;rfl;all_goals intro hc;have hq:=hc;(try simp only [cJ] at hq);try exfalso;omega)|apply aK|apply aS|apply aR)|with_reducible apply aA|with_reducible apply aW)
 exact aP (l := [gR s, iv 0]) rfl ⟨rfl, by (exact Pur.pf)⟩
theorem Lg (ts : List Int) (s : Mc) (x : Pnt) (h11 : x.op ≠ 11) (hop : 1 ≤ x.op ∧ x.op ≤ 11) (hm : OkM s.cells) (hsl : s.slots.length = ts.length) (hx : x.op ≤ 8 → 0 ≤ x.x ∧ x.x < ts.length) (hy : 3 ≤ x.op → x.op ≤ 7 → 0 ≤ x.y ∧ x.y < ts.length) (hn : x.op = 2 → 0 ≤ x.n ∧ x.n ≤ 9) (hl : ts.length ≤ 1000000) (hrl : s.read.length ≤ 1000000) : PC Tryz.prog 91 [sl cI ts, gR s, fL x] (fun r => r = .tup [gR (c9 ts s x).1, iv (gk (c9 ts s x).2)]) := by
 by_cases h1 : x.op = 1
 ·exact Kz ts s x h1 hm hsl (hx (by omega)) hl
 by_cases h2 : x.op = 2
 ·exact Kf ts s x h2 hm hsl (hx (by omega)) (hn h2) hl
 by_cases h3 : x.op = 3
 ·exact Lt ts s x h3 hm hsl (hx (by omega)) (hy (by omega) (by omega)) hl
 by_cases h4 : x.op = 4 ∨ x.op = 5
 ·exact Il ts s x h4 hm hsl (hx (by omega)) (hy (by omega) (by omega)) hl
 by_cases h6 : x.op = 6
 ·exact J4 ts s x h6 hm hsl (hx (by omega)) (hy (by omega) (by omega)) hl hrl
 by_cases h7 : x.op = 7
 ·exact KE ts s x h7 hm hsl (hx (by omega)) (hy (by omega) (by omega)) hl
 by_cases h8 : x.op = 8
 ·exact KI ts s x h8 hm hsl (hx (by omega)) hl
 ·exact K3 ts s x (by omega)
theorem kX {ts : List Int} {s : Mc} {v : Nat} {y : Sl} : (c6 ts s v y).1.read = s.read := by unfold c6; split <;> rfl
theorem z6 {ts : List Int} {s : Mc} {x : Pnt} (h : x.op ≠ 11) : (c9 ts s x).1.read.length ≤ s.read.length + 1 := by
 unfold c9
 split
 ·rw [kX]; omega
 split
 ·split
  ·dsimp only;omega
  ·rw [kX]; dsimp only;omega
 split
 ·rw [kX]; split <;> (first|omega|(dsimp only;omega))
 split
 ·split
  ·rw [kX]; dsimp only;omega
  ·dsimp only;omega
 split
 ·split
  ·rw [kX]; dsimp only;rw [List.length_append]; simp only [List.length_singleton]; omega
  ·dsimp only;omega
 split
 ·dsimp only;omega
 split
 ·dsimp only;omega
 dsimp only;omega
theorem Dv (pts : List Pnt) : ∀ n a cs, (eL pts n a cs).2 = true → ∃ l b, (eL pts n a cs).1 = l ++ [b] ∧ pts[b]!.op = 11
 | 0, a, cs, h => by
  unfold eL at h ⊢
  by_cases e : pts[a]!.op = 11
  ·rw [if_pos e]; exact ⟨[], a, rfl, e⟩
  ·rw [if_neg e] at h;exact absurd h (by decide)
 | n + 1, a, cs, h => by
  rw [eL] at h ⊢
  by_cases e : pts[a]!.op = 11
  ·rw [if_pos e]; exact ⟨[], a, rfl, e⟩
  ·rw [if_neg e] at h ⊢
   obtain ⟨l, b, h1, h2⟩ := Dv pts n _ _ h
   exact ⟨a :: l, b, by dsimp only;rw [h1]; rfl, h2⟩
theorem J1 {s : Mc} {x : Pnt} (h : x.op = 11) : KT s x = false := by
 unfold KT;rw [if_neg (by omega), if_neg (by omega), if_neg (by omega)]
theorem Is (p : Prg) (cs : List Int) (n : Nat) (hv : dF p = true) (hl : p.types.length ≤ 1000000) (hs : b9 p.body ≤ 1000000) (hn : n ≤ 150) (hcl : cs.length ≤ 1000000) (hL : ∀ a ∈ (eL (cT p) n 0 cs).1, a < (cT p).length) (hLl : (eL (cT p) n 0 cs).1.length ≤ 151) : PC Tryz.prog 43 [dT p, sl cI cs, iv (n : Int)] (fun r => r = .tup [gR (eJ p.types (cT p) cs n).1, iv (eJ p.types (cT p) cs n).2.1, iv (eJ p.types (cT p) cs n).2.2]) := by
 have hpo := nV p hs
 have hru := Cj p cs n hv hl hs (by omega) hcl
 have w := WG.of_valid hv
 have wa := WA.of_valid hv
 obtain ⟨q, hq⟩ : ∃ q, q = eJ p.types (cT p) cs n := ⟨_, rfl⟩
 rw [← hq]
 unfold eJ at hq
 unfold wm at hru
 obtain ⟨L, hLe⟩ : ∃ L, L = (eL (cT p) n 0 cs).1 := ⟨_, rfl⟩
 obtain ⟨dn, hdn⟩ : ∃ dn, dn = (eL (cT p) n 0 cs).2 := ⟨_, rfl⟩
 rw [← hLe, ← hdn] at hru
 rw [← hLe] at hq hL hLl
 have hgx : ∀ i, i < L.length → (L.map (fun a : Nat => (a : Int)))[i]! = (L[i]! : Int) := fun i h => by rw [cV _ _ (by rw [List.length_map]; exact h), List.getElem_map, cV _ _ h]
 have hml : (L.map (fun a : Nat => (a : Int))).length = L.length := List.length_map _
 generalize (L.map (fun a : Nat => (a : Int))) = LI at *
 generalize hP : cT p = pts at *
 have e1 : AV.imm p.types.length ((List.replicate p.types.length ([Value.bool false, Value.int .i64 0, Value.int .i64 0, Value.int .i64 0].map AV.v)).flatten) = sl eH (List.replicate p.types.length gW) := by
  rw [sI (f := eH) (x := gW) (l := [Value.bool false, Value.int .i64 0, Value.int .i64 0, Value.int .i64 0].map AV.v) rfl]; exact fO (by simp)
 (refine aU Tryz.func43 rfl (by simp [Tryz.ntmps43]) ?_; rw [Tryz.ntmps43])
 repeat' (first|(apply aL;first|((with_reducible apply aJ (k := 60));(case ha => rfl);(case h => exact hpo);(case hp => (exact Pur.pf));(case hN => rfl))|(with_reducible apply cS (d := 27))|(first|(apply aN;rfl;rfl;rfl;rfl)|(apply aV;rfl;rfl;(exact (rfl:_=[_, _]));rfl;rfl;rfl))|(apply aD;rfl;rfl;rfl)|(apply aC;rfl;rfl)|(apply bC;rfl;rfl;rfl)|(apply aF;kernel_rfl)|(apply bK;rfl;rfl;rfl;rfl)|(apply bI;rfl;rfl)|((apply a7 (t := _));(case hze|hsm|hl => rfl);(case hfl => (rfl));(case hM|hN => rfl))|(apply dX;rfl;rfl;rfl;omega;omega;(rfl);rfl;rfl))|(apply aM;first|apply aH|apply aB)|with_reducible apply aA)
 refine dO (hO ?_ (Le.frzD (d := 24) (i := 2) rfl rfl))
 rw [e1]
 repeat' (first|(apply aL;first|((with_reducible apply aJ (k := 88));(case ha => rfl);(case h => exact hru);(case hp => (exact Pur.pf));(case hN => rfl))|(apply aE;rfl;rfl)|(apply aV;rfl;rfl;(exact (rfl:_=[_, _]));rfl;rfl;rfl)|(apply aC;rfl;rfl)|(apply aF;kernel_rfl)|(apply b8;rfl;(exact (rfl:_=some [_, _, _]));(exact (rfl:_=[_, _, _]));rfl)|(apply bI;rfl;rfl)|(apply bE;rfl;rfl;rfl)|(apply aX;rfl;rfl;rfl;rfl;rfl;(case hl => (simp;done));(exact (rfl:_=[_, _, _]))))|(apply aM;first|apply aH|apply aB|apply aK)|with_reducible apply aA)
 refine a6 (σ := Nat × Mc) [3, 6, 9, 10, 11, 12] [(3, _), (6, _), (9, _), (10, _), (11, _), (12, _)] [0, 1] [(0, some _), (1, some _)] (fun k => [(13, iv (k.1 : Int))]) (fun k => [(5, some [sl eH k.2.slots, sl c7 k.2.cells, sl cI k.2.read])]) (fun k => k.1 ≤ L.length ∧ iG p.types pts (L.drop k.1) k.2 (if k.1 = 0 then 0 else L[k.1 - 1]!) = q ∧ OkS p.types.length k.2 ∧ k.2.read.length ≤ k.1 ∧ (∀ j, j < k.1 → pts[L[j]!]!.op ≠ 11)) (fun k => L.length - k.1) (0, mc0 p.types.length) ⟨Nat.zero_le _, by rw [hq]; rfl, OkS.mc0 _, Nat.le_refl _, fun j h => absurd h (by omega)⟩ rfl rfl (by repeat' (first|exact trivial|refine And.intro rfl ?_)) (by repeat' (first|exact trivial|refine And.intro (.inr rfl) ?_)) ?_
 rintro ⟨i, s⟩ ⟨hi, hf, hok, hrd, h11⟩
 dsimp only at hi hf hok hrd h11 ⊢
 have hil : i < L.length → L[i]! < pts.length := fun h => hL _ (cK _ _ h)
 have hex := fun h => HT p.types s hok.m hok.l h
 by_cases hiL : i < L.length
 ·have hap := hil hiL
  have hop := w.op L[i]! hap
  have hwx := w.x L[i]! hap
  have hwy := w.y L[i]! hap
  have hA := wa.a L[i]! hap
  have hg := hgx i hiL
  have hen := hex hl
  have hun := EM s pts[L[i]!]! (fun h => by have := hok.l;omega) (fun h => by have := hok.l;omega)
  have hun2 := KZ (ts := p.types) (s := s) (x := pts[L[i]!]!) (fun h => by omega) (fun h => by omega)
  rw [hun2] at hun
  have hdo := fun h => Lg p.types s pts[L[i]!]! h hop hok.m hok.l (fun h => by omega) (fun h h2 => by omega) (fun h => hA.n (.inr h)) hl (by omega)
  repeat' (first|(apply aL;first|(with_reducible apply cS (d := 46))|(apply aE;rfl;rfl)|(apply aN;rfl;rfl;rfl;rfl)|(apply aT;rfl;rfl;rfl;rfl)|(apply aZ;(case hx|hi => rfl);(case hm => (omega));(case hml => (rfl));(case hα | hf|hg => infer_instance);(case hN => rfl))|(apply bC;rfl;rfl;rfl)|(apply aF;kernel_rfl))|(apply aM;first|apply aH|apply aB|(apply aO;rfl;all_goals intro hc;have hq:=hc;(try simp only [cJ] at hq);try exfalso;omega)|apply aK|apply aS)|with_reducible apply aA)
  refine dO ?_
  rw [hg]
  repeat' (first|(apply aL;first|((with_reducible apply aJ (k := 89));(case ha => rfl);(case h => exact hen);(case hp => (exact Pur.pf));(case hN => rfl))|((with_reducible apply aJ (k := 90));(case ha => rfl);(case h => exact hun);(case hp => (exact Pur.pf));(case hN => rfl))|((with_reducible apply aJ (k := 91));(case ha => rfl);(case h => exact hdo (by assumption));(case hp => (exact Pur.pf));(case hN => rfl))|(apply aE;rfl;rfl)|(first|(apply aN;rfl;rfl;rfl;rfl)|(apply aV;rfl;rfl;(first|exact (rfl:_=[_, _, _])|exact (rfl:_=[_, _, _, _, _]));rfl;rfl;rfl))|(apply aD;rfl;rfl;rfl)|(first|(apply bR;rfl;rfl;omega;rfl)|(apply aT;rfl;rfl;rfl;rfl))|(apply aC;rfl;rfl)|(apply aZ;(case hx|hi => rfl);(case hm => (first|assumption|omega));(case hml => (rfl));(case hα | hf|hg => infer_instance);(case hN => rfl))|(apply aF;kernel_rfl)|(apply bI;rfl;rfl)|(apply bE;rfl;rfl;rfl)|(apply aX;rfl;rfl;rfl;rfl;rfl;(case hl => (simp;done));(first|exact (rfl:_=[_, _, _])|exact (rfl:_=[_, _, _, _, _]))))|(apply aM;first|apply aH|apply aB|(apply b0;kernel_rfl)|(apply aO;rfl;all_goals intro hc;have hq:=hc;(try simp only [cJ] at hq);try exfalso;omega)|apply aS|apply aR)|with_reducible apply aA|with_reducible apply bJ|with_reducible apply aW|with_reducible apply cQ)
  all_goals have hdr : L.drop i = L[i]! :: L.drop (i + 1) := by rw [List.drop_eq_getElem_cons hiL, cV _ _ hiL]
  all_goals rw [hdr] at hf
  ·have ho : pts[L[i]!]!.op = 11 := by assumption
   have hqq : q = ((dP p.types p.types.length 0 s).1, (dP p.types p.types.length 0 s).2, L[i]!) := by
    rw [← hf, iG, if_neg (by rw [← hun2, J1 ho]; decide), tP ho, if_neg (by have := m6 p.types p.types.length 0 s;omega)]
   rw [hqq]
   refine aP (l := [gR (dP p.types p.types.length 0 s).1, iv (dP p.types p.types.length 0 s).2, iv LI[i]!]) rfl ?_
   rw [hg]
   exact ⟨rfl, by (exact Pur.pf)⟩
  ·have hu : dI p.types s pts[L[i]!]! = true := by assumption
   have hqq : q = (s, 2, L[i]!) := by rw [← hf, iG, if_pos hu]
   rw [hqq]
   refine aP (l := [gR s, iv 2, iv LI[i]!]) rfl ?_
   rw [hg]
   exact ⟨rfl, by (exact Pur.pf)⟩
  ·have ho : ¬ pts[L[i]!]!.op = 11 := by assumption
   have hu : dI p.types s pts[L[i]!]! = false := by assumption
   have hk : ¬ gk (c9 p.types s pts[L[i]!]!).2 = 0 := by assumption
   have hk2 : ¬ (c9 p.types s pts[L[i]!]!).2 = -1 := fun e => hk ((LN ho).2 e)
   have hqq : q = ((c9 p.types s pts[L[i]!]!).1, (c9 p.types s pts[L[i]!]!).2, L[i]!) := by rw [← hf, iG, if_neg (by rw [hu]; decide), if_neg hk2]
   rw [hqq]
   refine aP (l := [gR (c9 p.types s pts[L[i]!]!).1, iv (gk (c9 p.types s pts[L[i]!]!).2), iv LI[i]!]) rfl ?_
   rw [hg, show gk (c9 p.types s pts[L[i]!]!).2 = (c9 p.types s pts[L[i]!]!).2 by unfold gk;rw [if_neg hk2]]
   exact ⟨rfl, by (exact Pur.pf)⟩
  ·have ho : ¬ pts[L[i]!]!.op = 11 := by assumption
   have hu : dI p.types s pts[L[i]!]! = false := by assumption
   have hk2 : (c9 p.types s pts[L[i]!]!).2 = -1 := (LN ho).1 (by assumption)
   (apply dJ (i + 1, (c9 p.types s pts[L[i]!]!).1);focus (refine Le.ren [(0, 0), (1, 1), (5, 5)] rfl (by decide) ?_ ?_ <;> repeat' (first|exact trivial|refine And.intro ⟨_, rfl, ?_⟩ ?_|refine And.intro ⟨_, _, rfl, rfl, ?_⟩ ?_|exact Or.inr rfl|refine Or.inl ⟨?_, (by first|rfl|exact aY _ _|exact Pur.pf)⟩|rfl)))
   ·refine ⟨by dsimp only; omega, ?_, hok.do ⟨fun h => hA.n (.inr h)⟩, ?_, ?_⟩
    ·dsimp only
     rw [← hf, if_neg (by omega), show i + 1 - 1 = i by omega, iG, if_neg (by rw [hu]; decide), if_pos hk2]
    ·dsimp only;have := z6 (ts := p.types) (s := s) ho;omega
    ·intro j hj
     rcases Nat.lt_or_ge j i with h|h
     ·exact h11 j h
     ·rw [show j = i by omega]; exact ho
   ·dsimp only;omega
 ·repeat' (first | (apply aL; first | (apply aE;rfl;rfl) | (first | (apply aN;rfl;rfl;rfl;rfl) | (apply aV;rfl;rfl;(exact (rfl:_=[_, _, _]));rfl;rfl;rfl)) | (first | (apply bB;rfl;rfl;rfl;(assumption)) | (apply bD;rfl;rfl;rfl;(assumption)) | (apply bS; (case hj | hb | hN => rfl); all_goals (intro hg; have hq := hg; (try simp only [cJ] at hq); (try (exfalso; omega))))) | (first | (apply gF;rfl;rfl;omega;rfl) | (apply aT;rfl;rfl;rfl;rfl)) | (apply aC;rfl;rfl) | (first | (apply bV;rfl;(assumption);rfl;rfl) | (apply bQ;rfl;(assumption);rfl;rfl)) | (apply cL; (case hx | hi => rfl); (case hm => (omega)); (case hml => (rfl)); (case hα | hf | hg => infer_instance); (case hN => rfl)) | (apply bC;rfl;rfl;rfl) | (apply aF;kernel_rfl) | (apply cG;rfl;rfl) | (apply aX;rfl;rfl;rfl;rfl;rfl;(case hl => (simp;done));(exact (rfl:_=[_, _, _])))) | (apply aM; first | apply aH | apply aB | (apply b0;kernel_rfl) | (apply cH;rfl;(rfl)) | (apply aO;rfl;all_goals intro hc;have hq:=hc;(try simp only [cJ] at hq);try exfalso;omega) | apply aS | apply bG | apply aR) | with_reducible apply aA | with_reducible apply bJ | with_reducible apply bH | with_reducible apply bF)
  all_goals have hie : i = L.length := by omega
  all_goals have hqq : q = (s, 1, if i = 0 then 0 else L[i - 1]!) := by rw [← hf, hie, List.drop_length]; rfl
  ·rw [hqq, if_neg (by omega)]
   refine aP (l := [gR s, iv 1, iv LI[((LI.length : Int) - 1).toNat]!]) rfl ?_
   rw [show ((LI.length : Int) - 1).toNat = i - 1 by omega, hgx (i - 1) (by omega)]
   exact ⟨rfl, by (exact Pur.pf)⟩
  ·rw [hqq, if_pos (by omega)]
   exact aP (l := [gR s, iv 1, iv 0]) rfl ⟨rfl, by (exact Pur.pf)⟩
  ·exfalso
   have hd1 : dn = true := by assumption
   obtain ⟨l, b, e1, e2⟩ := Dv pts n 0 cs (by rw [← hdn]; exact hd1)
   rw [← hLe] at e1
   have hlen : L.length = l.length + 1 := by rw [e1, List.length_append]; rfl
   have hb : L[l.length]! = b := by rw [cV _ _ (by omega)]; simp [e1]
   have := h11 l.length (by omega)
   rw [hb] at this
   exact this e2
theorem Bw {ts : List Int} {pts : List Pnt} (w : WG ts pts) (A : WA ts pts) : ∀ n a cs, a < pts.length → ∀ x ∈ (eL pts n a cs).1, x < pts.length
 | 0, a, cs, ha, x, hx => by
  unfold eL at hx
  by_cases e : pts[a]!.op = 11
  ·rw [if_pos e] at hx;rw [List.mem_singleton.1 hx]; exact ha
  ·rw [if_neg e] at hx;exact absurd hx (by simp)
 | n + 1, a, cs, ha, x, hx => by
  rw [eL] at hx
  by_cases e : pts[a]!.op = 11
  ·rw [if_pos e] at hx;rw [List.mem_singleton.1 hx]; exact ha
  ·rw [if_neg e] at hx
   rcases List.mem_cons.1 hx with h|h
   ·rw [h]; exact ha
   ·have he := uV w A ha e cs
    have := w.nx a ha _ he.2
    exact Bw w A n _ _ (by omega) x h
theorem rQ {pts : List Pnt} : ∀ n a cs, (eL pts n a cs).1.length ≤ n + 1
 | 0, a, cs => by unfold eL;split <;> simp
 | n + 1, a, cs => by
  rw [eL]; split
  ·simp
  ·have := rQ (pts := pts) n (iF pts a cs).1 (iF pts a cs).2
   dsimp only;rw [List.length_cons]; omega
theorem GR (p : Prg) (cs : List Int) (n : Nat) (hv : dF p = true) (hl : p.types.length ≤ 1000000) (hs : b9 p.body ≤ 1000000) (hn : n ≤ 150) (hcl : cs.length ≤ 1000000) : PC Go.Proofs.Tryz.prog 43 [dT p, sl cI cs, iv (n : Int)] (fun r => r = .tup [gR (eJ p.types (cT p) cs n).1, iv (eJ p.types (cT p) cs n).2.1, iv (eJ p.types (cT p) cs n).2.2]) :=
 Is p cs n hv hl hs hn hcl (Bw (WG.of_valid hv) (WA.of_valid hv) n 0 cs (WG.of_valid hv).p0) (by have := rQ (pts := cT p) n 0 cs;omega)
def y1 (p : Prg) (most : Int) : Bool := dF p && (decide (0 ≤ most) && decide (most ≤ 150))
theorem Ei (p : Prg) (most : Int) (hl : p.types.length ≤ 1000000) (hs : b9 p.body ≤ 1000000) : PC Tryz.prog 42 [dT p, iv most] (fun r => r = bv (y1 p most)) := by
 have hval := oP p hl (by omega)
 (refine aU Tryz.func42 rfl (by simp [Tryz.ntmps42]) ?_; rw [Tryz.ntmps42])
 repeat' (first|(apply aL;first|((with_reducible apply aJ (k := 87));(case ha => rfl);(case h => exact hval);(case hp => (exact Pur.pf));(case hN => rfl))|(apply aE;rfl;rfl)|(apply aV;rfl;rfl;(exact (rfl:_=[_, _]));rfl;rfl;rfl)|(first|(apply bB;rfl;rfl;rfl;(assumption))|(apply bD;rfl;rfl;rfl;(first|rfl|assumption))|(apply bS;(case hj|hb|hN => rfl);all_goals (intro hg;have hq := hg;(try simp only [cJ] at hq);(try (exfalso;omega)))))|(apply aT;rfl;rfl;rfl;rfl)|(apply aC;rfl;rfl)|(first|(apply bV;rfl;(assumption);rfl;rfl)|(apply bQ;rfl;(first|rfl|assumption);rfl;rfl))|(apply aF;kernel_rfl)|(apply bK;rfl;rfl;rfl;rfl))|(apply aM;first|apply aH|apply aB|apply aR)|with_reducible apply aA)
 all_goals (refine aP rfl ⟨?_, rfl⟩; simp only [bX, AV.v.injEq, Value.bool.injEq]; unfold y1;grind)
theorem u6 (p : Prg) (cs : List Int) (most : Int) (hl : p.types.length ≤ 1000000) (hs : b9 p.body ≤ 1000000) (hcl : cs.length ≤ 1000000) : PC Tryz.prog 14 [dT p, sl cI cs, iv most] (fun r => r = .tup (if y1 p most = true then [iv (eJ p.types (cT p) cs most.toNat).2.1, iv (eJ p.types (cT p) cs most.toNat).2.2] else [iv 5, iv 0])) := by
 have hrt := Ei p most hl hs
 by_cases h : y1 p most = true
 ·have h' := h
  unfold y1 at h'
  simp only [Bool.and_eq_true, decide_eq_true_eq] at h'
  obtain ⟨hv, h0, h1⟩ := h'
  have hru := GR p cs most.toNat hv hl hs (by omega) hcl
  rw [Int.toNat_of_nonneg h0] at hru
  rw [h] at hrt
  rw [if_pos h]
  (refine aU Tryz.func14 rfl (by simp [Tryz.ntmps14]) ?_; rw [Tryz.ntmps14])
  repeat' (first|(apply aL;first|((with_reducible apply aJ (k := 42));(case ha => rfl);(case h => exact hrt);(case hp => (exact Pur.pf));(case hN => rfl))|((with_reducible apply aJ (k := 43));(case ha => rfl);(case h => exact hru);(case hp => (exact Pur.pf));(case hN => rfl))|(apply aE;rfl;rfl)|(apply aV;rfl;rfl;(exact (rfl:_=[_, _]));rfl;rfl;rfl)|(apply aC;rfl;rfl)|(apply aF;kernel_rfl)|(apply cG;rfl;rfl)|(apply bK;rfl;rfl;rfl;rfl)|(apply bI;rfl;rfl)|(apply bE;rfl;rfl;rfl)|(apply aX;rfl;rfl;rfl;rfl;rfl;(case hl => (simp;done));(exact (rfl:_=[_, _, _]))))|(apply aM;first|apply aH|apply aB|(apply cH;rfl;(rfl))|apply aS|apply aR)|with_reducible apply aA)
  exact aP (l := [iv (eJ p.types (cT p) cs most.toNat).2.1, iv (eJ p.types (cT p) cs most.toNat).2.2]) rfl ⟨rfl, rfl⟩
 ·rw [if_neg h]
  have h2 : y1 p most = false := by simpa using h
  rw [h2] at hrt
  (refine aU Tryz.func14 rfl (by simp [Tryz.ntmps14]) ?_; rw [Tryz.ntmps14])
  repeat' (first|(apply aL;first|((with_reducible apply aJ (k := 42));(case ha => rfl);(case h => exact hrt);(case hp => (exact Pur.pf));(case hN => rfl))|(apply aE;rfl;rfl)|(apply aV;rfl;rfl;(exact (rfl:_=[_, _]));rfl;rfl;rfl)|(apply aC;rfl;rfl)|(apply aF;kernel_rfl)|(apply cG;rfl;rfl)|(apply bK;rfl;rfl;rfl;rfl))|(apply aM;first|apply aH|apply aB|(apply cA;rfl;(rfl))|apply aR)|with_reducible apply aA|with_reducible apply bJ)
  exact aP (l := [iv 5, iv 0]) rfl ⟨rfl, rfl⟩
theorem Kb {p : Prg} {cs : List Int} {n : Nat} (hv : dF p = true) : OkS p.types.length (eJ p.types (cT p) cs n).1 := by
 have wa := WA.of_valid hv
 have hp : ∀ a : Nat, PtN (cT p)[a]! := fun a => by
  by_cases h : a < (cT p).length
  ·exact ⟨fun e => (wa.a a h).n (.inr e)⟩
  ·refine ⟨fun e => ?_⟩
   rw [GV, dif_neg h] at e
   exact absurd e (by decide)
 exact OkS.run hp _ _ _ (OkS.mc0 _)
theorem AI {ts : List Int} {s : Mc} {x : Pnt} : (c9 ts s x).1.read.length ≤ s.read.length + 1 := by
 by_cases h : x.op = 11
 ·rw [tP h, tH]; omega
 ·exact z6 h
theorem wF (ts : List Int) (pts : List Pnt) : ∀ (l : List Nat) (s : Mc) (last : Nat), (iG ts pts l s last).1.read.length ≤ s.read.length + l.length
 | [], s, last => by unfold iG;simp
 | a :: l, s, last => by
  have h := AI (ts := ts) (s := s) (x := pts[a]!)
  unfold iG;split
  ·dsimp only;omega
  ·split
   ·have := wF ts pts l (c9 ts s pts[a]!).1 a
    rw [List.length_cons]; omega
   ·rw [List.length_cons]; dsimp only;omega
theorem Bt {ts : List Int} {pts : List Pnt} {cs : List Int} {n : Nat} (hn : n ≤ 150) : (eJ ts pts cs n).1.read.length ≤ 151 := by
 have h := wF ts pts (eL pts n 0 cs).1 (mc0 ts.length) 0
 have h2 := rQ (pts := pts) n 0 cs
 have h3 : (mc0 ts.length).read.length = 0 := rfl
 unfold eJ;omega
theorem Mf : Go.Proofs.Tryz.prog.underlying 246 = some (.map 3 4) := by kernel_rfl
theorem LO : Go.Proofs.Tryz.prog.underlying 3 = some (.int .i64) := by kernel_rfl
theorem LZ : (Go.Proofs.Tryz.prog.info? 4).bind (·.zero) = some (.bool false) := by kernel_rfl
theorem Mk {a b c : Int} (h : a ≤ b ∧ b ≤ c) : (!(decide (a ≤ b) && decide (b ≤ c))) = false := by simp [h.1, h.2]
theorem iO (m : List Cl) (hm : OkM m) : PC Tryz.prog 184 [sl c7 m] (fun r => r = bv true) := by
 have hml := hm.l
 (refine aU Tryz.func184 rfl (by simp [Tryz.ntmps184]) ?_; rw [Tryz.ntmps184])
 repeat' (first|(apply aL;first|(apply aE;rfl;rfl)|(apply aT;rfl;rfl;rfl;rfl)|(apply aC;rfl;rfl)|(apply bC;rfl;rfl;rfl)|(apply aF;kernel_rfl))|(apply aM;first|apply aH|apply aB|(apply aO;rfl;all_goals intro hc;have hq:=hc;(try simp only [cJ] at hq);try exfalso;omega)|apply aK|apply aS)|with_reducible apply aA)
 all_goals (try (exfalso;omega))
 refine a6 (σ := Nat) [11, 12] [(11, _), (12, _)] [] [] (fun i => [(13, iv (i : Int))]) (fun i => []) (fun i => i ≤ m.length) (fun i => m.length - i) (0) (Nat.zero_le _) rfl rfl (by repeat' (first|exact trivial|refine And.intro rfl ?_)) (by repeat' (exact trivial)) ?_
 rintro i hi
 by_cases hin : i < m.length
 ·have hc := (eA m).1 hm |>.2 i hin
  obtain ⟨h1, h2, h3, h4, h5⟩ := (oS _).1 hc
  repeat' (first|(apply aL;first|(apply aE;rfl;rfl)|(first|(apply aN;rfl;rfl;rfl;rfl)|(apply aV;rfl;rfl;(exact (rfl:_=[_, _, _, _]));rfl;rfl;rfl))|(apply aD;rfl;rfl;rfl)|(first|(apply bB;rfl;rfl;rfl;(assumption))|(apply bS;(case hj|hb|hN => rfl);all_goals (intro hg;have hq := hg;(try simp only [cJ] at hq);(try (exfalso;omega)))))|(apply aT;rfl;rfl;rfl;rfl)|(apply aC;rfl;rfl)|(apply bQ;rfl;(assumption);rfl;rfl)|(first|(apply aZ;(case hx|hi => rfl);(case hm => (assumption));(case hml => (rfl));(case hα | hf|hg => infer_instance);(case hN => rfl))|(apply cL;(case hx|hi => rfl);(case hm => (omega));(case hml => (rfl));(case hα | hf|hg => infer_instance);(case hN => rfl)))|((with_reducible apply aJ (k := 84));(case ha => rfl);(case h => (apply eC <;> (fail)));(case hp => (rfl));(case hN => rfl))|(apply bC;rfl;rfl;rfl)|(apply aF;kernel_rfl)|(apply cG;rfl;rfl)|(apply bI;rfl;rfl)|(apply aX;rfl;rfl;rfl;rfl;rfl;(case hl => (simp;done));(exact (rfl:_=[_, _, _, _]))))|(apply aM;first|with_reducible apply G0|apply aH|apply aB|(apply aO;rfl;all_goals intro hc;have hq:=hc;(try simp only [cJ] at hq);try exfalso;omega)|apply aK|apply aS|apply aR)|with_reducible apply aA|with_reducible apply bJ|with_reducible apply cQ)
  ·exfalso
   have hu : m[i]!.stk[Int.toNat 0]!.uq = false := by assumption
   rw [show Int.toNat 0 = 0 from rfl, h4] at hu;exact absurd hu (by decide)
  ·refine KF (F2 rfl (fun r => ?_))
   refine z8 ?_
   repeat' (apply aL;first|(apply aC;rfl;rfl)|(apply aF;kernel_rfl))
   refine ⟨rfl, rfl, ?_⟩
   refine lS (pK ?_)
   repeat' (first|(apply aL;first|(apply aE;rfl;rfl)|(apply aN;rfl;rfl;rfl;rfl)|(apply aD;rfl;rfl;rfl)|(apply bC;rfl;rfl;rfl)|(apply aF;kernel_rfl))|(apply aM;(apply aB)))
   show rV _ _ _ _ _ _ _
   refine w5 ?_
   refine D9 (σ := Nat) [4, 5, 11, 12, 13, 44, 45] [(4, _), (5, _), (11, _), (12, _), (13, _), (44, _), (45, _)] [0] [(0, some _)] (fun k => [(46, iv (k : Int))]) (fun k => []) (fun k => (m[i]!.stk.take k).map (·.id)) (fun k => k ≤ m[i]!.stk.length) (fun k => m[i]!.stk.length - k) (0) (Nat.zero_le _) (rfl) rfl rfl (by repeat' (first|exact trivial|refine And.intro rfl ?_)) (by repeat' (exact trivial)) ?_
   rintro k hk
   refine lS (pK ?_)
   repeat' (first|(apply aL;first|(apply aT;rfl;rfl;rfl;rfl)|(apply aF;kernel_rfl))|(apply aM;(apply aB)))
   show rV _ _ _ _ _ _ _
   refine lS (zC rfl (fun hb => zL ?_) (fun hb => FD ?_))
   ·show rV _ _ _ _ _ _ _
    have hkl : k < m[i]!.stk.length := by have := of_decide_eq_true hb;omega
    obtain ⟨g1, g2, g3⟩ := h5 k hkl
    have hw := Mk (a := 0) (b := m[i]!.stk[k]!.id) (c := m[i]!.next - 1) ⟨g1, by omega⟩
    have hni : m[i]!.stk[k]!.id ∉ (m[i]!.stk.take k).map (·.id) := fun q => by
     obtain ⟨t, ht, e⟩ := List.mem_map.1 q
     obtain ⟨j, hj, rfl⟩ := List.getElem_of_mem ht
     rw [List.length_take] at hj
     have f := tA (stk := m[i]!.stk) (id := m[i]!.stk[k]!.id) (by omega) j (by omega)
     rw [cV _ _ (by omega)] at f
     rw [List.getElem_take] at e
     exact f e
    refine lS (w5 (lS (pK ?_)))
    repeat' (first|(apply aL;first|(apply aV;rfl;rfl;(exact (rfl:_=[_, _]));rfl;rfl;rfl)|(apply aZ;(case hx|hi => rfl);(case hm => (assumption));(case hml => (rfl));(case hα | hf|hg => infer_instance);(case hN => rfl))|(apply aF;kernel_rfl)|(apply bI;rfl;rfl)|(apply aX;rfl;rfl;rfl;rfl;rfl;(case hl => (simp;done));(exact (rfl:_=[_, _]))))|(apply aM;(apply aB)))
    show rV _ _ _ _ _ _ _
    refine lS (lS (sY ?_))
    refine y3 (l1 := [_, _, _, _, _, _, _, _, _, _, _]) (l2 := [_, _]) ?_
    repeat' (apply aL;first|(apply aE;rfl;rfl)|(apply aN;rfl;rfl;rfl;rfl)|(apply aD;rfl;rfl;rfl)|(apply bB;rfl;rfl;rfl;(assumption))|(apply gF;rfl;rfl;omega;rfl)|((with_reducible apply aJ (k := 84));(case ha => rfl);(case h => (apply eC <;> (fail)));(case hp => (rfl));(case hN => rfl))|(apply aF;kernel_rfl)|(apply cG;rfl;rfl))
    refine ⟨rfl, ?_⟩
    refine D7 rfl rfl hw ?_
    refine B3 Mf LO LZ rfl rfl hni rfl ?_
    refine z8 ?_
    repeat' (apply aL;first|(apply bQ;rfl;(assumption);rfl;rfl)|(apply aF;kernel_rfl))
    refine ⟨rfl, ?_⟩
    show rV _ _ _ _ _ _ _
    refine zC rfl (fun h => by cases h) (fun _ => zL ?_)
    show rV _ _ _ _ _ _ _
    refine sY ?_
    refine y3 (l1 := [_, _, _]) (l2 := [_]) ?_
    repeat' (apply aL;first|(apply aE;rfl;rfl)|(apply aN;rfl;rfl;rfl;rfl)|(apply aD;rfl;rfl;rfl)|(apply aF;kernel_rfl))
    refine ⟨rfl, ?_⟩
    refine By Mf LO LZ rfl rfl hni ?_
    refine I1 ?_
    show rV _ _ _ _ _ _ _
    refine pK ?_
    repeat' (first|(apply aL;first|(apply aE;rfl;rfl)|(apply bR;rfl;rfl;omega;rfl)|(apply aF;kernel_rfl))|(apply aM;(apply aB)))
    refine ⟨k + 1, by omega, by omega, ?_, ?_⟩
    ·refine Le.ren [(0, 0)] rfl (by decide) ?_ ?_ <;> repeat' (first|exact trivial|refine And.intro ⟨_, rfl, ?_⟩ ?_|refine And.intro ⟨_, _, rfl, rfl, ?_⟩ ?_|exact Or.inr rfl|refine Or.inl ⟨?_, (by first|rfl|exact aY _ _|exact Pur.pf)⟩|rfl)
    ·rw [c5 _ k hkl, List.map_append]; rfl
   ·have hkl : k = m[i]!.stk.length := by have := of_decide_eq_false hb; omega
    refine F1 ?_
    show BM 1 _ _ _
    repeat' (first|(apply aL;first|(apply aE;rfl;rfl)|(apply bR;rfl;rfl;omega;rfl)|(apply aF;kernel_rfl))|(apply aM;(apply aB))|with_reducible apply aA|with_reducible apply aW)
    (apply dJ (i + 1);focus (refine Le.ren [] rfl (by decide) ?_ ?_ <;> repeat' (first|exact trivial|refine And.intro ⟨_, rfl, ?_⟩ ?_|refine Or.inl ⟨?_, (by first|rfl|exact aY _ _)⟩|rfl)))
    ·omega
    ·omega
 ·repeat' (first | (apply aL; first | (apply aT;rfl;rfl;rfl;rfl) | (apply aC;rfl;rfl) | (apply aF;kernel_rfl)) | (apply aM; first | apply aH | apply aB | (apply aO;rfl;all_goals intro hc;have hq:=hc;(try simp only [cJ] at hq);try exfalso;omega) | apply bG | apply aR) | with_reducible apply aA | with_reducible apply bH | with_reducible apply bF)
  refine aP rfl ⟨rfl, rfl⟩
end Go.Proofs.YtckihjkcgfphmaaGreat
