/-
 A part of the proofs over this program: rules and contracts of its functions (the contracts).
-/
import Derived.Test.YtckihjkcgfphmaaGreatP1B04
set_option linter.unusedVariables false
set_option linter.unusedSimpArgs false
set_option maxHeartbeats 8000000
set_option maxRecDepth 4000
attribute [local irreducible] Go.AL.RW Go.AL.AW Go.AL.Stop
namespace Go.Proofs.YtckihjkcgfphmaaGreat
open Go.AL Go.RowKit
theorem B0 {stk r : List Tg} {k : Nat} {N : Nat} {Q : Exit → AS → Prop} {all : Array Oper} {rest : List Oper} {tsl : List (Nat × AV)} {hsl : List (Nat × Option (List AV))} {nidl : Nat} {z0 : Lo} {md : Md} {d : Nat} {ty : TypeId} {pos : String} {af : Array Edge} {tys : Array TypeId} {x0 x1 : Operand} (ha0 : ev (lk tsl) x0 = some (sl dN stk)) (ha1 : ev (lk tsl) x1 = some (iv (k : Int))) (hmc : MC Tryz.prog 196 [sl dN stk, iv (k : Int)] [] 0 (fun _ : Unit => True) (fun _ => .own 1 0 r.length 2) (fun _ => [(1, some (aJ dN r))])) (hM : Nat.ble (nidl + 2) eX = true) (hN : Nat.blt d N = true) {md' : Md} [hmd : MdA md (gJ [x0, x1] ++ []) (List.map Sum.inr (List.map Prod.fst ([((nidl + 1), some (aJ dN r))] : List (Nat × Option (List AV)))) ++ [.inl d]) md'] (kk : RW Tryz.prog N all Q md' rest ⟨(d, .own (nidl + 1) 0 r.length 2) :: tsl, iJ hsl [((nidl + 1), some (aJ dN r))], nidl + 2, z0⟩) : RW Tryz.prog N all Q md (⟨some d, .call ⟨.value (.func 196), #[x0, x1], tys⟩, ty, pos, af, none⟩ :: rest) ⟨tsl, hsl, nidl, z0⟩ := by
 refine cJ [] 2 [((nidl + 1), some (aJ dN r))] hmc (avs := [sl dN stk, iv (k : Int)]) ?_ rfl ?_ rfl ?_ (by simpa using hM) ?_ ?_ ?_ hN (md' := md') (hmd := hmd) kk
 ·show evL (lk tsl) [x0, x1] = _
  simp only [evL, ha0, ha1]
 ·exact trivial
 ·(repeat' (exact RnL.purI inferInstance))
 ·(repeat' (exact RnV.own rfl))
 ·simp [dJ]
 ·(repeat' (first|exact trivial|(refine And.intro ⟨1, _, rfl, rfl, ?_⟩ ?_)|exact RnL.purI inferInstance))
theorem DY (stk r : List Tg) (k : Nat) (hr : r = fO stk k false) (hk : k < stk.length) (hl : stk.length ≤ 1000000) : MC Tryz.prog 196 [sl dN stk, iv (k : Int)] [] 0 (fun _ : Unit => True) (fun _ => .own 1 0 r.length 2) (fun _ => [(1, some (aJ dN r))]) := by
 have e1 : List.take (((k : Int) + 1).toNat - 0) (List.drop 0 stk) = stk.take (k + 1) := by rw [List.drop_zero]; congr 1
 have e2 : (stk.take (k + 1)).length = k + 1 := by rw [List.length_take]; omega
 (refine cA Tryz.func196 rfl (by simp [Tryz.ntmps196]) ?_; rw [Tryz.ntmps196])
 repeat' (first|(apply aL;first|(with_reducible apply cS (d := 12))|(apply aE;rfl;rfl)|(apply bS;rfl;rfl;omega;rfl)|(apply aC;rfl;rfl)|(apply aF;kernel_rfl)|(apply gV;rfl;infer_instance;rfl;rfl;(omega);rfl)|(apply bX;rfl;rfl;rfl;(rfl);rfl;rfl))|(apply aM;first|apply aH|apply aB)|with_reducible apply aA)
 refine dP ?_
 rw [e1]
 repeat' (first|(apply aL;first|(apply aE;rfl;rfl)|(apply bS;rfl;rfl;omega;rfl)|(apply aC;rfl;rfl)|(apply bY;rfl;rfl;rfl;rfl;rfl;(case hl => (simp [aU]; done));(exact iN (by (rfl)));omega;omega;(exact e7 (by (omega)));rfl;rfl)|(apply aF;kernel_rfl))|(apply aM;first|apply aH|apply aB|apply aK)|with_reducible apply aA)
 refine bB (σ := Nat × List Tg × Nat) [0] [(0, _)] [] [] (fun s => [(6, iv (s.1 : Int)), (5, .own 1 0 s.2.2 2)]) (fun s => [(1, some (aJ dN s.2.1))]) (fun s => k + 1 ≤ s.1 ∧ s.1 ≤ stk.length ∧ s.2.1 = stk.take (k + 1) ++ ((stk.drop (k + 1)).take (s.1 - (k + 1))).filter (fun t => !t.uq) ∧ s.2.2 = s.2.1.length ∧ s.2.2 ≤ s.1) (fun s => stk.length - s.1) (k + 1, stk.take (k + 1), 0 + (stk.take (k + 1)).length) ⟨Nat.le_refl _, by dsimp only;omega, by simp, by dsimp only;omega, by dsimp only;omega⟩ rfl rfl (by repeat' (first|exact trivial|refine And.intro rfl ?_)) (by repeat' (first|exact trivial|refine And.intro (.inr rfl) ?_)) ?_
 rintro ⟨i, xs, n⟩ ⟨hki, hi, hxs, hn, hni⟩
 dsimp only at hki hi hxs hn hni ⊢
 repeat' (first|(apply aL;first|(apply aE;rfl;rfl)|(first|(apply aN;rfl;rfl;rfl;rfl)|(apply aV;rfl;rfl;(exact (rfl:_=[_, _]));rfl;rfl;rfl))|(apply aD;rfl;rfl;rfl)|(first|(apply bS;rfl;rfl;omega;rfl)|(apply aT;rfl;rfl;rfl;rfl))|(apply aC;rfl;rfl)|(apply aZ;(case hx|hi => rfl);(case hm => (omega));(case hml => (rfl));(case hα | hf|hg => infer_instance);(case hN => rfl))|(first|(apply bF;rfl;rfl;rfl)|(apply bY;rfl;rfl;rfl;rfl;rfl;(rw [aU]; omega);(rfl);omega;omega;(exact uJ (by (assumption)));rfl;rfl))|(apply aF;kernel_rfl)|(apply cG;rfl;rfl)|((apply bC (t := _));(case hze|hsm|hl => rfl);(case hfl => (exact (rfl:_=some [_, _])));(case hM|hN => rfl)))|(apply aM;first|apply aH|apply aB|(apply aP;rfl;all_goals intro hc;have hq:=hc;(try simp only [cH] at hq);try exfalso;omega)|apply aK|apply aR|apply bJ|apply aQ)|with_reducible apply aA|with_reducible apply bO|with_reducible apply aX|with_reducible apply bK)
 ·(apply dK (i + 1, _, _); focus (refine Le.ren [(1, 3)] rfl (by decide) ?_ ?_ <;> repeat' (first | exact trivial | refine And.intro ⟨_, rfl, ?_⟩ ?_ | refine And.intro ⟨_, _, rfl, rfl, ?_⟩ ?_ | exact Or.inr rfl | refine Or.inl ⟨?_, (by first | rfl | exact aY _ _)⟩ | rfl)))
  ·refine ⟨by dsimp only; omega, by dsimp only; omega, ?_, by dsimp only; rw [List.length_append, hn]; rfl, by dsimp only; omega⟩
   dsimp only
   rw [hxs, kA stk hki (by omega), List.filter_append, List.append_assoc]
   congr 2
   have hu : stk[i]!.uq = false := by assumption
   rw [pN (by rw [hu]; rfl)]
  ·dsimp only;omega
 ·(apply dK (i + 1, xs, n); focus (refine Le.ren [(1, 1)] rfl (by decide) ?_ ?_ <;> repeat' (first | exact trivial | refine And.intro ⟨_, rfl, ?_⟩ ?_ | refine And.intro ⟨_, _, rfl, rfl, ?_⟩ ?_ | exact Or.inr rfl | refine Or.inl ⟨?_, (by first | rfl | exact aY _ _)⟩ | rfl)))
  ·refine ⟨by dsimp only; omega, by dsimp only; omega, ?_, hn, by dsimp only; omega⟩
   dsimp only
   have hu : stk[i]!.uq = true := by assumption
   rw [hxs, kA stk hki (by omega), List.filter_append, mR (by rw [hu]; rfl), List.append_nil]
  ·dsimp only;omega
 ·have hie : i = stk.length := by omega
  have hd : (stk.drop (k + 1)).take (stk.length - (k + 1)) = stk.drop (k + 1) := List.take_of_length_le (by rw [List.length_drop]; exact Nat.le_refl _)
  have hxr : xs = r := by rw [hxs, hie, hd, hr]; rfl
  subst hxr
  (refine aO rfl ?_; refine bW () trivial ?_ ⟨.inr (Eq.trans (b := some _) rfl ?_), trivial⟩)
  ·rw [hn]; rfl
  ·rfl
theorem GS {m : List Cl} {x : Pt} {j : Nat} {r : List Tg} {v : Int} {N : Nat} {Q : Exit → AS → Prop} {all : Array Oper} {rest : List Oper} {tsl : List (Nat × AV)} {hsl : List (Nat × Option (List AV))} {nidl : Nat} {z0 : Lo} {md : Md} {d : Nat} {ty : TypeId} {pos : String} {af : Array Edge} {tys : Array TypeId} {x0 x1 : Operand} (ha0 : ev (lk tsl) x0 = some (sl c8 m)) (ha1 : ev (lk tsl) x1 = some (m3 x)) (hmc : MC Tryz.prog 148 [sl c8 m, m3 x] [] 0 (fun _ : Unit => True) (fun _ => .tup [.own 1 0 m.length 4, iv v, iv 0]) (fun _ => [(1, some (aJ fR (eF m j (.own 3 0 r.length 2)))), (3, some (aJ dN r))])) (hM : Nat.ble (nidl + 4) eX = true) (hN : Nat.blt d N = true) {md' : Md} [hmd : MdA md (gJ [x0, x1] ++ []) (List.map Sum.inr (List.map Prod.fst ([((nidl + 1), some (aJ fR (eF m j (.own (nidl + 3) 0 r.length 2)))), ((nidl + 3), some (aJ dN r))] : List (Nat × Option (List AV)))) ++ [.inl d]) md'] (kk : RW Tryz.prog N all Q md' rest ⟨(d, .tup [.own (nidl + 1) 0 m.length 4, iv v, iv 0]) :: tsl, iJ hsl [((nidl + 1), some (aJ fR (eF m j (.own (nidl + 3) 0 r.length 2)))), ((nidl + 3), some (aJ dN r))], nidl + 4, z0⟩) : RW Tryz.prog N all Q md (⟨some d, .call ⟨.value (.func 148), #[x0, x1], tys⟩, ty, pos, af, none⟩ :: rest) ⟨tsl, hsl, nidl, z0⟩ := by
 refine cJ [] 4 [((nidl + 1), some (aJ fR (eF m j (.own (nidl + 3) 0 r.length 2)))), ((nidl + 3), some (aJ dN r))] hmc (avs := [sl c8 m, m3 x]) ?_ rfl ?_ rfl ?_ (by simpa using hM) ?_ ?_ ?_ hN (md' := md') (hmd := hmd) kk
 ·show evL (lk tsl) [x0, x1] = _
  simp only [evL, ha0, ha1]
 ·exact trivial
 ·(repeat' (exact RnL.purI inferInstance))
 ·(repeat' (first|exact RnL.purI inferInstance|exact RnV.own rfl|refine RnL.cons ?_ ?_|refine RnV.tup ?_))
 ·simp [dJ]
 ·(repeat' (first|exact trivial|(refine And.intro ⟨1, _, rfl, rfl, ?_⟩ ?_)|(refine And.intro ⟨3, _, rfl, rfl, ?_⟩ ?_)|exact RnL.purI inferInstance|exact kL rfl))
theorem I7 (m : List Cl) (x : Pt) (j : Nat) (r : List Tg) (v : Int) (hm : OkM m) (hk : cM m x false = 0) (hj : j = x.cell.toNat) (hr : r = fO m[j]!.stk (dE m[j]!.stk x.tag).toNat false) (hv : v = m[j]!.val) : MC Tryz.prog 148 [sl c8 m, m3 x] [] 0 (fun _ : Unit => True) (fun _ => .tup [.own 1 0 m.length 4, iv v, iv 0]) (fun _ => [(1, some (aJ fR (eF m j (.own 3 0 r.length 2)))), (3, some (aJ dN r))]) := by
 subst hj
 have hml := hm.l
 have hst : 0 ≤ x.cell → x.cell < m.length → m[x.cell.toNat]!.stk.length ≤ 1000000 := fun h1 h2 => Nat.le_trans (((dX m).1 hm).2 x.cell.toNat (by omega)).l.2 (by decide)
 have hpl := k6 m hm x
 rw [if_pos hk, hk] at hpl
 obtain ⟨h1, h2, h3, h4, _⟩ := eT hk
 have hbd := eZ m[x.cell.toNat]!.stk x.tag
 have hrd := DY m[x.cell.toNat]!.stk r (dE m[x.cell.toNat]!.stk x.tag).toNat hr (by omega) (hst h1 h2)
 rw [Int.toNat_of_nonneg h4] at hrd
 obtain ⟨k, hkk⟩ := Int.eq_ofNat_of_zero_le h4
 rw [hkk] at hpl hrd
 (refine cA Tryz.func148 rfl (by simp [Tryz.ntmps148]) ?_; rw [Tryz.ntmps148])
 repeat' (first|(apply aL;first|(apply fW;rfl;exact gW m hm;rfl;rfl)|((with_reducible apply aI (k := 195));(case ha => rfl);(case h => exact hpl);(case hp => (exact Pur.pf));(case hN => rfl))|(apply B0;rfl;rfl;exact hrd;rfl;rfl)|(apply aE;rfl;rfl)|(first|(apply aN;rfl;rfl;rfl;rfl)|(apply aV;rfl;rfl;(exact (rfl:_=[_, _]));rfl;rfl;rfl))|(apply aD;rfl;rfl;rfl)|(apply aT;rfl;rfl;rfl;rfl)|(apply aC;rfl;rfl)|(first|(apply cK;(case hx|hi => rfl);(case hm => (omega));(case hml => (rfl));(case hα | hf|hg => infer_instance);(case hN => rfl))|(apply cR;rfl;rfl;(omega);rfl))|(apply aF;kernel_rfl)|(apply bQ;rfl;rfl;rfl;rfl)|(apply a8;rfl;rfl;rfl)|(apply aW;rfl;rfl;rfl;rfl;rfl;(rw [aU]; simp only [fY] <;> omega);(exact xG (by (omega)))))|(apply aM;first|apply aH|apply aB|(apply b0;kernel_rfl)|(apply cF;rfl;(rfl))|apply aR|apply aQ)|with_reducible apply aA)
 (refine aO rfl ?_; refine bW () trivial ?_ ⟨.inr (Eq.trans (b := some _) rfl ?_), ⟨.inr (Eq.trans (b := some _) rfl ?_), trivial⟩⟩)
 ·rw [hv]; rfl
 ·rfl
 ·rfl
theorem Ew {m : List Cl} {x : Pt} {j : Nat} {r : List Tg} {N : Nat} {Q : Exit → AS → Prop} {all : Array Oper} {rest : List Oper} {tsl : List (Nat × AV)} {hsl : List (Nat × Option (List AV))} {nidl : Nat} {z0 : Lo} {md : Md} {d : Nat} {ty : TypeId} {pos : String} {af : Array Edge} {tys : Array TypeId} {x0 x1 : Operand} (ha0 : ev (lk tsl) x0 = some (sl c8 m)) (ha1 : ev (lk tsl) x1 = some (m3 x)) (hmc : MC Tryz.prog 190 [sl c8 m, m3 x] [] 0 (fun _ : Unit => True) (fun _ => .tup [.own 1 0 m.length 4, iv 0]) (fun _ => [(1, some (aJ fR (eF m j (.own 3 0 r.length 2)))), (3, some (aJ dN r))])) (hM : Nat.ble (nidl + 4) eX = true) (hN : Nat.blt d N = true) {md' : Md} [hmd : MdA md (gJ [x0, x1] ++ []) (List.map Sum.inr (List.map Prod.fst ([((nidl + 1), some (aJ fR (eF m j (.own (nidl + 3) 0 r.length 2)))), ((nidl + 3), some (aJ dN r))] : List (Nat × Option (List AV)))) ++ [.inl d]) md'] (kk : RW Tryz.prog N all Q md' rest ⟨(d, .tup [.own (nidl + 1) 0 m.length 4, iv 0]) :: tsl, iJ hsl [((nidl + 1), some (aJ fR (eF m j (.own (nidl + 3) 0 r.length 2)))), ((nidl + 3), some (aJ dN r))], nidl + 4, z0⟩) : RW Tryz.prog N all Q md (⟨some d, .call ⟨.value (.func 190), #[x0, x1], tys⟩, ty, pos, af, none⟩ :: rest) ⟨tsl, hsl, nidl, z0⟩ := by
 refine cJ [] 4 [((nidl + 1), some (aJ fR (eF m j (.own (nidl + 3) 0 r.length 2)))), ((nidl + 3), some (aJ dN r))] hmc (avs := [sl c8 m, m3 x]) ?_ rfl ?_ rfl ?_ (by simpa using hM) ?_ ?_ ?_ hN (md' := md') (hmd := hmd) kk
 ·show evL (lk tsl) [x0, x1] = _
  simp only [evL, ha0, ha1]
 ·exact trivial
 ·(repeat' (exact RnL.purI inferInstance))
 ·(repeat' (first|exact RnL.purI inferInstance|exact RnV.own rfl|refine RnL.cons ?_ ?_|refine RnV.tup ?_))
 ·simp [dJ]
 ·(repeat' (first|exact trivial|(refine And.intro ⟨1, _, rfl, rfl, ?_⟩ ?_)|(refine And.intro ⟨3, _, rfl, rfl, ?_⟩ ?_)|exact RnL.purI inferInstance|exact kL rfl))
theorem FR (m : List Cl) (x : Pt) (j : Nat) (r : List Tg) (hm : OkM m) (hk : cM m x true = 0) (hj : j = x.cell.toNat) (hr : r = fO m[j]!.stk (dE m[j]!.stk x.tag).toNat true) : MC Tryz.prog 190 [sl c8 m, m3 x] [] 0 (fun _ : Unit => True) (fun _ => .tup [.own 1 0 m.length 4, iv 0]) (fun _ => [(1, some (aJ fR (eF m j (.own 3 0 r.length 2)))), (3, some (aJ dN r))]) := by
 subst hj
 have hml := hm.l
 obtain ⟨h1, h2, h3, h4, hu⟩ := eT hk
 have hk0 : cM m x false = 0 := rC h1 h2 h3 h4
 have hs2 : m[x.cell.toNat]!.stk.length ≤ 200 := (((dX m).1 hm).2 x.cell.toNat (by omega)).l.2
 have hpl := k6 m hm x
 rw [if_pos hk0, hk0] at hpl
 have hbd := eZ m[x.cell.toNat]!.stk x.tag
 obtain ⟨k, hkk⟩ := Int.eq_ofNat_of_zero_le h4
 have hkt : (dE m[x.cell.toNat]!.stk x.tag).toNat = k := by omega
 rw [hkk] at hpl
 rw [hkt] at hr hu
 have hkn : k < m[x.cell.toNat]!.stk.length := by omega
 have e1 : List.take (((k : Int) + 1).toNat - 0) (List.drop 0 m[x.cell.toNat]!.stk) = r := by rw [List.drop_zero, hr]; unfold fO;rw [if_pos rfl]; congr 1
 have e2 : r.length = k + 1 := by rw [← e1, List.drop_zero, List.length_take]; omega
 have hut := hu rfl
 (refine cA Tryz.func190 rfl (by simp [Tryz.ntmps190]) ?_; rw [Tryz.ntmps190])
 repeat' (first|(apply aL;first|(apply fW;rfl;exact gW m hm;rfl;rfl)|((with_reducible apply aI (k := 195));(case ha => rfl);(case h => exact hpl);(case hp => (exact Pur.pf));(case hN => rfl))|(with_reducible apply cS (d := 46))|(apply aE;rfl;rfl)|(first|(apply aN;rfl;rfl;rfl;rfl)|(apply aV;rfl;rfl;(exact (rfl:_=[_, _]));rfl;rfl;rfl))|(apply aD;rfl;rfl;rfl)|(first|(apply bS;rfl;rfl;omega;rfl)|(apply aT;rfl;rfl;rfl;rfl))|(apply aC;rfl;rfl)|(first|(apply aZ;(case hx|hi => rfl);(case hm => (assumption));(case hml => (rfl));(case hα | hf|hg => infer_instance);(case hN => rfl))|(apply cK;(case hx|hi => rfl);(case hm => (omega));(case hml => (rfl));(case hα | hf|hg => infer_instance);(case hN => rfl)))|(apply aF;kernel_rfl)|(apply gV;rfl;infer_instance;rfl;rfl;(omega);rfl)|(apply cG;rfl;rfl)|(apply bQ;rfl;rfl;rfl;rfl)|(apply a8;rfl;rfl;rfl)|(apply bX;rfl;rfl;rfl;(rfl);rfl;rfl))|(apply aM;first|apply aH|apply aB|(apply b0;kernel_rfl)|(apply cF;rfl;(rfl))|(apply aP;rfl;all_goals intro hc;have hq:=hc;(try simp only [cH] at hq);try exfalso;omega)|apply aR|apply aQ)|with_reducible apply aA|with_reducible apply bD)
 ·exfalso; have hf : m[x.cell.toNat]!.stk[k]!.uq = false := by assumption
  rw [hut] at hf;exact absurd hf (by decide)
 refine dP ?_
 rw [e1]
 repeat' (first|(apply aL;first|(apply aE;rfl;rfl)|(apply aD;rfl;rfl;rfl)|(apply aC;rfl;rfl)|(apply cR;rfl;rfl;(omega);rfl)|(apply bY;rfl;rfl;rfl;rfl;rfl;(case hl => (simp [aU]; done));(exact iN (by (rfl)));omega;omega;(exact e7 (by (omega)));rfl;rfl)|(apply aF;kernel_rfl)|(apply aW;rfl;rfl;rfl;rfl;rfl;(rw [aU]; simp only [fY] <;> omega);(exact xG (by (omega)))))|(apply aM;first|apply aH|apply aB|apply aQ)|with_reducible apply aA)
 (refine aO rfl ?_; refine bW () trivial ?_ ⟨.inr (Eq.trans (b := some _) rfl ?_), ⟨.inr (Eq.trans (b := some _) rfl ?_), trivial⟩⟩)
 ·rfl
 ·rw [Nat.zero_add r.length]
 ·rfl
theorem lV {m : List Cl} {x : Pt} {u : Bool} {r : List Tg} (hk : cM m x u = 0) (hr : r = fO m[x.cell.toNat]!.stk (dE m[x.cell.toNat]!.stk x.tag).toNat u) : kQ m x u = j7 m x.cell.toNat r ∧ j4 m x u = j6 m m x.cell.toNat u r ∧ n7 m x u = j8 m x.cell.toNat r := by
 obtain ⟨h1, h2, _⟩ := eT hk
 subst hr
 have e : kQ m x u = j7 m x.cell.toNat (fO m[x.cell.toNat]!.stk (dE m[x.cell.toNat]!.stk x.tag).toNat u) := by
  unfold kQ;rw [if_pos hk]; rfl
 refine ⟨e, ?_, ?_⟩
 ·unfold j4 j6
  rw [e]; unfold j7
  split
  ·rw [if_neg (by decide)]
  ·rw [if_pos rfl]; rfl
 ·unfold n7 j8
  rw [e]; unfold j7
  split
  ·rw [if_neg (by decide)]
  ·rw [if_pos rfl, Int.toNat_of_nonneg h1]
theorem Hj {m : List Cl} {x : Pt} {u : Bool} (hk : cM m x u ≠ 0) : kQ m x u = cM m x u ∧ j4 m x u = m ∧ n7 m x u = ⟨0, 0⟩ := by
 have e : kQ m x u = cM m x u := by unfold kQ;rw [if_neg hk]
 exact ⟨e, by unfold j4;rw [if_neg (by rw [e]; exact hk)], by unfold n7;rw [if_neg (by rw [e]; exact hk)]⟩
theorem xA (m : List Cl) (hm : OkM m) (x : Pt) : PC Tryz.prog 193 [sl c8 m, m3 x] (fun r => r = .tup [sl c8 (j4 m x false), m3 (n7 m x false), iv (kQ m x false)]) := by
 have hml := hm.l
 by_cases hk : cM m x false = 0
 ·obtain ⟨c, t⟩ := x
  obtain ⟨h1, h2, _⟩ := eT hk
  have h1' : 0 ≤ c := h1
  obtain ⟨j, rfl⟩ := Int.eq_ofNat_of_zero_le h1'
  have h2' : (j : Int) < m.length := h2
  have hc := ((dX m).1 hm).2 j (by omega)
  obtain ⟨r, hr⟩ : ∃ r, r = fO m[j]!.stk (dE m[j]!.stk t).toNat false := ⟨_, rfl⟩
  have hrl : r.length ≤ 200 := by rw [hr]; exact Nat.le_trans tchS_sub.length_le hc.l.2
  obtain ⟨e1, e2, e3⟩ := lV hk hr
  have hpu := z7 m m j false r m.length r.length hm rfl rfl (by omega) (by have := hc.n;omega) hrl hml
  rw [e1, e2, e3]
  (refine aS Tryz.func193 rfl (by simp [Tryz.ntmps193]) ?_; rw [Tryz.ntmps193])
  repeat' (first|(apply aL;first|((apply GS (j := j) (r := r) (v := m[j]!.val));(case ha0|ha1 => rfl);(case hmc => exact I7 m _ _ r _ hm hk rfl hr rfl);(case hM|hN => rfl))|((apply vY (m := m) (b := m) (j := j) (u := false) (r := r) (n := m.length) (k := r.length));(case ha0|ha1|ha2|ha3|hH0|hH1|hdd => rfl);(case hmc => exact hpu);(case hM|hN => rfl))|(apply aE;rfl;rfl)|(first|(apply aN;rfl;rfl;rfl;rfl)|(apply aV;rfl;rfl;(exact (rfl:_=[_, _]));rfl;rfl;rfl))|(apply aD;rfl;rfl;rfl)|(apply aT;rfl;rfl;rfl;rfl)|(apply aC;rfl;rfl)|(apply aF;kernel_rfl)|(apply bQ;rfl;rfl;rfl;rfl)|(apply bE;rfl;rfl)|(apply a8;rfl;rfl;rfl)|(apply aW;rfl;rfl;rfl;rfl;rfl;(case hl => (simp;done));(exact (rfl:_=[_, _]))))|(apply aM;first|apply aH|apply aB|(apply cF;rfl;(rfl))|apply aR|apply aQ)|with_reducible apply aA)
  exact aO (l := [sl c8 (j6 m m j false r), .agg [iv (j8 m j r).cell, iv (j8 m j r).tag], iv (j7 m j r)]) rfl ⟨rfl, by (exact Pur.pf)⟩
 ·obtain ⟨e1, e2, e3⟩ := Hj hk
  have hrd := qA m hm x
  have e4 : dS m x false = m := by unfold dS;rw [if_neg hk]
  rw [e4] at hrd
  rw [e1, e2, e3]
  (refine aS Tryz.func193 rfl (by simp [Tryz.ntmps193]) ?_; rw [Tryz.ntmps193])
  repeat' (first|(apply aL;first|((with_reducible apply aI (k := 148));(case ha => rfl);(case h => exact hrd);(case hp => (exact Pur.pf));(case hN => rfl))|(apply aE;rfl;rfl)|(apply aV;rfl;rfl;(exact (rfl:_=[_, _]));rfl;rfl;rfl)|(apply aT;rfl;rfl;rfl;rfl)|(apply aC;rfl;rfl)|(apply aF;kernel_rfl)|(apply cC;rfl;(exact (rfl:_=some [_, _]));(exact (rfl:_=[_, _]));rfl)|(apply bQ;rfl;rfl;rfl;rfl)|(apply bE;rfl;rfl)|(apply a8;rfl;rfl;rfl)|(apply aW;rfl;rfl;rfl;rfl;rfl;(decide);(exact (rfl:_=[_, _]))))|(apply aM;first|apply aH|apply aB|(apply aP;rfl;all_goals intro hc;have hq:=hc;(try simp only [cH] at hq);try exfalso;omega)|apply aQ)|with_reducible apply aA|with_reducible apply bD)
  skip
  exact aO (l := [sl c8 m, .agg [iv 0, iv 0], iv (cM m x false)]) rfl ⟨rfl, by (exact Pur.pf)⟩
theorem u9 (m : List Cl) (hm : OkM m) (x : Pt) : PC Tryz.prog 194 [sl c8 m, m3 x] (fun r => r = .tup [sl c8 (j4 m x true), m3 (n7 m x true), iv (kQ m x true)]) := by
 have hml := hm.l
 by_cases hk : cM m x true = 0
 ·obtain ⟨c, t⟩ := x
  obtain ⟨h1, h2, _⟩ := eT hk
  have h1' : 0 ≤ c := h1
  obtain ⟨j, rfl⟩ := Int.eq_ofNat_of_zero_le h1'
  have h2' : (j : Int) < m.length := h2
  have hc := ((dX m).1 hm).2 j (by omega)
  obtain ⟨r, hr⟩ : ∃ r, r = fO m[j]!.stk (dE m[j]!.stk t).toNat true := ⟨_, rfl⟩
  have hrl : r.length ≤ 200 := by rw [hr]; exact Nat.le_trans tchS_sub.length_le hc.l.2
  obtain ⟨e1, e2, e3⟩ := lV hk hr
  have hpu := z7 m m j true r m.length r.length hm rfl rfl (by omega) (by have := hc.n;omega) hrl hml
  rw [e1, e2, e3]
  (refine aS Tryz.func194 rfl (by simp [Tryz.ntmps194]) ?_; rw [Tryz.ntmps194])
  repeat' (first|(apply aL;first|((apply Ew (j := j) (r := r));(case ha0|ha1 => rfl);(case hmc => exact FR m _ _ r hm hk rfl hr);(case hM|hN => rfl))|((apply vY (m := m) (b := m) (j := j) (u := true) (r := r) (n := m.length) (k := r.length));(case ha0|ha1|ha2|ha3|hH0|hH1|hdd => rfl);(case hmc => exact hpu);(case hM|hN => rfl))|(apply aE;rfl;rfl)|(first|(apply aN;rfl;rfl;rfl;rfl)|(apply aV;rfl;rfl;(exact (rfl:_=[_, _]));rfl;rfl;rfl))|(apply aD;rfl;rfl;rfl)|(apply aT;rfl;rfl;rfl;rfl)|(apply aC;rfl;rfl)|(apply aF;kernel_rfl)|(apply bQ;rfl;rfl;rfl;rfl)|(apply bE;rfl;rfl)|(apply a8;rfl;rfl;rfl)|(apply aW;rfl;rfl;rfl;rfl;rfl;(case hl => (simp;done));(exact (rfl:_=[_, _]))))|(apply aM;first|apply aH|apply aB|(apply cF;rfl;(rfl))|apply aR|apply aQ)|with_reducible apply aA)
  exact aO (l := [sl c8 (j6 m m j true r), .agg [iv (j8 m j r).cell, iv (j8 m j r).tag], iv (j7 m j r)]) rfl ⟨rfl, by (exact Pur.pf)⟩
 ·obtain ⟨e1, e2, e3⟩ := Hj hk
  have hwr := j1 m x hm
  have e4 : dS m x true = m := by unfold dS;rw [if_neg hk]
  rw [e1, e2, e3]
  (refine aS Tryz.func194 rfl (by simp [Tryz.ntmps194]) ?_; rw [Tryz.ntmps194])
  repeat' (first|(apply aL;first|(apply jC;rfl;rfl;exact hwr;rfl;rfl)|(apply aE;rfl;rfl)|(apply aV;rfl;rfl;(exact (rfl:_=[_, _]));rfl;rfl;rfl)|(apply aT;rfl;rfl;rfl;rfl)|(apply aC;rfl;rfl)|(apply aF;kernel_rfl)|(apply cC;rfl;(exact (rfl:_=some [_, _]));(exact (rfl:_=[_, _]));rfl)|(apply bQ;rfl;rfl;rfl;rfl)|(apply bE;rfl;rfl)|(apply a8;rfl;rfl;rfl)|(apply aW;rfl;rfl;rfl;rfl;rfl;(decide);(exact (rfl:_=[_, _]))))|(apply aM;first|apply aH|apply aB|(apply aP;rfl;all_goals intro hc;have hq:=hc;(try simp only [cH] at hq);try exfalso;omega)|apply aQ)|with_reducible apply aA|with_reducible apply bD)
  refine cE (Le.frzD (d := 4) (i := 3) (m := m.length) (cs := aJ c8 (dS m x true)) rfl rfl) ?_
  rw [e4]
  exact aO (l := [sl c8 m, .agg [iv 0, iv 0], iv (cM m x true)]) rfl ⟨rfl, by (exact Pur.pf)⟩
abbrev gQ (s : Mc) : AV := .agg [sl eH s.slots, sl c8 s.cells, sl cI s.read]
theorem wT {xs : List Sl} {k : Nat} {a : Bool} {b c d : Int} (hk : k < xs.length) : iR (aJ eH xs) (0 + k * 4) [bv a, iv b, iv c, iv d] = aJ eH (xs.set k ⟨a, b, ⟨c, d⟩⟩) := lZ hk rfl
theorem pO (s : Mc) (v : Nat) (hv : v < s.slots.length) (hl : s.slots.length ≤ 1000000) : PC Tryz.prog 143 [gQ s, iv (v : Int)] (fun r => r = gQ ⟨s.slots.set v gY, s.cells, s.read⟩) := by
 (refine aS Tryz.func143 rfl (by simp [Tryz.ntmps143]) ?_; rw [Tryz.ntmps143])
 repeat' (first|(apply aL;first|(apply aE;rfl;rfl)|(first|(apply aN;rfl;rfl;rfl;rfl)|(apply aV;rfl;rfl;(exact (rfl:_=[_, _, _]));rfl;rfl;rfl))|(apply aD;rfl;rfl;rfl)|(apply cP;rfl;rfl;(omega);rfl)|(apply bY;rfl;rfl;rfl;rfl;rfl;(case hl => (simp [aU]; done));(exact iN (by (rfl)));omega;omega;(exact e7 (by (omega)));rfl;rfl)|(apply aF;kernel_rfl)|(apply cC;rfl;(exact (rfl:_=some [_, _, _, _]));(exact (rfl:_=[_, _, _, _]));rfl)|(apply bQ;rfl;rfl;rfl;rfl)|(apply bE;rfl;rfl)|(apply bX;rfl;rfl;rfl;(rfl);rfl;rfl)|(apply aW;rfl;rfl;rfl;rfl;rfl;(case hl => (first|(rw [aU]; simp only [fY] <;> omega)|(simp;done)));(first|exact wT (by (assumption))|exact (rfl:_=[_, _, _]))))|(apply aM;first|apply aH|apply aB|apply aQ)|with_reducible apply aA)
 refine cE (Le.frzC (j := 1) (i := 3) [] rfl rfl (by decide)) ?_
 have e : AV.imm (0 + s.slots.length) (aJ eH (s.slots.set v gY)) = sl eH (s.slots.set v gY) := fP (by rw [List.length_set, Nat.zero_add])
 refine aO (l := [.agg [.imm (0 + s.slots.length) (aJ eH (s.slots.set v gY)), sl c8 s.cells, sl cI s.read]]) rfl ?_
 rw [e]
 exact ⟨rfl, by (exact Pur.pf)⟩
theorem FP (k : Int) : (if kC k = -1 then (0 : Int) else kC k) = if k = 1 then 3 else if k = 0 then 0 else 4 := by
 unfold kC e9
 by_cases h : k = 0
 ·subst h;rfl
 ·rw [if_neg h, if_neg h]
  by_cases h1 : k = 1
  ·rw [if_pos h1]; rfl
  ·rw [if_neg h1]; rfl
theorem lH (ts : List Int) (s : Mc) (v : Nat) (y : Sl) (hm : OkM s.cells) (hv : v < s.slots.length) (hvt : v < ts.length) (hl : s.slots.length ≤ 1000000) : PC Tryz.prog 144 [sl cI ts, gQ s, iv (v : Int), Hp y] (fun r => r = .tup [gQ (c6 ts s v y).1, iv (if (c6 ts s v y).2 = -1 then 0 else (c6 ts s v y).2)]) := by
 have hfc := mC s.cells hm s.slots[v]!.ptr
 (refine aS Tryz.func144 rfl (by simp [Tryz.ntmps144]) ?_; rw [Tryz.ntmps144])
 repeat' (first|(apply aL;first|((with_reducible apply aI (k := 141));(case ha => rfl);(case h => exact hfc);(case hp => (exact Pur.pf));(case hN => rfl))|(apply aE;rfl;rfl)|(first|(apply aN;rfl;rfl;rfl;rfl)|(apply aV;rfl;rfl;(first|exact (rfl:_=[_, _])|exact (rfl:_=[_, _, _])|exact (rfl:_=[_, _, _, _]));rfl;rfl;rfl))|(apply aD;rfl;rfl;rfl)|(first|(apply a6;rfl;rfl;rfl;(assumption))|(apply a7;rfl;rfl;rfl;(assumption))|(apply bI;(case hj|hb|hN => rfl);all_goals (intro hg;have hq := hg;(try simp only [cH] at hq);(try (exfalso;omega)))))|(apply aT;rfl;rfl;rfl;rfl)|(apply aC;rfl;rfl)|(first|(apply bT;rfl;(assumption);rfl;rfl)|(apply bH;rfl;(assumption);rfl;rfl))|(first|(apply aZ;(case hx|hi => rfl);(case hm => (assumption));(case hml => (rfl));(case hα | hf|hg => infer_instance);(case hN => rfl))|(apply cP;rfl;rfl;(omega);rfl))|((with_reducible apply aI (k := 142));(case ha => rfl);(case h => (apply kX <;> (fail)));(case hp => (rfl));(case hN => rfl))|(apply bY;rfl;rfl;rfl;rfl;rfl;(case hl => (simp [aU]; done));(exact iN (by (rfl)));omega;omega;(exact e7 (by (omega)));rfl;rfl)|(apply aF;kernel_rfl)|(apply bQ;rfl;rfl;rfl;rfl)|(apply bE;rfl;rfl)|(apply a8;rfl;rfl;rfl)|(apply bX;rfl;rfl;rfl;(rfl);rfl;rfl)|(apply aW;rfl;rfl;rfl;rfl;rfl;(case hl => (first|(rw [aU]; simp only [fY] <;> omega)|(simp;done)));(first|exact wT (by (assumption))|exact (rfl:_=[_, _, _]))))|(apply aM;first|apply aH|apply aB|(apply b0;kernel_rfl)|(apply cF;rfl;(rfl))|(apply aP;rfl;all_goals intro hc;have hq:=hc;(try simp only [cH] at hq);try exfalso;omega)|apply aR|apply aQ)|with_reducible apply aA)
 all_goals (
  refine cE (Le.frzC (j := 2) (i := 4) [] rfl rfl (by decide)) ?_
  have e : AV.imm (0 + s.slots.length) (aJ eH (s.slots.set v y)) = sl eH (s.slots.set v y) := fP (by rw [List.length_set, Nat.zero_add]))
 ·have hp : c6 ts s v y = (⟨s.slots.set v y, iF s.cells s.slots[v]!.ptr, s.read⟩, kC (cM s.cells s.slots[v]!.ptr true)) := if_pos ⟨by assumption, by assumption⟩
  refine aO (l := [.agg [.imm (0 + s.slots.length) (aJ eH (s.slots.set v y)), sl c8 (iF s.cells s.slots[v]!.ptr), sl cI s.read], iv (if cM s.cells s.slots[v]!.ptr true = 1 then 3 else if cM s.cells s.slots[v]!.ptr true = 0 then 0 else 4)]) rfl ?_
  rw [e, hp]
  dsimp only
  rw [FP]
  exact ⟨rfl, by (exact Pur.pf)⟩
 all_goals (
  have hp : c6 ts s v y = (⟨s.slots.set v y, s.cells, s.read⟩, -1) := if_neg (by
   rintro ⟨q1, q2⟩
   first|(exact (by assumption : ¬ ts[v]! = 2) q1)|(rw [(by assumption : s.slots[v]!.set = false)] at q2;exact absurd q2 (by decide)))
  refine aO (l := [.agg [.imm (0 + s.slots.length) (aJ eH (s.slots.set v y)), sl c8 s.cells, sl cI s.read], iv 0]) rfl ?_
  rw [e, hp]
  exact ⟨rfl, by (exact Pur.pf)⟩)
def gk (e : Int) : Int := if e = -1 then 0 else e
theorem Jz {t : Int} (h : t = 2 ∨ t = 4) : vH t = true := by
 unfold vH;rcases h with h|h <;> subst h <;> rfl
theorem Mh {t : Int} (h : ¬ t = 2) (h2 : ¬ t = 4) : ¬ vH t = true := by
 unfold vH;rw [decide_eq_false h, decide_eq_false h2]; decide
theorem w6 {k : Int} (h : ¬ k = 0) : (if k = 1 then (3 : Int) else if k = 0 then 0 else 4) = e9 k := by
 unfold e9;rw [if_neg h]
theorem Jx {m : List Cl} {x : Pt} {u : Bool} (h : ¬ kQ m x u = 0) : j4 m x u = m := by unfold j4; rw [if_neg h]
theorem FW (ts : List Int) (s : Mc) (x : Pnt) (hm : OkM s.cells) (hsl : s.slots.length = ts.length) (hx : 0 ≤ x.x ∧ x.x < ts.length) (hy : 0 ≤ x.y ∧ x.y < ts.length) (hl : ts.length ≤ 1000000) : PC Tryz.prog 146 [sl cI ts, gQ s, fM x] (fun r => r = .tup [gQ (c6 ts (if vH ts[x.y.toNat]! = true then ⟨s.slots.set x.y.toNat gY, s.cells, s.read⟩ else s) x.x.toNat s.slots[x.y.toNat]!).1, iv (gk (c6 ts (if vH ts[x.y.toNat]! = true then ⟨s.slots.set x.y.toNat gY, s.cells, s.read⟩ else s) x.x.toNat s.slots[x.y.toNat]!).2)]) := by
 have hcl := pO s x.y.toNat (by omega) (by omega)
 have hp1 := lH ts ⟨s.slots.set x.y.toNat gY, s.cells, s.read⟩ x.x.toNat s.slots[x.y.toNat]! hm (by show _ < (s.slots.set x.y.toNat gY).length;rw [List.length_set]; omega) (by omega) (by show (s.slots.set x.y.toNat gY).length ≤ _; rw [List.length_set]; omega)
 have hp2 := lH ts s x.x.toNat s.slots[x.y.toNat]! hm (by omega) (by omega) (by omega)
 rw [Int.toNat_of_nonneg hy.1] at hcl
 rw [Int.toNat_of_nonneg hx.1] at hp1 hp2
 (refine aS Tryz.func146 rfl (by simp [Tryz.ntmps146]) ?_; rw [Tryz.ntmps146])
 repeat' (first|(apply aL;first|((with_reducible apply aI (k := 143));(case ha => rfl);(case h => exact hcl);(case hp => (exact Pur.pf));(case hN => rfl))|((with_reducible apply aI (k := 144));(case ha => rfl);(case h => first|exact hp1|exact hp2);(case hp => (exact Pur.pf));(case hN => rfl))|(apply aE;rfl;rfl)|(first|(apply aN;rfl;rfl;rfl;rfl)|(apply aV;rfl;rfl;(first|exact (rfl:_=[_, _, _])|exact (rfl:_=[_, _, _, _]));rfl;rfl;rfl))|(apply aD;rfl;rfl;rfl)|(first|(apply a6;rfl;rfl;rfl;(assumption))|(apply a7;rfl;rfl;rfl;(assumption))|(apply bI;(case hj|hb|hN => rfl);all_goals (intro hg;have hq := hg;(try simp only [cH] at hq);(try (exfalso;omega)))))|(apply aT;rfl;rfl;rfl;rfl)|(apply aC;rfl;rfl)|(first|(apply bT;rfl;(assumption);rfl;rfl)|(apply bH;rfl;(assumption);rfl;rfl))|(apply cK;(case hx|hi => rfl);(case hm => (first|assumption|omega));(case hml => (rfl));(case hα | hf|hg => infer_instance);(case hN => rfl))|(apply aF;kernel_rfl)|(apply bQ;rfl;rfl;rfl;rfl)|(apply bE;rfl;rfl)|(apply a8;rfl;rfl;rfl)|(apply aW;rfl;rfl;rfl;rfl;rfl;(case hl => (simp;done));(first|exact (rfl:_=[_, _, _])|exact (rfl:_=[_, _, _, _]))))|(apply aM;first|apply aH|apply aB|(apply b8;rfl;(rfl))|(apply aP;rfl;all_goals intro hc;have hq:=hc;(try simp only [cH] at hq);try exfalso;omega)|apply aR|apply aQ)|with_reducible apply aA)
 ·refine aO (l := [gQ (c6 ts ⟨s.slots.set x.y.toNat gY, s.cells, s.read⟩ x.x.toNat s.slots[x.y.toNat]!).1, iv (gk (c6 ts ⟨s.slots.set x.y.toNat gY, s.cells, s.read⟩ x.x.toNat s.slots[x.y.toNat]!).2)]) rfl ⟨?_, by (exact Pur.pf)⟩
  rw [if_pos (Jz (.inr (by assumption)))]; rfl
 ·refine aO (l := [gQ (c6 ts s x.x.toNat s.slots[x.y.toNat]!).1, iv (gk (c6 ts s x.x.toNat s.slots[x.y.toNat]!).2)]) rfl ⟨?_, by (exact Pur.pf)⟩
  rw [if_neg (Mh (by assumption) (by assumption))]; rfl
 ·refine aO (l := [gQ (c6 ts ⟨s.slots.set x.y.toNat gY, s.cells, s.read⟩ x.x.toNat s.slots[x.y.toNat]!).1, iv (gk (c6 ts ⟨s.slots.set x.y.toNat gY, s.cells, s.read⟩ x.x.toNat s.slots[x.y.toNat]!).2)]) rfl ⟨?_, by (exact Pur.pf)⟩
  rw [if_pos (Jz (.inl (by assumption)))]; rfl
theorem Ft (ts : List Int) (s : Mc) (x : Pnt) (u : Bool) (hu : u = decide (x.op = 5)) (hm : OkM s.cells) (hsl : s.slots.length = ts.length) (hx : 0 ≤ x.x ∧ x.x < ts.length) (hy : 0 ≤ x.y ∧ x.y < ts.length) (hl : ts.length ≤ 1000000) : PC Tryz.prog 147 [sl cI ts, gQ s, fM x] (fun r => r = if kQ s.cells s.slots[x.y.toNat]!.ptr u = 0 then
  .tup [gQ (c6 ts ⟨s.slots, j4 s.cells s.slots[x.y.toNat]!.ptr u, s.read⟩ x.x.toNat ⟨true, 0, n7 s.cells s.slots[x.y.toNat]!.ptr u⟩).1, iv (gk (c6 ts ⟨s.slots, j4 s.cells s.slots[x.y.toNat]!.ptr u, s.read⟩ x.x.toNat ⟨true, 0, n7 s.cells s.slots[x.y.toNat]!.ptr u⟩).2)]
  else .tup [gQ s, iv (e9 (kQ s.cells s.slots[x.y.toNat]!.ptr u))]) := by
 have hsh := xA s.cells hm s.slots[x.y.toNat]!.ptr
 have hbo := u9 s.cells hm s.slots[x.y.toNat]!.ptr
 have hp1 := lH ts ⟨s.slots, j4 s.cells s.slots[x.y.toNat]!.ptr false, s.read⟩ x.x.toNat ⟨true, 0, n7 s.cells s.slots[x.y.toNat]!.ptr false⟩ (hm.ln _ _) (by show _ < s.slots.length;omega) (by omega) (by show s.slots.length ≤ _; omega)
 have hp2 := lH ts ⟨s.slots, j4 s.cells s.slots[x.y.toNat]!.ptr true, s.read⟩ x.x.toNat ⟨true, 0, n7 s.cells s.slots[x.y.toNat]!.ptr true⟩ (hm.ln _ _) (by show _ < s.slots.length;omega) (by omega) (by show s.slots.length ≤ _; omega)
 rw [Int.toNat_of_nonneg hx.1] at hp1 hp2
 (refine aS Tryz.func147 rfl (by simp [Tryz.ntmps147]) ?_; rw [Tryz.ntmps147])
 repeat' (first|(apply aL;first|((with_reducible apply aI (k := 193));(case ha => rfl);(case h => exact hsh);(case hp => (exact Pur.pf));(case hN => rfl))|((with_reducible apply aI (k := 194));(case ha => rfl);(case h => exact hbo);(case hp => (exact Pur.pf));(case hN => rfl))|((with_reducible apply aI (k := 144) (avs := [sl cI ts, gQ ⟨s.slots, j4 s.cells s.slots[x.y.toNat]!.ptr false, s.read⟩, iv x.x, Hp ⟨true, 0, n7 s.cells s.slots[x.y.toNat]!.ptr false⟩]));(case ha => rfl);(case h => exact hp1);(case hp => (exact Pur.pf));(case hN => rfl))|((with_reducible apply aI (k := 144) (avs := [sl cI ts, gQ ⟨s.slots, j4 s.cells s.slots[x.y.toNat]!.ptr true, s.read⟩, iv x.x, Hp ⟨true, 0, n7 s.cells s.slots[x.y.toNat]!.ptr true⟩]));(case ha => rfl);(case h => exact hp2);(case hp => (exact Pur.pf));(case hN => rfl))|(apply aE;rfl;rfl)|(first|(apply aN;rfl;rfl;rfl;rfl)|(apply aV;rfl;rfl;(first|exact (rfl:_=[_, _])|exact (rfl:_=[_, _, _]));rfl;rfl;rfl))|(apply aD;rfl;rfl;rfl)|(apply aT;rfl;rfl;rfl;rfl)|(apply aC;rfl;rfl)|(apply cK;(case hx|hi => rfl);(case hm => (omega));(case hml => (rfl));(case hα | hf|hg => infer_instance);(case hN => rfl))|((with_reducible apply aI (k := 142));(case ha => rfl);(case h => (apply kX <;> (fail)));(case hp => (rfl));(case hN => rfl))|(apply aF;kernel_rfl)|(apply cC;rfl;(exact (rfl:_=some [_, _, _, _]));(exact (rfl:_=[_, _, _, _]));rfl)|(apply bQ;rfl;rfl;rfl;rfl)|(apply bE;rfl;rfl)|(apply a8;rfl;rfl;rfl)|(apply aW;rfl;rfl;rfl;rfl;rfl;(case hl => (simp;done));(first|exact (rfl:_=[_, _])|exact (rfl:_=[_, _, _]))))|(apply aM;first|apply aH|apply aB|(apply b0;kernel_rfl)|(apply aP;rfl;all_goals intro hc;have hq:=hc;(try simp only [cH] at hq);try exfalso;omega)|apply aR|apply aQ)|with_reducible apply aA|with_reducible apply bD)
 ·have hk : ¬ kQ s.cells s.slots[x.y.toNat]!.ptr true = 0 := by assumption
  have hu2 : u = true := by rw [hu]; exact decide_eq_true (by assumption)
  subst hu2
  refine aO (l := [.agg [sl eH s.slots, sl c8 (j4 s.cells s.slots[x.y.toNat]!.ptr true), sl cI s.read], iv (if kQ s.cells s.slots[x.y.toNat]!.ptr true = 1 then 3 else if kQ s.cells s.slots[x.y.toNat]!.ptr true = 0 then 0 else 4)]) rfl ?_
  rw [w6 hk, if_neg hk, Jx hk]
  exact ⟨rfl, by (exact Pur.pf)⟩
 ·have hk : kQ s.cells s.slots[x.y.toNat]!.ptr true = 0 := by assumption
  have hu2 : u = true := by rw [hu]; exact decide_eq_true (by assumption)
  subst hu2
  refine aO (l := [gQ (c6 ts ⟨s.slots, j4 s.cells s.slots[x.y.toNat]!.ptr true, s.read⟩ x.x.toNat ⟨true, 0, n7 s.cells s.slots[x.y.toNat]!.ptr true⟩).1, iv (gk (c6 ts ⟨s.slots, j4 s.cells s.slots[x.y.toNat]!.ptr true, s.read⟩ x.x.toNat ⟨true, 0, n7 s.cells s.slots[x.y.toNat]!.ptr true⟩).2)]) rfl ⟨?_, by (exact Pur.pf)⟩
  rw [if_pos hk]; rfl
 ·have hk : ¬ kQ s.cells s.slots[x.y.toNat]!.ptr false = 0 := by assumption
  have hu2 : u = false := by rw [hu]; exact decide_eq_false (by assumption)
  subst hu2
  refine aO (l := [.agg [sl eH s.slots, sl c8 (j4 s.cells s.slots[x.y.toNat]!.ptr false), sl cI s.read], iv (if kQ s.cells s.slots[x.y.toNat]!.ptr false = 1 then 3 else if kQ s.cells s.slots[x.y.toNat]!.ptr false = 0 then 0 else 4)]) rfl ?_
  rw [w6 hk, if_neg hk, Jx hk]
  exact ⟨rfl, by (exact Pur.pf)⟩
 ·have hk : kQ s.cells s.slots[x.y.toNat]!.ptr false = 0 := by assumption
  have hu2 : u = false := by rw [hu]; exact decide_eq_false (by assumption)
  subst hu2
  refine aO (l := [gQ (c6 ts ⟨s.slots, j4 s.cells s.slots[x.y.toNat]!.ptr false, s.read⟩ x.x.toNat ⟨true, 0, n7 s.cells s.slots[x.y.toNat]!.ptr false⟩).1, iv (gk (c6 ts ⟨s.slots, j4 s.cells s.slots[x.y.toNat]!.ptr false, s.read⟩ x.x.toNat ⟨true, 0, n7 s.cells s.slots[x.y.toNat]!.ptr false⟩).2)]) rfl ⟨?_, by (exact Pur.pf)⟩
  rw [if_pos hk]; rfl
theorem KM (ts : List Int) (s : Mc) (x : Pnt) (ho : x.op = 1) (hm : OkM s.cells) (hsl : s.slots.length = ts.length) (hx : 0 ≤ x.x ∧ x.x < ts.length) (hl : ts.length ≤ 1000000) : PC Tryz.prog 91 [sl cI ts, gQ s, fM x] (fun r => r = .tup [gQ (dA ts s x).1, iv (gk (dA ts s x).2)]) := by
 have hp := lH ts s x.x.toNat ⟨true, x.n, ⟨0, 0⟩⟩ hm (by omega) (by omega) (by omega)
 rw [Int.toNat_of_nonneg hx.1] at hp
 have hd : dA ts s x = c6 ts s x.x.toNat ⟨true, x.n, ⟨0, 0⟩⟩ := by unfold dA;rw [if_pos ho]
 rw [hd]
 (refine aS Tryz.func91 rfl (by simp [Tryz.ntmps91]) ?_; rw [Tryz.ntmps91])
 repeat' (first|(apply aL;first|((with_reducible apply aI (k := 144) (avs := [sl cI ts, gQ s, iv x.x, Hp ⟨true, x.n, ⟨0, 0⟩⟩]));(case ha => rfl);(case h => exact hp);(case hp => (exact Pur.pf));(case hN => rfl))|(apply aE;rfl;rfl)|(first|(apply aN;rfl;rfl;rfl;rfl)|(apply aV;rfl;rfl;(exact (rfl:_=[_, _, _]));rfl;rfl;rfl))|(apply aD;rfl;rfl;rfl)|(apply aT;rfl;rfl;rfl;rfl)|(apply aC;rfl;rfl)|(apply aF;kernel_rfl)|(apply cC;rfl;(exact (rfl:_=some [_, _, _, _]));(exact (rfl:_=[_, _, _, _]));rfl)|(apply bQ;rfl;rfl;rfl;rfl)|(apply bE;rfl;rfl)|(apply a8;rfl;rfl;rfl)|(apply aW;rfl;rfl;rfl;rfl;rfl;(case hl => (simp;done));(exact (rfl:_=[_, _, _]))))|(apply aM;first|apply aH|apply aB|(apply aP;rfl;all_goals intro hc;have hq:=hc;(try simp only [cH] at hq);try exfalso;omega)|apply aK|apply aQ)|with_reducible apply aA|with_reducible apply bD|with_reducible apply cL)
 exact aO (l := [gQ (c6 ts s x.x.toNat ⟨true, x.n, ⟨0, 0⟩⟩).1, iv (gk (c6 ts s x.x.toNat ⟨true, x.n, ⟨0, 0⟩⟩).2)]) rfl ⟨rfl, by (exact Pur.pf)⟩
theorem KE (ts : List Int) (s : Mc) (x : Pnt) (ho : x.op = 2) (hm : OkM s.cells) (hsl : s.slots.length = ts.length) (hx : 0 ≤ x.x ∧ x.x < ts.length) (hn : 0 ≤ x.n ∧ x.n ≤ 9) (hl : ts.length ≤ 1000000) : PC Tryz.prog 91 [sl cI ts, gQ s, fM x] (fun r => r = .tup [gQ (dA ts s x).1, iv (gk (dA ts s x).2)]) := by
 have hml := hm.l
 have hnc := Bq s.cells hm x.n
 by_cases h2 : s.cells.length = 200
 ·rw [if_neg (by omega)] at hnc
  have hd : dA ts s x = (s, 1) := by unfold dA;rw [if_neg (by omega), if_pos ho, if_pos h2]
  rw [hd]
  (refine aS Tryz.func91 rfl (by simp [Tryz.ntmps91]) ?_; rw [Tryz.ntmps91])
  repeat' (first|(apply aL;first|((with_reducible apply aI (k := 145));(case ha => rfl);(case h => exact hnc);(case hp => (exact Pur.pf));(case hN => rfl))|(apply aE;rfl;rfl)|(first|(apply aN;rfl;rfl;rfl;rfl)|(apply aV;rfl;rfl;(exact (rfl:_=[_, _, _]));rfl;rfl;rfl))|(apply aD;rfl;rfl;rfl)|(apply aT;rfl;rfl;rfl;rfl)|(apply aC;rfl;rfl)|(apply aF;kernel_rfl)|(apply cG;rfl;rfl)|(apply bQ;rfl;rfl;rfl;rfl)|(apply bE;rfl;rfl)|(apply a8;rfl;rfl;rfl)|(apply aW;rfl;rfl;rfl;rfl;rfl;(case hl => (first|decide|(simp;done)));(first|exact (rfl:_=[_, _])|exact (rfl:_=[_, _, _]))))|(apply aM;first|apply aH|apply aB|(apply b8;rfl;(rfl))|(apply aP;rfl;all_goals intro hc;have hq:=hc;(try simp only [cH] at hq);try exfalso;omega)|apply aK|apply aQ)|with_reducible apply aA|with_reducible apply bD|with_reducible apply cL)
  exact aO (l := [gQ s, iv 1]) rfl ⟨rfl, by (exact Pur.pf)⟩
 ·rw [if_pos (by omega)] at hnc
  have hp := lH ts ⟨s.slots, s.cells ++ [nV x.n], s.read⟩ x.x.toNat ⟨true, 0, ⟨s.cells.length, 0⟩⟩ (hm.nw hn (by omega)) (by show _ < s.slots.length;omega) (by omega) (by show s.slots.length ≤ _; omega)
  rw [Int.toNat_of_nonneg hx.1] at hp
  have hd : dA ts s x = c6 ts ⟨s.slots, s.cells ++ [nV x.n], s.read⟩ x.x.toNat ⟨true, 0, ⟨s.cells.length, 0⟩⟩ := by unfold dA;rw [if_neg (by omega), if_pos ho, if_neg h2]
  rw [hd]
  (refine aS Tryz.func91 rfl (by simp [Tryz.ntmps91]) ?_; rw [Tryz.ntmps91])
  repeat' (first|(apply aL;first|((with_reducible apply aI (k := 145));(case ha => rfl);(case h => exact hnc);(case hp => (exact Pur.pf));(case hN => rfl))|((with_reducible apply aI (k := 144) (avs := [sl cI ts, gQ ⟨s.slots, s.cells ++ [nV x.n], s.read⟩, iv x.x, Hp ⟨true, 0, ⟨s.cells.length, 0⟩⟩]));(case ha => rfl);(case h => exact hp);(case hp => (exact Pur.pf));(case hN => rfl))|(apply aE;rfl;rfl)|(first|(apply aN;rfl;rfl;rfl;rfl)|(apply aV;rfl;rfl;(first|exact (rfl:_=[_, _])|exact (rfl:_=[_, _, _]));rfl;rfl;rfl))|(apply aD;rfl;rfl;rfl)|(apply aT;rfl;rfl;rfl;rfl)|(apply aC;rfl;rfl)|(apply aF;kernel_rfl)|(apply cC;rfl;(exact (rfl:_=some [_, _, _, _]));(exact (rfl:_=[_, _, _, _]));rfl)|(apply cG;rfl;rfl)|(apply bQ;rfl;rfl;rfl;rfl)|(apply bE;rfl;rfl)|(apply a8;rfl;rfl;rfl)|(apply aW;rfl;rfl;rfl;rfl;rfl;(case hl => (simp;done));(first|exact (rfl:_=[_, _])|exact (rfl:_=[_, _, _]))))|(apply aM;first|apply aH|apply aB|(apply cF;rfl;(rfl))|(apply aP;rfl;all_goals intro hc;have hq:=hc;(try simp only [cH] at hq);try exfalso;omega)|apply aK|apply aR|apply aQ)|with_reducible apply aA|with_reducible apply bD|with_reducible apply cL)
  exact aO (l := [gQ (c6 ts ⟨s.slots, s.cells ++ [nV x.n], s.read⟩ x.x.toNat ⟨true, 0, ⟨s.cells.length, 0⟩⟩).1, iv (gk (c6 ts ⟨s.slots, s.cells ++ [nV x.n], s.read⟩ x.x.toNat ⟨true, 0, ⟨s.cells.length, 0⟩⟩).2)]) rfl ⟨rfl, by (exact Pur.pf)⟩
theorem KG (ts : List Int) (s : Mc) (x : Pnt) (ho : x.op = 3) (hm : OkM s.cells) (hsl : s.slots.length = ts.length) (hx : 0 ≤ x.x ∧ x.x < ts.length) (hy : 0 ≤ x.y ∧ x.y < ts.length) (hl : ts.length ≤ 1000000) : PC Tryz.prog 91 [sl cI ts, gQ s, fM x] (fun r => r = .tup [gQ (dA ts s x).1, iv (gk (dA ts s x).2)]) := by
 have hmv := FW ts s x hm hsl hx hy hl
 have hd : dA ts s x = c6 ts (if vH ts[x.y.toNat]! = true then ⟨s.slots.set x.y.toNat gY, s.cells, s.read⟩ else s) x.x.toNat s.slots[x.y.toNat]! := by unfold dA;rw [if_neg (by omega), if_neg (by omega), if_pos ho]
 rw [← hd] at hmv
 (refine aS Tryz.func91 rfl (by simp [Tryz.ntmps91]) ?_; rw [Tryz.ntmps91])
 repeat' (first|(apply aL;first|((with_reducible apply aI (k := 146));(case ha => rfl);(case h => exact hmv);(case hp => (exact Pur.pf));(case hN => rfl))|(apply aE;rfl;rfl)|(first|(apply aN;rfl;rfl;rfl;rfl)|(apply aV;rfl;rfl;(first|exact (rfl:_=[_, _, _])|exact (rfl:_=[_, _, _, _, _]));rfl;rfl;rfl))|(apply aD;rfl;rfl;rfl)|(apply aT;rfl;rfl;rfl;rfl)|(apply aC;rfl;rfl)|(apply aF;kernel_rfl)|(apply bQ;rfl;rfl;rfl;rfl)|(apply bE;rfl;rfl)|(apply a8;rfl;rfl;rfl)|(apply aW;rfl;rfl;rfl;rfl;rfl;(case hl => (simp;done));(exact (rfl:_=[_, _, _]))))|(apply aM;first|apply aH|apply aB|(apply aP;rfl;all_goals intro hc;have hq:=hc;(try simp only [cH] at hq);try exfalso;omega)|apply aK|apply aQ)|with_reducible apply aA|with_reducible apply bD|with_reducible apply cL)
 exact aO (l := [gQ (dA ts s x).1, iv (gk (dA ts s x).2)]) rfl ⟨rfl, by (exact Pur.pf)⟩
theorem HK (ts : List Int) (s : Mc) (x : Pnt) (ho : x.op = 4 ∨ x.op = 5) (hm : OkM s.cells) (hsl : s.slots.length = ts.length) (hx : 0 ≤ x.x ∧ x.x < ts.length) (hy : 0 ≤ x.y ∧ x.y < ts.length) (hl : ts.length ≤ 1000000) : PC Tryz.prog 91 [sl cI ts, gQ s, fM x] (fun r => r = .tup [gQ (dA ts s x).1, iv (gk (dA ts s x).2)]) := by
 have hmk := Ft ts s x (decide (x.op = 5)) rfl hm hsl hx hy hl
 have h0 : dA ts s x = (if kQ s.cells s.slots[x.y.toNat]!.ptr (decide (x.op = 5)) = 0 then c6 ts ⟨s.slots, j4 s.cells s.slots[x.y.toNat]!.ptr (decide (x.op = 5)), s.read⟩ x.x.toNat ⟨true, 0, n7 s.cells s.slots[x.y.toNat]!.ptr (decide (x.op = 5))⟩
   else (s, e9 (kQ s.cells s.slots[x.y.toNat]!.ptr (decide (x.op = 5))))) := by
  unfold dA;rw [if_neg (show ¬ x.op = 1 by omega), if_neg (show ¬ x.op = 2 by omega), if_neg (show ¬ x.op = 3 by omega), if_pos ho]
 have hd : ∀ r, (r = if kQ s.cells s.slots[x.y.toNat]!.ptr (decide (x.op = 5)) = 0 then
   AV.tup [gQ (c6 ts ⟨s.slots, j4 s.cells s.slots[x.y.toNat]!.ptr (decide (x.op = 5)), s.read⟩ x.x.toNat ⟨true, 0, n7 s.cells s.slots[x.y.toNat]!.ptr (decide (x.op = 5))⟩).1, iv (gk (c6 ts ⟨s.slots, j4 s.cells s.slots[x.y.toNat]!.ptr (decide (x.op = 5)), s.read⟩ x.x.toNat ⟨true, 0, n7 s.cells s.slots[x.y.toNat]!.ptr (decide (x.op = 5))⟩).2)]
   else AV.tup [gQ s, iv (e9 (kQ s.cells s.slots[x.y.toNat]!.ptr (decide (x.op = 5))))]) = (r = AV.tup [gQ (dA ts s x).1, iv (gk (dA ts s x).2)]) := by
  intro r
  rw [h0]
  by_cases hk : kQ s.cells s.slots[x.y.toNat]!.ptr (decide (x.op = 5)) = 0
  ·rw [if_pos hk, if_pos hk]
  ·rw [if_neg hk, if_neg hk]
   have : ∀ k, gk (e9 k) = e9 k := fun k => by unfold gk e9;split <;> rfl
   dsimp only
   rw [this]
 simp only [hd] at hmk
 (refine aS Tryz.func91 rfl (by simp [Tryz.ntmps91]) ?_; rw [Tryz.ntmps91])
 repeat' (first|(apply aL;first|((with_reducible apply aI (k := 147));(case ha => rfl);(case h => exact hmk);(case hp => (exact Pur.pf));(case hN => rfl))|(apply aE;rfl;rfl)|(first|(apply aN;rfl;rfl;rfl;rfl)|(apply aV;rfl;rfl;(first|exact (rfl:_=[_, _, _])|exact (rfl:_=[_, _, _, _, _]));rfl;rfl;rfl))|(apply aD;rfl;rfl;rfl)|(apply aT;rfl;rfl;rfl;rfl)|(apply aC;rfl;rfl)|(apply aF;kernel_rfl)|(apply bQ;rfl;rfl;rfl;rfl)|(apply bE;rfl;rfl)|(apply a8;rfl;rfl;rfl)|(apply aW;rfl;rfl;rfl;rfl;rfl;(case hl => (simp;done));(exact (rfl:_=[_, _, _]))))|(apply aM;first|apply aH|apply aB|(apply b8;rfl;(assumption))|(apply aP;rfl;all_goals intro hc;have hq:=hc;(try simp only [cH] at hq);try exfalso;omega)|apply aK|apply aR|apply aQ)|with_reducible apply aA|with_reducible apply bD|with_reducible apply cL)
 all_goals exact aO (l := [gQ (dA ts s x).1, iv (gk (dA ts s x).2)]) rfl ⟨rfl, by (exact Pur.pf)⟩
theorem KF (ts : List Int) (s : Mc) (x : Pnt) (ho : x.op = 6) (hm : OkM s.cells) (hsl : s.slots.length = ts.length) (hx : 0 ≤ x.x ∧ x.x < ts.length) (hy : 0 ≤ x.y ∧ x.y < ts.length) (hl : ts.length ≤ 1000000) (hrl : s.read.length ≤ 1000000) : PC Tryz.prog 91 [sl cI ts, gQ s, fM x] (fun r => r = .tup [gQ (dA ts s x).1, iv (gk (dA ts s x).2)]) := by
 have hrd := qA s.cells hm s.slots[x.y.toNat]!.ptr
 have h0 : dA ts s x = (if cM s.cells s.slots[x.y.toNat]!.ptr false = 0 then c6 ts ⟨s.slots, dS s.cells s.slots[x.y.toNat]!.ptr false, s.read ++ [nH s.cells s.slots[x.y.toNat]!.ptr]⟩ x.x.toNat ⟨true, nH s.cells s.slots[x.y.toNat]!.ptr, ⟨0, 0⟩⟩
   else (s, e9 (cM s.cells s.slots[x.y.toNat]!.ptr false))) := by
  unfold dA;rw [if_neg (show ¬ x.op = 1 by omega), if_neg (show ¬ x.op = 2 by omega), if_neg (show ¬ x.op = 3 by omega), if_neg (show ¬ (x.op = 4 ∨ x.op = 5) by omega), if_pos ho]
 have hp := lH ts ⟨s.slots, dS s.cells s.slots[x.y.toNat]!.ptr false, s.read ++ [nH s.cells s.slots[x.y.toNat]!.ptr]⟩ x.x.toNat ⟨true, nH s.cells s.slots[x.y.toNat]!.ptr, ⟨0, 0⟩⟩ (hm.tch _ _) (by show _ < s.slots.length;omega) (by omega) (by show s.slots.length ≤ _; omega)
 rw [Int.toNat_of_nonneg hx.1] at hp
 by_cases hk : cM s.cells s.slots[x.y.toNat]!.ptr false = 0
 ·rw [if_pos hk] at h0
  rw [h0]
  (refine aS Tryz.func91 rfl (by simp [Tryz.ntmps91]) ?_; rw [Tryz.ntmps91])
  repeat' (first|(apply aL;first|((with_reducible apply aI (k := 148));(case ha => rfl);(case h => exact hrd);(case hp => (exact Pur.pf));(case hN => rfl))|(with_reducible apply cS (d := 105))|(apply aE;rfl;rfl)|(first|(apply aN;rfl;rfl;rfl;rfl)|(apply aV;rfl;rfl;(exact (rfl:_=[_, _]));rfl;rfl;rfl))|(apply aD;rfl;rfl;rfl)|(apply aT;rfl;rfl;rfl;rfl)|(apply aC;rfl;rfl)|(apply cK;(case hx|hi => rfl);(case hm => (omega));(case hml => (rfl));(case hα | hf|hg => infer_instance);(case hN => rfl))|(apply bY;rfl;rfl;rfl;rfl;rfl;(case hl => first|(rw [aU]; omega)|(simp [aU]; done));(first|rfl|exact iN (by (rfl)));omega;omega;(first|exact e7 (by (omega))|exact gL (by (omega)));rfl;rfl)|(apply aF;kernel_rfl)|(apply bQ;rfl;rfl;rfl;rfl)|(apply bE;rfl;rfl)|(apply a8;rfl;rfl;rfl)|(apply bX;rfl;rfl;rfl;(first|exact (rfl:_=some [_])|rfl);rfl;rfl)|(apply aW;rfl;rfl;rfl;rfl;rfl;(case hl => (simp;done));(exact (rfl:_=[_, _, _]))))|(apply aM;first|apply aH|apply aB|(apply b0;kernel_rfl)|(apply aP;rfl;all_goals intro hc;have hq:=hc;(try simp only [cH] at hq);try exfalso;omega)|apply aK|apply aR)|with_reducible apply aA)
  refine dP (jH ?_ (Le.frzC (j := 0) (i := 6) [sl eH s.slots, sl c8 (dS s.cells s.slots[x.y.toNat]!.ptr false)] (m := 0 + s.read.length + 1) (d := aJ cI (s.read ++ [nH s.cells s.slots[x.y.toNat]!.ptr])) rfl rfl (by decide)))
  have e : AV.imm (0 + s.read.length + 1) (aJ cI (s.read ++ [nH s.cells s.slots[x.y.toNat]!.ptr])) = sl cI (s.read ++ [nH s.cells s.slots[x.y.toNat]!.ptr]) := fP (by rw [Nat.zero_add, List.length_append]; rfl)
  rw [e]
  repeat' (first|(apply aL;first|((with_reducible apply aI (k := 144) (avs := [sl cI ts, gQ ⟨s.slots, dS s.cells s.slots[x.y.toNat]!.ptr false, s.read ++ [nH s.cells s.slots[x.y.toNat]!.ptr]⟩, iv x.x, Hp ⟨true, nH s.cells s.slots[x.y.toNat]!.ptr, ⟨0, 0⟩⟩]));(case ha => rfl);(case h => exact hp);(case hp => (exact Pur.pf));(case hN => rfl))|(apply aE;rfl;rfl)|(first|(apply aN;rfl;rfl;rfl;rfl)|(apply aV;rfl;rfl;(exact (rfl:_=[_, _, _]));rfl;rfl;rfl))|(apply aD;rfl;rfl;rfl)|(apply aC;rfl;rfl)|(apply aF;kernel_rfl)|(apply cC;rfl;(exact (rfl:_=some [_, _, _, _]));(exact (rfl:_=[_, _, _, _]));rfl)|(apply a8;rfl;rfl;rfl)|(apply aW;rfl;rfl;rfl;rfl;rfl;(case hl => (simp;done));(exact (rfl:_=[_, _, _]))))|(apply aM;(apply aQ))|with_reducible apply aA|with_reducible apply bD|with_reducible apply cL)
  exact aO (l := [gQ (c6 ts ⟨s.slots, dS s.cells s.slots[x.y.toNat]!.ptr false, s.read ++ [nH s.cells s.slots[x.y.toNat]!.ptr]⟩ x.x.toNat ⟨true, nH s.cells s.slots[x.y.toNat]!.ptr, ⟨0, 0⟩⟩).1, iv (gk (c6 ts ⟨s.slots, dS s.cells s.slots[x.y.toNat]!.ptr false, s.read ++ [nH s.cells s.slots[x.y.toNat]!.ptr]⟩ x.x.toNat ⟨true, nH s.cells s.slots[x.y.toNat]!.ptr, ⟨0, 0⟩⟩).2)]) rfl ⟨rfl, by (exact Pur.pf)⟩
 ·rw [if_neg hk] at h0
  rw [h0]
  have e4 : dS s.cells s.slots[x.y.toNat]!.ptr false = s.cells := by unfold dS;rw [if_neg hk]
  rw [e4] at hrd
  (refine aS Tryz.func91 rfl (by simp [Tryz.ntmps91]) ?_; rw [Tryz.ntmps91])
  repeat' (first|(apply aL;first|((with_reducible apply aI (k := 148));(case ha => rfl);(case h => exact hrd);(case hp => (exact Pur.pf));(case hN => rfl))|(apply aE;rfl;rfl)|(first|(apply aN;rfl;rfl;rfl;rfl)|(apply aV;rfl;rfl;(first|exact (rfl:_=[_, _])|exact (rfl:_=[_, _, _]));rfl;rfl;rfl))|(apply aD;rfl;rfl;rfl)|(apply aT;rfl;rfl;rfl;rfl)|(apply aC;rfl;rfl)|(apply cK;(case hx|hi => rfl);(case hm => (omega));(case hml => (rfl));(case hα | hf|hg => infer_instance);(case hN => rfl))|((with_reducible apply aI (k := 142));(case ha => rfl);(case h => (apply kX <;> (fail)));(case hp => (rfl));(case hN => rfl))|(apply aF;kernel_rfl)|(apply bQ;rfl;rfl;rfl;rfl)|(apply bE;rfl;rfl)|(apply a8;rfl;rfl;rfl)|(apply aW;rfl;rfl;rfl;rfl;rfl;(case hl => (simp;done));(exact (rfl:_=[_, _, _]))))|(apply aM;first|apply aH|apply aB|(apply b0;kernel_rfl)|(apply aP;rfl;all_goals intro hc;have hq:=hc;(try simp only [cH] at hq);try exfalso;omega)|apply aK|apply aQ)|with_reducible apply aA|with_reducible apply bD|with_reducible apply cL)
  refine aO (l := [gQ s, iv (if cM s.cells s.slots[x.y.toNat]!.ptr false = 1 then 3 else if cM s.cells s.slots[x.y.toNat]!.ptr false = 0 then 0 else 4)]) rfl ?_
  rw [w6 hk]
  have : ∀ k, gk (e9 k) = e9 k := fun k => by unfold gk e9;split <;> rfl
  dsimp only
  rw [this]
  exact ⟨rfl, by (exact Pur.pf)⟩
theorem K4 (ts : List Int) (s : Mc) (x : Pnt) (ho : x.op = 7) (hm : OkM s.cells) (hsl : s.slots.length = ts.length) (hx : 0 ≤ x.x ∧ x.x < ts.length) (hy : 0 ≤ x.y ∧ x.y < ts.length) (hl : ts.length ≤ 1000000) : PC Tryz.prog 91 [sl cI ts, gQ s, fM x] (fun r => r = .tup [gQ (dA ts s x).1, iv (gk (dA ts s x).2)]) := by
 have hwr := yG s.cells hm s.slots[x.x.toNat]!.ptr s.slots[x.y.toNat]!.num
 have h0 : dA ts s x = (⟨s.slots, nY s.cells s.slots[x.x.toNat]!.ptr s.slots[x.y.toNat]!.num, s.read⟩, kC (oB s.cells s.slots[x.x.toNat]!.ptr s.slots[x.y.toNat]!.num)) := by
  unfold dA;rw [if_neg (show ¬ x.op = 1 by omega), if_neg (show ¬ x.op = 2 by omega), if_neg (show ¬ x.op = 3 by omega), if_neg (show ¬ (x.op = 4 ∨ x.op = 5) by omega), if_neg (show ¬ x.op = 6 by omega), if_pos ho]
 rw [h0]
 (refine aS Tryz.func91 rfl (by simp [Tryz.ntmps91]) ?_; rw [Tryz.ntmps91])
 repeat' (first|(apply aL;first|((with_reducible apply aI (k := 149));(case ha => rfl);(case h => exact hwr);(case hp => (exact Pur.pf));(case hN => rfl))|(apply aE;rfl;rfl)|(first|(apply aN;rfl;rfl;rfl;rfl)|(apply aV;rfl;rfl;(first|exact (rfl:_=[_, _])|exact (rfl:_=[_, _, _]));rfl;rfl;rfl))|(apply aD;rfl;rfl;rfl)|(apply aT;rfl;rfl;rfl;rfl)|(apply aC;rfl;rfl)|(apply cK;(case hx|hi => rfl);(case hm => (omega));(case hml => (rfl));(case hα | hf|hg => infer_instance);(case hN => rfl))|((with_reducible apply aI (k := 142));(case ha => rfl);(case h => (apply kX <;> (fail)));(case hp => (rfl));(case hN => rfl))|(apply aF;kernel_rfl)|(apply bQ;rfl;rfl;rfl;rfl)|(apply bE;rfl;rfl)|(apply a8;rfl;rfl;rfl)|(apply aW;rfl;rfl;rfl;rfl;rfl;(case hl => (simp;done));(exact (rfl:_=[_, _, _]))))|(apply aM;first|apply aH|apply aB|(apply b0;kernel_rfl)|(apply aP;rfl;all_goals intro hc;have hq:=hc;(try simp only [cH] at hq);try exfalso;omega)|apply aK|apply aQ)|with_reducible apply aA|with_reducible apply bD|with_reducible apply cL)
 refine aO (l := [gQ ⟨s.slots, nY s.cells s.slots[x.x.toNat]!.ptr s.slots[x.y.toNat]!.num, s.read⟩, iv (if oB s.cells s.slots[x.x.toNat]!.ptr s.slots[x.y.toNat]!.num = 1 then 3 else if oB s.cells s.slots[x.x.toNat]!.ptr s.slots[x.y.toNat]!.num = 0 then 0 else 4)]) rfl ?_
 rw [← FP]
 exact ⟨rfl, by (exact Pur.pf)⟩
theorem Kj (ts : List Int) (s : Mc) (x : Pnt) (ho : x.op = 8) (hm : OkM s.cells) (hsl : s.slots.length = ts.length) (hx : 0 ≤ x.x ∧ x.x < ts.length) (hl : ts.length ≤ 1000000) : PC Tryz.prog 91 [sl cI ts, gQ s, fM x] (fun r => r = .tup [gQ (dA ts s x).1, iv (gk (dA ts s x).2)]) := by
 have hfr := mC s.cells hm s.slots[x.x.toNat]!.ptr
 have hcl := pO ⟨s.slots, iF s.cells s.slots[x.x.toNat]!.ptr, s.read⟩ x.x.toNat (by show _ < s.slots.length;omega) (by show s.slots.length ≤ _; omega)
 rw [Int.toNat_of_nonneg hx.1] at hcl
 have h0 : dA ts s x = (⟨s.slots.set x.x.toNat gY, iF s.cells s.slots[x.x.toNat]!.ptr, s.read⟩, kC (cM s.cells s.slots[x.x.toNat]!.ptr true)) := by
  unfold dA;rw [if_neg (show ¬ x.op = 1 by omega), if_neg (show ¬ x.op = 2 by omega), if_neg (show ¬ x.op = 3 by omega), if_neg (show ¬ (x.op = 4 ∨ x.op = 5) by omega), if_neg (show ¬ x.op = 6 by omega), if_neg (show ¬ x.op = 7 by omega), if_pos ho]
 rw [h0]
 (refine aS Tryz.func91 rfl (by simp [Tryz.ntmps91]) ?_; rw [Tryz.ntmps91])
 repeat' (first|(apply aL;first|((with_reducible apply aI (k := 141));(case ha => rfl);(case h => exact hfr);(case hp => (exact Pur.pf));(case hN => rfl))|((with_reducible apply aI (k := 143));(case ha => rfl);(case h => exact hcl);(case hp => (exact Pur.pf));(case hN => rfl))|(apply aE;rfl;rfl)|(first|(apply aN;rfl;rfl;rfl;rfl)|(apply aV;rfl;rfl;(first|exact (rfl:_=[_, _])|exact (rfl:_=[_, _, _]));rfl;rfl;rfl))|(apply aD;rfl;rfl;rfl)|(apply aT;rfl;rfl;rfl;rfl)|(apply aC;rfl;rfl)|(apply cK;(case hx|hi => rfl);(case hm => (omega));(case hml => (rfl));(case hα | hf|hg => infer_instance);(case hN => rfl))|((with_reducible apply aI (k := 142));(case ha => rfl);(case h => (apply kX <;> (fail)));(case hp => (rfl));(case hN => rfl))|(apply aF;kernel_rfl)|(apply bQ;rfl;rfl;rfl;rfl)|(apply bE;rfl;rfl)|(apply a8;rfl;rfl;rfl)|(apply aW;rfl;rfl;rfl;rfl;rfl;(case hl => (simp;done));(exact (rfl:_=[_, _, _]))))|(apply aM;first|apply aH|apply aB|(apply b0;kernel_rfl)|(apply aP;rfl;all_goals intro hc;have hq:=hc;(try simp only [cH] at hq);try exfalso;omega)|apply aK|apply aQ)|with_reducible apply aA|with_reducible apply bD|with_reducible apply cL)
 refine aO (l := [gQ ⟨s.slots.set x.x.toNat gY, iF s.cells s.slots[x.x.toNat]!.ptr, s.read⟩, iv (if cM s.cells s.slots[x.x.toNat]!.ptr true = 1 then 3 else if cM s.cells s.slots[x.x.toNat]!.ptr true = 0 then 0 else 4)]) rfl ?_
 rw [← FP]
 exact ⟨rfl, by (exact Pur.pf)⟩
def KJ (s : Mc) (x : Pnt) : Bool :=
 if x.op = 3 ∨ x.op = 4 ∨ x.op = 5 ∨ x.op = 6 then !s.slots[x.y.toNat]!.set
 else if x.op = 7 then !s.slots[x.x.toNat]!.set || !s.slots[x.y.toNat]!.set
 else if x.op = 8 then !s.slots[x.x.toNat]!.set else false
theorem DD (s : Mc) (x : Pnt) (hx : (x.op = 7 ∨ x.op = 8) → 0 ≤ x.x ∧ x.x < s.slots.length) (hy : (x.op = 3 ∨ x.op = 4 ∨ x.op = 5 ∨ x.op = 6 ∨ x.op = 7) → 0 ≤ x.y ∧ x.y < s.slots.length) : PC Tryz.prog 90 [fM x, gQ s] (fun r => r = bv (KJ s x)) := by
 (refine aS Tryz.func90 rfl (by simp [Tryz.ntmps90]) ?_; rw [Tryz.ntmps90])
 repeat' (first|(apply aL;first|(apply aE;rfl;rfl)|(apply aN;rfl;rfl;rfl;rfl)|(apply aD;rfl;rfl;rfl)|(first|(apply a6;rfl;rfl;rfl;(assumption))|(apply a7;rfl;rfl;rfl;(assumption))|(apply bI;(case hj|hb|hN => rfl);all_goals (intro hg;have hq := hg;(try simp only [cH] at hq);(try (exfalso;omega)))))|(apply aT;rfl;rfl;rfl;rfl)|(apply aC;rfl;rfl)|(first|(apply bT;rfl;(assumption);rfl;rfl)|(apply bH;rfl;(assumption);rfl;rfl))|(apply cK;(case hx|hi => rfl);(case hm => (omega));(case hml => (rfl));(case hα | hf|hg => infer_instance);(case hN => rfl))|(apply aF;kernel_rfl)|(apply cG;rfl;rfl)|(apply bQ;rfl;rfl;rfl;rfl))|(apply aM;first|apply aH|apply aB|(apply b8;rfl;(assumption))|(apply aP;rfl;all_goals intro hc;have hq:=hc;(try simp only [cH] at hq);try exfalso;omega)|apply aK|apply aR|apply aQ)|with_reducible apply aA|with_reducible apply bD|with_reducible apply aX|with_reducible apply cL)
 all_goals (refine aO rfl ⟨?_, rfl⟩; simp only [bV, AV.v.injEq, Value.bool.injEq]; unfold KJ;grind)
theorem yV {ts : List Int} {n v : Nat} {q : Mc} (h : ¬ (ts[v]! = 2 ∧ q.slots[v]!.set = true)) : dQ ts (n + 1) v q = dQ ts n (v + 1) q := by
 rw [dQ, if_neg h]
theorem GC {ts : List Int} {n v : Nat} {q : Mc} (h : ts[v]! = 2 ∧ q.slots[v]!.set = true) (hk : cM q.cells q.slots[v]!.ptr true = 0) : dQ ts (n + 1) v q = dQ ts n (v + 1) ⟨q.slots.set v gY, iF q.cells q.slots[v]!.ptr, q.read⟩ := by
 rw [dQ, if_pos h, if_pos hk]
theorem Fj {ts : List Int} {n v : Nat} {q : Mc} (h : ts[v]! = 2 ∧ q.slots[v]!.set = true) (hk : ¬ cM q.cells q.slots[v]!.ptr true = 0) : dQ ts (n + 1) v q = (⟨q.slots, iF q.cells q.slots[v]!.ptr, q.read⟩, e9 (cM q.cells q.slots[v]!.ptr true)) := by
 rw [dQ, if_pos h, if_neg hk]
theorem IX (ts : List Int) (s : Mc) (hm : OkM s.cells) (hsl : s.slots.length = ts.length) (hl : ts.length ≤ 1000000) : PC Tryz.prog 89 [sl cI ts, gQ s] (fun r => r = .tup [gQ (dQ ts ts.length 0 s).1, iv (dQ ts ts.length 0 s).2]) := by
 (refine aS Tryz.func89 rfl (by simp [Tryz.ntmps89]) ?_; rw [Tryz.ntmps89])
 repeat' (first|(apply aL;first|(apply aC;rfl;rfl)|(apply aF;kernel_rfl)|(apply bQ;rfl;rfl;rfl;rfl)|(apply bE;rfl;rfl))|(apply aM;first|apply aH|apply aB|apply aK)|with_reducible apply aA)
 refine bB (σ := Nat × Mc) [0, 3, 4] [(0, _), (3, _), (4, _)] [1] [(1, some _)] (fun k => [(6, iv (k.1 : Int))]) (fun k => [(0, some [sl eH k.2.slots, sl c8 k.2.cells, sl cI k.2.read])]) (fun k => k.1 ≤ ts.length ∧ dQ ts (ts.length - k.1) k.1 k.2 = dQ ts ts.length 0 s ∧ OkM k.2.cells ∧ k.2.slots.length = ts.length) (fun k => ts.length - k.1) (0, s) ⟨Nat.zero_le _, rfl, hm, hsl⟩ rfl rfl (by repeat' (first|exact trivial|refine And.intro rfl ?_)) (by repeat' (first|exact trivial|refine And.intro (.inr rfl) ?_)) ?_
 rintro ⟨v, q⟩ ⟨hv, hf, hmq, hlq⟩
 dsimp only at hv hf hmq hlq ⊢
 have hfr := mC q.cells hmq q.slots[v]!.ptr
 have hcl := fun h => pO ⟨q.slots, iF q.cells q.slots[v]!.ptr, q.read⟩ v h (by show q.slots.length ≤ _; omega)
 repeat' (first|(apply aL;first|((with_reducible apply aI (k := 141));(case ha => rfl);(case h => exact hfr);(case hp => (exact Pur.pf));(case hN => rfl))|((with_reducible apply aI (k := 143));(case ha => rfl);(case h => exact hcl (by show v < q.slots.length;omega));(case hp => (exact Pur.pf));(case hN => rfl))|(apply aE;rfl;rfl)|(first|(apply aN;rfl;rfl;rfl;rfl)|(apply aV;rfl;rfl;(first|exact (rfl:_=[_, _])|exact (rfl:_=[_, _, _]));rfl;rfl;rfl))|(apply aD;rfl;rfl;rfl)|(first|(apply a6;rfl;rfl;rfl;(assumption))|(apply a7;rfl;rfl;rfl;(assumption))|(apply bI;(case hj|hb|hN => rfl);all_goals (intro hg;have hq := hg;(try simp only [cH] at hq);(try (exfalso;omega)))))|(first|(apply bS;rfl;rfl;omega;rfl)|(apply aT;rfl;rfl;rfl;rfl))|(apply aC;rfl;rfl)|(first|(apply bT;rfl;(assumption);rfl;rfl)|(apply bH;rfl;(assumption);rfl;rfl))|(apply aZ;(case hx|hi => rfl);(case hm => (omega));(case hml => (rfl));(case hα | hf|hg => infer_instance);(case hN => rfl))|((with_reducible apply aI (k := 142));(case ha => rfl);(case h => (apply kX <;> (fail)));(case hp => (rfl));(case hN => rfl))|(apply bF;rfl;rfl;rfl)|(apply aF;kernel_rfl)|(apply cG;rfl;rfl)|(apply a8;rfl;rfl;rfl)|(apply aW;rfl;rfl;rfl;rfl;rfl;(case hl => (simp;done));(exact (rfl:_=[_, _, _]))))|(apply aM;first|apply aH|apply aB|(apply b0;kernel_rfl)|(apply b8;rfl;(rfl))|(apply aP;rfl;all_goals intro hc;have hq:=hc;(try simp only [cH] at hq);try exfalso;omega)|apply aK|apply aR|apply bJ|apply aQ)|with_reducible apply aA|with_reducible apply bD|with_reducible apply bO|with_reducible apply aX|with_reducible apply cL|with_reducible apply bK)
 ·(apply dK (v + 1, q); focus (refine Le.ren [(0, 0), (1, 1)] rfl (by decide) ?_ ?_ <;> repeat' (first | exact trivial | refine And.intro ⟨_, rfl, ?_⟩ ?_ | refine And.intro ⟨_, _, rfl, rfl, ?_⟩ ?_ | exact Or.inr rfl | refine Or.inl ⟨?_, (by first | rfl | exact aY _ _ | exact Pur.pf)⟩ | rfl)))
  ·refine ⟨by omega, ?_, hmq, hlq⟩
   dsimp only
   rw [← hf, show ts.length - v = (ts.length - (v + 1)) + 1 by omega, yV (fun h => by
    have h2 : q.slots[v]!.set = false := by assumption
    rw [h2] at h;exact absurd h.2 (by decide))]
  ·dsimp only;omega
 ·have hk : ¬ cM q.cells q.slots[v]!.ptr true = 0 := by assumption
  have hq2 : dQ ts ts.length 0 s = (⟨q.slots, iF q.cells q.slots[v]!.ptr, q.read⟩, e9 (cM q.cells q.slots[v]!.ptr true)) := by
   rw [← hf, show ts.length - v = (ts.length - (v + 1)) + 1 by omega, Fj ⟨by assumption, by assumption⟩ hk]
  rw [hq2]
  refine aO (l := [gQ ⟨q.slots, iF q.cells q.slots[v]!.ptr, q.read⟩, iv (if cM q.cells q.slots[v]!.ptr true = 1 then 3 else if cM q.cells q.slots[v]!.ptr true = 0 then 0 else 4)]) rfl ?_
  rw [w6 hk]
  exact ⟨rfl, by (exact Pur.pf)⟩
 ·(apply dK (v + 1, ⟨q.slots.set v gY, iF q.cells q.slots[v]!.ptr, q.read⟩); focus (refine Le.ren [(0, 0), (1, 1)] rfl (by decide) ?_ ?_ <;> repeat' (first | exact trivial | refine And.intro ⟨_, rfl, ?_⟩ ?_ | refine And.intro ⟨_, _, rfl, rfl, ?_⟩ ?_ | exact Or.inr rfl | refine Or.inl ⟨?_, (by first | rfl | exact aY _ _ | exact Pur.pf)⟩ | rfl)))
  ·refine ⟨by omega, ?_, hmq.fr _, by show (q.slots.set v gY).length = _; rw [List.length_set]; exact hlq⟩
   dsimp only
   rw [← hf, show ts.length - v = (ts.length - (v + 1)) + 1 by omega, GC ⟨by assumption, by assumption⟩ (by assumption)]
  ·dsimp only;omega
 ·(apply dK (v + 1, q); focus (refine Le.ren [(0, 0), (1, 1)] rfl (by decide) ?_ ?_ <;> repeat' (first | exact trivial | refine And.intro ⟨_, rfl, ?_⟩ ?_ | refine And.intro ⟨_, _, rfl, rfl, ?_⟩ ?_ | exact Or.inr rfl | refine Or.inl ⟨?_, (by first | rfl | exact aY _ _ | exact Pur.pf)⟩ | rfl)))
  ·refine ⟨by omega, ?_, hmq, hlq⟩
   dsimp only
   rw [← hf, show ts.length - v = (ts.length - (v + 1)) + 1 by omega, yV (fun h => by
    have h2 : ¬ ts[v]! = 2 := by assumption
    exact h2 h.1)]
  ·dsimp only;omega
 ·have hve : v = ts.length := by omega
  have hq2 : dQ ts ts.length 0 s = (q, 0) := by rw [← hf, hve, Nat.sub_self]; rfl
  rw [hq2]
  exact aO (l := [gQ q, iv 0]) rfl ⟨rfl, by (exact Pur.pf)⟩
theorem yO (p : Prg) (hl : p.types.length ≤ 1000000) (hs : b9 p.body ≤ 1000000) : PC Tryz.prog 116 [dM p] (fun r => r = sl dV (if cZ p = true then cX p else [])) := by
 have hval := oO p hl (by omega)
 have h2 := r7 p hs
 (refine aS Tryz.func116 rfl (by simp [Tryz.ntmps116]) ?_; rw [Tryz.ntmps116])
 repeat' (first|(apply aL;first|((with_reducible apply aI (k := 87));(case ha => rfl);(case h => exact hval);(case hp => (exact Pur.pf));(case hN => rfl))|((with_reducible apply aI (k := 60));(case ha => rfl);(case h => exact h2);(case hp => (exact Pur.pf));(case hN => rfl))|(apply aV;rfl;rfl;(exact (rfl:_=[_, _]));rfl;rfl;rfl)|(apply aC;rfl;rfl)|(apply aF;kernel_rfl)|(apply cG;rfl;rfl)|(apply bQ;rfl;rfl;rfl;rfl)|((apply bC (t := _));(case hze|hsm|hl => rfl);(case hfl => (rfl));(case hM|hN => rfl)))|(apply aM;first|apply aH|apply aB|(apply aP;rfl;all_goals intro hc;have hq:=hc;(try simp only [cH] at hq);try exfalso;omega)|apply aR|apply aQ)|with_reducible apply aA|with_reducible apply bD)
 ·refine aO rfl ⟨?_, (by (rfl))⟩
  rw [if_neg (by simp [hq])]; rfl
 ·refine aO rfl ⟨?_, (by (exact aY _ _))⟩
  rw [if_pos hq]; rfl
def wm (pts : List Pnt) (n a : Nat) (cs : List Int) : List Int × Bool := ((eL pts n a cs).1.map (fun a : Nat => (a : Int)), (eL pts n a cs).2)
theorem GY {pts : List Pnt} {n a : Nat} {cs : List Int} (h : pts[a]!.op = 11) : wm pts n a cs = ([(a : Int)], true) := by
 have e : eL pts n a cs = ([a], true) := by cases n <;> (unfold eL;rw [if_pos h])
 unfold wm;rw [e]; rfl
theorem Ho {pts : List Pnt} {a : Nat} {cs : List Int} (h : ¬ pts[a]!.op = 11) : wm pts 0 a cs = ([], false) := by
 have e : eL pts 0 a cs = ([], false) := by unfold eL;rw [if_neg h]
 unfold wm;rw [e]; rfl
theorem L6 {pts : List Pnt} {n a : Nat} {cs : List Int} (h : ¬ pts[a]!.op = 11) : wm pts (n + 1) a cs = ((a : Int) :: (wm pts n (iH pts a cs).1 (iH pts a cs).2).1, (wm pts n (iH pts a cs).1 (iH pts a cs).2).2) := by
 unfold wm;rw [eL, if_neg h]; rfl
theorem JF {pts : List Pnt} {a : Nat} {cs : List Int} (h : ¬ pts[a]!.next.length = 2) : iH pts a cs = ((pts[a]!.next[0]!).toNat, cs) := by
 unfold iH;rw [if_neg h]
theorem L4 {pts : List Pnt} {a u : Nat} {cs : List Int} (h : pts[a]!.next.length = 2) (hu : cs.length ≤ u) : iH pts a (cs.drop u) = ((pts[a]!.next[1]!).toNat, cs.drop (u + 1)) := by
 unfold iH;rw [if_pos h, List.drop_eq_nil_of_le hu, List.drop_eq_nil_of_le (by omega)]
theorem JK {pts : List Pnt} {a u : Nat} {cs : List Int} (h : pts[a]!.next.length = 2) (hu : u < cs.length) : iH pts a (cs.drop u) = ((pts[a]!.next[if cs[u]!.tmod 2 = 0 then 0 else 1]!).toNat, cs.drop (u + 1)) := by
 have e : (cs[u]! % 2).toNat = if cs[u]!.tmod 2 = 0 then 0 else 1 := by
  by_cases q : cs[u]!.tmod 2 = 0
  ·rw [if_pos q, Int.emod_eq_zero_of_dvd (Int.dvd_of_tmod_eq_zero q)]; rfl
  ·rw [if_neg q]
   have : ¬ cs[u]! % 2 = 0 := fun q2 => q (Int.tmod_eq_zero_of_dvd (Int.dvd_of_emod_eq_zero q2))
   omega
 have e2 : cs.drop u = cs[u]! :: cs.drop (u + 1) := by rw [List.drop_eq_getElem_cons hu, cT _ _ hu]
 unfold iH
 rw [if_pos h, e2]
 dsimp only
 rw [e]
theorem oN {pts : List Pnt} {n a : Nat} {out cs cs2 : List Int} {b : Nat} {q : List Int × Bool} (h : ¬ pts[a]!.op = 11) (ho : out.length < n) (hs : iH pts a cs = (b, cs2)) (hq : q = (out ++ (wm pts (n - out.length) a cs).1, (wm pts (n - out.length) a cs).2)) :
  q = ((out ++ [(a : Int)]) ++ (wm pts (n - (out ++ [(a : Int)]).length) b cs2).1, (wm pts (n - (out ++ [(a : Int)]).length) b cs2).2) := by
 rw [hq, show n - out.length = (n - (out.length + 1)) + 1 by omega, L6 h, hs, List.length_append, List.append_assoc]
 rfl
theorem BK (p : Prg) (cs : List Int) (n : Nat) (hv : cZ p = true) (hl : p.types.length ≤ 1000000) (hs : b9 p.body ≤ 1000000) (hn : n ≤ 1000) (hcl : cs.length ≤ 1000000) : PC Tryz.prog 88 [dM p, sl cI cs, iv (n : Int)] (fun r => r = .tup [sl cI (wm (cX p) n 0 cs).1, bv (wm (cX p) n 0 cs).2]) := by
 have hpo := yO p hl hs
 rw [if_pos hv] at hpo
 have w := WG.of_valid hv
 have wa := WA.of_valid hv
 obtain ⟨pts, hpts⟩ : ∃ pts, pts = cX p := ⟨_, rfl⟩
 rw [← hpts] at hpo w wa ⊢
 have hpl := w.pl
 have hp0 := w.p0
 (refine aS Tryz.func88 rfl (by simp [Tryz.ntmps88]) ?_; rw [Tryz.ntmps88])
 repeat' (first|(apply aL;first|((with_reducible apply aI (k := 116));(case ha => rfl);(case h => exact hpo);(case hp => (exact Pur.pf));(case hN => rfl))|(apply aE;rfl;rfl)|(apply aV;rfl;rfl;(exact (rfl:_=[_, _]));rfl;rfl;rfl)|(first|(apply a6;rfl;rfl;rfl;(first|rfl|assumption))|(apply bI;(case hj|hb|hN => rfl);all_goals (intro hg;have hq := hg;(try simp only [cH] at hq);(try (exfalso;omega)))))|(apply aT;rfl;rfl;rfl;rfl)|(apply aC;rfl;rfl)|(apply bH;rfl;(first|rfl|assumption);rfl;rfl)|(apply bF;rfl;rfl;rfl)|(apply aF;kernel_rfl)|(apply bQ;rfl;rfl;rfl;rfl)|(apply bX;rfl;rfl;rfl;(rfl);rfl;rfl))|(apply aM;first|apply aH|apply aB|(apply aP;rfl;all_goals intro hc;have hq:=hc;(try simp only [cH] at hq);try exfalso;omega)|apply aK|apply aR)|with_reducible apply aA)
 refine bB (σ := Int × Nat × List Int × Nat) [1, 2, 9] [(1, _), (2, _), (9, _)] [] [] (fun k => [(10, iv k.1), (11, iv (k.2.1 : Int)), (8, .own 1 0 k.2.2.2 1)]) (fun k => [(1, some (aJ cI k.2.2.1))]) (fun k => (0 ≤ k.1 ∧ k.1 < pts.length) ∧ k.2.1 ≤ k.2.2.1.length ∧ k.2.2.1.length ≤ n ∧ k.2.2.2 = k.2.2.1.length ∧ wm pts n 0 cs = (k.2.2.1 ++ (wm pts (n - k.2.2.1.length) k.1.toNat (cs.drop k.2.1)).1, (wm pts (n - k.2.2.1.length) k.1.toNat (cs.drop k.2.1)).2)) (fun k => n + 1 - k.2.2.1.length) (0, 0, [], 0) ⟨⟨Int.le_refl _, by show (0 : Int) < _; omega⟩, Nat.le_refl _, Nat.zero_le _, rfl, rfl⟩ rfl rfl (by repeat' (first|exact trivial|refine And.intro rfl ?_)) (by repeat' (first|exact trivial|refine And.intro (.inr rfl) ?_)) ?_
 rintro ⟨a, u, out, m⟩ ⟨⟨ha0, ha⟩, hu, ho, hm, hw⟩
 dsimp only at ha0 ha hu ho hm hw ⊢
 have hat : (a.toNat : Int) = a := Int.toNat_of_nonneg ha0
 have hnx := w.nx a.toNat (by omega)
 have hnl := w.nl a.toNat (by omega)
 have hn1 := wa.n a.toNat (by omega)
 have hk : ∀ k, k < pts[a.toNat]!.next.length → 0 ≤ pts[a.toNat]!.next[k]! ∧ pts[a.toNat]!.next[k]! < pts.length := fun k h => hnx _ (cO _ _ h)
 repeat' (first|(apply aL;first|(apply aE;rfl;rfl)|(apply aN;rfl;rfl;rfl;rfl)|(apply aD;rfl;rfl;rfl)|(first|(apply a6;rfl;rfl;rfl;(assumption))|(apply a7;rfl;rfl;rfl;(assumption))|(apply bI;(case hj|hb|hN => rfl);all_goals (intro hg;have hq := hg;(try simp only [cH] at hq);(try (exfalso;omega)))))|(first|(apply bS;rfl;rfl;omega;rfl)|(apply aT;rfl;rfl;rfl;rfl))|(apply aC;rfl;rfl)|(first|(apply bT;rfl;(assumption);rfl;rfl)|(apply bH;rfl;(assumption);rfl;rfl))|(first|(apply aZ;(case hx|hi => rfl);(case hm => (omega));(case hml => (rfl));(case hα | hf|hg => infer_instance);(case hN => rfl))|(apply cK;(case hx|hi => rfl);(case hm => (omega));(case hml => (rfl));(case hα | hf|hg => infer_instance);(case hN => rfl)))|(first|(apply bF;rfl;rfl;rfl)|(apply bY;rfl;rfl;rfl;rfl;rfl;(rw [aU]; omega);(rfl);omega;omega;(exact gL (by (assumption)));rfl;rfl))|(apply aF;kernel_rfl)|((apply bC (t := _));(case hze|hsm|hl => rfl);(case hfl => exact (rfl:_=some [_]));(case hM|hN => rfl)))|(apply aM;first|apply aH|apply aB|(apply cF;rfl;(rfl))|(apply aP;rfl;all_goals intro hc;have hq:=hc;(try simp only [cH] at hq);try exfalso;omega)|apply aK|apply aR|apply bJ|apply aQ)|with_reducible apply aA|with_reducible apply bD|with_reducible apply bO|with_reducible apply aX|with_reducible apply cL|with_reducible apply bK)
 ·have hop : ¬ pts[a.toNat]!.op = 11 := by assumption
  have e : wm pts n 0 cs = (out, false) := by rw [hw, show n - out.length = 0 by omega, Ho hop, List.append_nil]
  rw [e]
  (refine cE (Le.frzD (d := 6) (i := 1) rfl rfl) ?_; refine aO rfl ?_)
  refine ⟨?_, (by (exact Pur.pf))⟩
  simp only [bV, sl]
  rw [hm]
 ·have hop : ¬ pts[a.toNat]!.op = 11 := by assumption
  have hst := oN hop (by omega) ((JK (by omega) (by omega)).trans (by rw [if_pos (by assumption)])) hw
  rw [hat] at hst
  have hk := hk 0 (by omega)
  (apply dK (pts[a.toNat]!.next[0]!, u + 1, _, _);focus (refine Le.ren [(1, 3)] rfl (by decide) ?_ ?_ <;> repeat' (first|exact trivial|refine And.intro ⟨_, rfl, ?_⟩ ?_|refine And.intro ⟨_, _, rfl, rfl, ?_⟩ ?_|exact Or.inr rfl|refine Or.inl ⟨?_, (by first|rfl|exact aY _ _)⟩|rfl)))
  ·refine ⟨hk, ?_, ?_, ?_, hst⟩ <;> (dsimp only;rw [List.length_append]; simp only [List.length_singleton]; omega)
  ·dsimp only;rw [List.length_append]; simp only [List.length_singleton]; omega
 ·have hop : ¬ pts[a.toNat]!.op = 11 := by assumption
  have hst := oN hop (by omega) ((JK (by omega) (by omega)).trans (by rw [if_neg (by assumption)])) hw
  rw [hat] at hst
  have hk := hk 1 (by omega)
  (apply dK (pts[a.toNat]!.next[1]!, u + 1, _, _);focus (refine Le.ren [(1, 3)] rfl (by decide) ?_ ?_ <;> repeat' (first|exact trivial|refine And.intro ⟨_, rfl, ?_⟩ ?_|refine And.intro ⟨_, _, rfl, rfl, ?_⟩ ?_|exact Or.inr rfl|refine Or.inl ⟨?_, (by first|rfl|exact aY _ _)⟩|rfl)))
  ·refine ⟨hk, ?_, ?_, ?_, hst⟩ <;> (dsimp only;rw [List.length_append]; simp only [List.length_singleton]; omega)
  ·dsimp only;rw [List.length_append]; simp only [List.length_singleton]; omega
 ·have hop : ¬ pts[a.toNat]!.op = 11 := by assumption
  have hst := oN hop (by omega) (L4 (by omega) (by omega)) hw
  rw [hat] at hst
  have hk := hk 1 (by omega)
  (apply dK (pts[a.toNat]!.next[1]!, u + 1, _, _);focus (refine Le.ren [(1, 3)] rfl (by decide) ?_ ?_ <;> repeat' (first|exact trivial|refine And.intro ⟨_, rfl, ?_⟩ ?_|refine And.intro ⟨_, _, rfl, rfl, ?_⟩ ?_|exact Or.inr rfl|refine Or.inl ⟨?_, (by first|rfl|exact aY _ _)⟩|rfl)))
  ·refine ⟨hk, ?_, ?_, ?_, hst⟩ <;> (dsimp only;rw [List.length_append]; simp only [List.length_singleton]; omega)
  ·dsimp only;rw [List.length_append]; simp only [List.length_singleton]; omega
 ·have hop : ¬ pts[a.toNat]!.op = 11 := by assumption
  have hst := oN hop (by omega) (JF (by omega)) hw
  rw [hat] at hst
  have hk := hk 0 (by omega)
  (apply dK (pts[a.toNat]!.next[0]!, u, _, _);focus (refine Le.ren [(1, 3)] rfl (by decide) ?_ ?_ <;> repeat' (first|exact trivial|refine And.intro ⟨_, rfl, ?_⟩ ?_|refine And.intro ⟨_, _, rfl, rfl, ?_⟩ ?_|exact Or.inr rfl|refine Or.inl ⟨?_, (by first|rfl|exact aY _ _)⟩|rfl)))
  ·refine ⟨hk, ?_, ?_, ?_, hst⟩ <;> (dsimp only;rw [List.length_append]; simp only [List.length_singleton]; omega)
  ·dsimp only;rw [List.length_append]; simp only [List.length_singleton]; omega
 ·have hop : pts[a.toNat]!.op = 11 := by assumption
  have e : wm pts n 0 cs = (out ++ [a], true) := by rw [hw, GY hop, hat]
  rw [e]
  (refine cE (Le.frzD (d := 6) (i := 3) rfl rfl) ?_; refine aO rfl ?_)
  refine ⟨?_, (by (exact Pur.pf))⟩
  simp only [bV, sl]
  rw [hm, List.length_append]; rfl
theorem Lg {ts : List Int} {s : Mc} {x : Pnt} (hx : (x.op = 7 ∨ x.op = 8) → 0 ≤ x.x ∧ x.x < ts.length) (hy : (x.op = 3 ∨ x.op = 4 ∨ x.op = 5 ∨ x.op = 6 ∨ x.op = 7) → 0 ≤ x.y ∧ x.y < ts.length) : KJ s x = dI ts s x := by
 have hX : ∀ v : Nat, (v : Int) = x.x → v = x.x.toNat := fun v h => by omega
 have hY : ∀ v : Nat, (v : Int) = x.y → v = x.y.toNat := fun v h => by omega
 cases hu : dI ts s x with
 | true =>
  obtain ⟨v, hv, hne, hs⟩ := uC hu
  unfold cD at hne
  unfold KJ
  by_cases h3 : x.op = 3
  ·rw [if_pos h3] at hne
   by_cases e : (v : Int) = x.y
   ·rw [if_pos (.inl h3), ← hY v e, hs]; rfl
   ·rw [if_neg e] at hne;exact absurd rfl hne
  ·rw [if_neg h3] at hne
   by_cases h4 : x.op = 4 ∨ x.op = 5 ∨ x.op = 6
   ·rw [if_pos h4] at hne
    by_cases e : (v : Int) = x.y
    ·rw [if_pos (by omega), ← hY v e, hs]; rfl
    ·rw [if_neg e] at hne;exact absurd rfl hne
   ·rw [if_neg h4] at hne
    rw [if_neg (by omega)]
    by_cases h7 : x.op = 7
    ·rw [if_pos h7] at hne ⊢
     by_cases e : (v : Int) = x.x
     ·rw [← hX v e, hs]; rfl
     ·rw [if_neg e] at hne
      by_cases e2 : (v : Int) = x.y
      ·rw [← hY v e2, hs]; simp
      ·rw [if_neg e2] at hne;exact absurd rfl hne
    ·rw [if_neg h7] at hne ⊢
     by_cases h8 : x.op = 8
     ·rw [if_pos h8] at hne ⊢
      by_cases e : (v : Int) = x.x
      ·rw [← hX v e, hs]; rfl
      ·rw [if_neg e] at hne;exact absurd rfl hne
     ·rw [if_neg h8] at hne;exact absurd rfl hne
 | false =>
  have hS : ∀ v : Nat, v < ts.length → cD ts x v ≠ 0 → s.slots[v]!.set = true := fun v hv h => iS hu hv h
  unfold KJ
  by_cases h3 : x.op = 3
  ·have := hy (.inl h3)
   rw [if_pos (.inl h3), hS x.y.toNat (by omega) (by unfold cD;rw [if_pos h3, if_pos (by omega)]; split <;> decide)]; rfl
  ·by_cases h4 : x.op = 4 ∨ x.op = 5 ∨ x.op = 6
   ·have := hy (by omega)
    rw [if_pos (by omega), hS x.y.toNat (by omega) (by unfold cD;rw [if_neg h3, if_pos h4, if_pos (by omega)]; decide)]; rfl
   ·rw [if_neg (by omega)]
    by_cases h7 : x.op = 7
    ·have hy7 := hy (by omega)
     have hx7 := hx (.inl h7)
     rw [if_pos h7, hS x.x.toNat (by omega) (by unfold cD; rw [if_neg h3, if_neg h4, if_pos h7, if_pos (by omega)]; decide),
      hS x.y.toNat (by omega) (by unfold cD;rw [if_neg h3, if_neg h4, if_pos h7]; split;decide;rw [if_pos (by omega)]; decide)]; rfl
    ·rw [if_neg h7]
     by_cases h8 : x.op = 8
     ·have hx8 := hx (.inr h8)
      rw [if_pos h8, hS x.x.toNat (by omega) (by unfold cD;rw [if_neg h3, if_neg h4, if_neg h7, if_pos h8, if_pos (by omega)]; decide)]; rfl
     ·rw [if_neg h8]
theorem Cg (k : Int) : kC k ≠ 0 := by
 unfold kC e9;split
 ·decide
 ·split <;> decide
theorem CK (k : Int) : e9 k ≠ 0 := by unfold e9; split <;> decide
theorem oJ {ts : List Int} {s : Mc} {v : Nat} {y : Sl} : (c6 ts s v y).2 ≠ 0 := by
 unfold c6;split
 ·exact Cg _
 ·show (-1 : Int) ≠ 0;decide
theorem Kn {ts : List Int} {s : Mc} {x : Pnt} (h : x.op ≠ 11) : (dA ts s x).2 ≠ 0 := by
 unfold dA
 split
 ·exact oJ
 split
 ·split
  ·show (1 : Int) ≠ 0;decide
  ·exact oJ
 split
 ·exact oJ
 split
 ·split
  ·exact oJ
  ·exact CK _
 split
 ·split
  ·exact oJ
  ·exact CK _
 split
 ·exact Cg _
 split
 ·exact Cg _
 show (-1 : Int) ≠ 0;decide
theorem L3 {ts : List Int} {s : Mc} {x : Pnt} (h : x.op ≠ 11) : gk (dA ts s x).2 = 0 ↔ (dA ts s x).2 = -1 := by
 have := Kn (ts := ts) (s := s) h
 unfold gk;split
 ·simp [*]
 ·constructor <;> (intro q;contradiction)
theorem KC (ts : List Int) (s : Mc) (x : Pnt) (ho : x.op = 9 ∨ x.op = 10) : PC Tryz.prog 91 [sl cI ts, gQ s, fM x] (fun r => r = .tup [gQ (dA ts s x).1, iv (gk (dA ts s x).2)]) := by
 have h0 : dA ts s x = (s, -1) := by
  unfold dA;rw [if_neg (show ¬ x.op = 1 by omega), if_neg (show ¬ x.op = 2 by omega), if_neg (show ¬ x.op = 3 by omega), if_neg (show ¬ (x.op = 4 ∨ x.op = 5) by omega), if_neg (show ¬ x.op = 6 by omega), if_neg (show ¬ x.op = 7 by omega), if_neg (show ¬ x.op = 8 by omega), if_neg (show ¬ x.op = 11 by omega)]
 rw [h0]
 (refine aS Tryz.func91 rfl (by simp [Tryz.ntmps91]) ?_; rw [Tryz.ntmps91])
 repeat' (first|(apply aL;first|(first|(apply aN;rfl;rfl;rfl;rfl)|(apply aV;rfl;rfl;(exact (rfl:_=[_, _, _]));rfl;rfl;rfl))|(apply aD;rfl;rfl;rfl)|(apply aT;rfl;rfl;rfl;rfl)|(apply aC;rfl;rfl)|(apply aF;kernel_rfl)|(apply bQ;rfl;rfl;rfl;rfl)|(apply bE;rfl;rfl)|(apply aW;rfl;rfl;rfl;rfl;rfl;(case hl => (simp;done));(exact (rfl:_=[_, _, _]))))|(apply aM;first|apply aH|apply aB|(apply aP;rfl;all_goals intro hc;have hq:=hc;(try simp only [cH] at hq);try exfalso;omega)|apply aK|apply aR|apply aQ)|with_reducible apply aA|with_reducible apply aX)
 exact aO (l := [gQ s, iv 0]) rfl ⟨rfl, by (exact Pur.pf)⟩
theorem KH (ts : List Int) (s : Mc) (x : Pnt) (h11 : x.op ≠ 11) (hop : 1 ≤ x.op ∧ x.op ≤ 11) (hm : OkM s.cells) (hsl : s.slots.length = ts.length) (hx : x.op ≤ 8 → 0 ≤ x.x ∧ x.x < ts.length) (hy : 3 ≤ x.op → x.op ≤ 7 → 0 ≤ x.y ∧ x.y < ts.length) (hn : x.op = 2 → 0 ≤ x.n ∧ x.n ≤ 9) (hl : ts.length ≤ 1000000) (hrl : s.read.length ≤ 1000000) : PC Tryz.prog 91 [sl cI ts, gQ s, fM x] (fun r => r = .tup [gQ (dA ts s x).1, iv (gk (dA ts s x).2)]) := by
 by_cases h1 : x.op = 1
 ·exact KM ts s x h1 hm hsl (hx (by omega)) hl
 by_cases h2 : x.op = 2
 ·exact KE ts s x h2 hm hsl (hx (by omega)) (hn h2) hl
 by_cases h3 : x.op = 3
 ·exact KG ts s x h3 hm hsl (hx (by omega)) (hy (by omega) (by omega)) hl
 by_cases h4 : x.op = 4 ∨ x.op = 5
 ·exact HK ts s x h4 hm hsl (hx (by omega)) (hy (by omega) (by omega)) hl
 by_cases h6 : x.op = 6
 ·exact KF ts s x h6 hm hsl (hx (by omega)) (hy (by omega) (by omega)) hl hrl
 by_cases h7 : x.op = 7
 ·exact K4 ts s x h7 hm hsl (hx (by omega)) (hy (by omega) (by omega)) hl
 by_cases h8 : x.op = 8
 ·exact Kj ts s x h8 hm hsl (hx (by omega)) hl
 ·exact KC ts s x (by omega)
theorem k8 {ts : List Int} {s : Mc} {v : Nat} {y : Sl} : (c6 ts s v y).1.read = s.read := by unfold c6; split <;> rfl
theorem AU {ts : List Int} {s : Mc} {x : Pnt} (h : x.op ≠ 11) : (dA ts s x).1.read.length ≤ s.read.length + 1 := by
 unfold dA
 split
 ·rw [k8]; omega
 split
 ·split
  ·dsimp only;omega
  ·rw [k8]; dsimp only;omega
 split
 ·rw [k8]; split <;> (first|omega|(dsimp only;omega))
 split
 ·split
  ·rw [k8]; dsimp only;omega
  ·dsimp only;omega
 split
 ·split
  ·rw [k8]; dsimp only;rw [List.length_append]; simp only [List.length_singleton]; omega
  ·dsimp only;omega
 split
 ·dsimp only;omega
 split
 ·dsimp only;omega
 dsimp only;omega
theorem CU (pts : List Pnt) : ∀ n a cs, (eL pts n a cs).2 = true → ∃ l b, (eL pts n a cs).1 = l ++ [b] ∧ pts[b]!.op = 11
 | 0, a, cs, h => by
  unfold eL at h ⊢
  by_cases e : pts[a]!.op = 11
  ·rw [if_pos e]; exact ⟨[], a, rfl, e⟩
  ·rw [if_neg e] at h;exact absurd h (by decide)
 | n + 1, a, cs, h => by
  rw [eL] at h ⊢
  by_cases e : pts[a]!.op = 11
  ·rw [if_pos e]; exact ⟨[], a, rfl, e⟩
  ·rw [if_neg e] at h ⊢
   obtain ⟨l, b, h1, h2⟩ := CU pts n _ _ h
   exact ⟨a :: l, b, by dsimp only;rw [h1]; rfl, h2⟩
theorem K1 {s : Mc} {x : Pnt} (h : x.op = 11) : KJ s x = false := by
 unfold KJ;rw [if_neg (by omega), if_neg (by omega), if_neg (by omega)]
theorem HN (p : Prg) (cs : List Int) (n : Nat) (hv : cZ p = true) (hl : p.types.length ≤ 1000000) (hs : b9 p.body ≤ 1000000) (hn : n ≤ 150) (hcl : cs.length ≤ 1000000) (hL : ∀ a ∈ (eL (cX p) n 0 cs).1, a < (cX p).length) (hLl : (eL (cX p) n 0 cs).1.length ≤ 151) : PC Tryz.prog 43 [dM p, sl cI cs, iv (n : Int)] (fun r => r = .tup [gQ (eJ p.types (cX p) cs n).1, iv (eJ p.types (cX p) cs n).2.1, iv (eJ p.types (cX p) cs n).2.2]) := by
 have hpo := r7 p hs
 have hru := BK p cs n hv hl hs (by omega) hcl
 have w := WG.of_valid hv
 have wa := WA.of_valid hv
 obtain ⟨q, hq⟩ : ∃ q, q = eJ p.types (cX p) cs n := ⟨_, rfl⟩
 rw [← hq]
 unfold eJ at hq
 unfold wm at hru
 obtain ⟨L, hLe⟩ : ∃ L, L = (eL (cX p) n 0 cs).1 := ⟨_, rfl⟩
 obtain ⟨dn, hdn⟩ : ∃ dn, dn = (eL (cX p) n 0 cs).2 := ⟨_, rfl⟩
 rw [← hLe, ← hdn] at hru
 rw [← hLe] at hq hL hLl
 have hgx : ∀ i, i < L.length → (L.map (fun a : Nat => (a : Int)))[i]! = (L[i]! : Int) := fun i h => by rw [cT _ _ (by rw [List.length_map]; exact h), List.getElem_map, cT _ _ h]
 have hml : (L.map (fun a : Nat => (a : Int))).length = L.length := List.length_map _
 generalize (L.map (fun a : Nat => (a : Int))) = LI at *
 generalize hP : cX p = pts at *
 have e1 : AV.imm p.types.length ((List.replicate p.types.length ([Value.bool false, Value.int .i64 0, Value.int .i64 0, Value.int .i64 0].map AV.v)).flatten) = sl eH (List.replicate p.types.length gY) := by
  rw [r9 (f := eH) (x := gY) (l := [Value.bool false, Value.int .i64 0, Value.int .i64 0, Value.int .i64 0].map AV.v) rfl]; exact fP (by simp)
 (refine aS Tryz.func43 rfl (by simp [Tryz.ntmps43]) ?_; rw [Tryz.ntmps43])
 repeat' (first|(apply aL;first|((with_reducible apply aI (k := 60));(case ha => rfl);(case h => exact hpo);(case hp => (exact Pur.pf));(case hN => rfl))|(with_reducible apply cS (d := 27))|(first|(apply aN;rfl;rfl;rfl;rfl)|(apply aV;rfl;rfl;(exact (rfl:_=[_, _]));rfl;rfl;rfl))|(apply aD;rfl;rfl;rfl)|(apply aC;rfl;rfl)|(apply bF;rfl;rfl;rfl)|(apply aF;kernel_rfl)|(apply bQ;rfl;rfl;rfl;rfl)|(apply bE;rfl;rfl)|((apply bC (t := _));(case hze|hsm|hl => rfl);(case hfl => (rfl));(case hM|hN => rfl))|(apply eC;rfl;rfl;rfl;omega;omega;(rfl);rfl;rfl))|(apply aM;first|apply aH|apply aB)|with_reducible apply aA)
 refine dP (jH ?_ (Le.frzD (d := 24) (i := 2) rfl rfl))
 rw [e1]
 repeat' (first|(apply aL;first|((with_reducible apply aI (k := 88));(case ha => rfl);(case h => exact hru);(case hp => (exact Pur.pf));(case hN => rfl))|(apply aE;rfl;rfl)|(apply aV;rfl;rfl;(exact (rfl:_=[_, _]));rfl;rfl;rfl)|(apply aC;rfl;rfl)|(apply aF;kernel_rfl)|(apply cC;rfl;(exact (rfl:_=some [_, _, _]));(exact (rfl:_=[_, _, _]));rfl)|(apply bE;rfl;rfl)|(apply a8;rfl;rfl;rfl)|(apply aW;rfl;rfl;rfl;rfl;rfl;(case hl => (simp;done));(exact (rfl:_=[_, _, _]))))|(apply aM;first|apply aH|apply aB|apply aK)|with_reducible apply aA)
 refine bB (σ := Nat × Mc) [3, 6, 9, 10, 11, 12] [(3, _), (6, _), (9, _), (10, _), (11, _), (12, _)] [0, 1] [(0, some _), (1, some _)] (fun k => [(13, iv (k.1 : Int))]) (fun k => [(5, some [sl eH k.2.slots, sl c8 k.2.cells, sl cI k.2.read])]) (fun k => k.1 ≤ L.length ∧ iE p.types pts (L.drop k.1) k.2 (if k.1 = 0 then 0 else L[k.1 - 1]!) = q ∧ OkS p.types.length k.2 ∧ k.2.read.length ≤ k.1 ∧ (∀ j, j < k.1 → pts[L[j]!]!.op ≠ 11)) (fun k => L.length - k.1) (0, mc0 p.types.length) ⟨Nat.zero_le _, by rw [hq]; rfl, OkS.mc0 _, Nat.le_refl _, fun j h => absurd h (by omega)⟩ rfl rfl (by repeat' (first|exact trivial|refine And.intro rfl ?_)) (by repeat' (first|exact trivial|refine And.intro (.inr rfl) ?_)) ?_
 rintro ⟨i, s⟩ ⟨hi, hf, hok, hrd, h11⟩
 dsimp only at hi hf hok hrd h11 ⊢
 have hil : i < L.length → L[i]! < pts.length := fun h => hL _ (cO _ _ h)
 have hex := fun h => IX p.types s hok.m hok.l h
 by_cases hiL : i < L.length
 ·have hap := hil hiL
  have hop := w.op L[i]! hap
  have hwx := w.x L[i]! hap
  have hwy := w.y L[i]! hap
  have hA := wa.a L[i]! hap
  have hg := hgx i hiL
  have hen := hex hl
  have hun := DD s pts[L[i]!]! (fun h => by have := hok.l;omega) (fun h => by have := hok.l;omega)
  have hun2 := Lg (ts := p.types) (s := s) (x := pts[L[i]!]!) (fun h => by omega) (fun h => by omega)
  rw [hun2] at hun
  have hdo := fun h => KH p.types s pts[L[i]!]! h hop hok.m hok.l (fun h => by omega) (fun h h2 => by omega) (fun h => hA.n (.inr h)) hl (by omega)
  repeat' (first|(apply aL;first|(with_reducible apply cS (d := 46))|(apply aE;rfl;rfl)|(apply aN;rfl;rfl;rfl;rfl)|(apply aT;rfl;rfl;rfl;rfl)|(apply aZ;(case hx|hi => rfl);(case hm => (omega));(case hml => (rfl));(case hα | hf|hg => infer_instance);(case hN => rfl))|(apply bF;rfl;rfl;rfl)|(apply aF;kernel_rfl))|(apply aM;first|apply aH|apply aB|(apply aP;rfl;all_goals intro hc;have hq:=hc;(try simp only [cH] at hq);try exfalso;omega)|apply aK|apply aR)|with_reducible apply aA)
  refine dP ?_
  rw [hg]
  repeat' (first|(apply aL;first|((with_reducible apply aI (k := 89));(case ha => rfl);(case h => exact hen);(case hp => (exact Pur.pf));(case hN => rfl))|((with_reducible apply aI (k := 90));(case ha => rfl);(case h => exact hun);(case hp => (exact Pur.pf));(case hN => rfl))|((with_reducible apply aI (k := 91));(case ha => rfl);(case h => exact hdo (by assumption));(case hp => (exact Pur.pf));(case hN => rfl))|(apply aE;rfl;rfl)|(first|(apply aN;rfl;rfl;rfl;rfl)|(apply aV;rfl;rfl;(first|exact (rfl:_=[_, _, _])|exact (rfl:_=[_, _, _, _, _]));rfl;rfl;rfl))|(apply aD;rfl;rfl;rfl)|(first|(apply bS;rfl;rfl;omega;rfl)|(apply aT;rfl;rfl;rfl;rfl))|(apply aC;rfl;rfl)|(apply aZ;(case hx|hi => rfl);(case hm => (first|assumption|omega));(case hml => (rfl));(case hα | hf|hg => infer_instance);(case hN => rfl))|(apply aF;kernel_rfl)|(apply bE;rfl;rfl)|(apply a8;rfl;rfl;rfl)|(apply aW;rfl;rfl;rfl;rfl;rfl;(case hl => (simp;done));(first|exact (rfl:_=[_, _, _])|exact (rfl:_=[_, _, _, _, _]))))|(apply aM;first|apply aH|apply aB|(apply b0;kernel_rfl)|(apply aP;rfl;all_goals intro hc;have hq:=hc;(try simp only [cH] at hq);try exfalso;omega)|apply aR|apply aQ)|with_reducible apply aA|with_reducible apply bD|with_reducible apply aX|with_reducible apply cL)
  all_goals have hdr : L.drop i = L[i]! :: L.drop (i + 1) := by rw [List.drop_eq_getElem_cons hiL, cT _ _ hiL]
  all_goals rw [hdr] at hf
  ·have ho : pts[L[i]!]!.op = 11 := by assumption
   have hqq : q = ((dQ p.types p.types.length 0 s).1, (dQ p.types p.types.length 0 s).2, L[i]!) := by
    rw [← hf, iE, if_neg (by rw [← hun2, K1 ho]; decide), uB ho, if_neg (by have := m5 p.types p.types.length 0 s;omega)]
   rw [hqq]
   refine aO (l := [gQ (dQ p.types p.types.length 0 s).1, iv (dQ p.types p.types.length 0 s).2, iv LI[i]!]) rfl ?_
   rw [hg]
   exact ⟨rfl, by (exact Pur.pf)⟩
  ·have hu : dI p.types s pts[L[i]!]! = true := by assumption
   have hqq : q = (s, 2, L[i]!) := by rw [← hf, iE, if_pos hu]
   rw [hqq]
   refine aO (l := [gQ s, iv 2, iv LI[i]!]) rfl ?_
   rw [hg]
   exact ⟨rfl, by (exact Pur.pf)⟩
  ·have ho : ¬ pts[L[i]!]!.op = 11 := by assumption
   have hu : dI p.types s pts[L[i]!]! = false := by assumption
   have hk : ¬ gk (dA p.types s pts[L[i]!]!).2 = 0 := by assumption
   have hk2 : ¬ (dA p.types s pts[L[i]!]!).2 = -1 := fun e => hk ((L3 ho).2 e)
   have hqq : q = ((dA p.types s pts[L[i]!]!).1, (dA p.types s pts[L[i]!]!).2, L[i]!) := by rw [← hf, iE, if_neg (by rw [hu]; decide), if_neg hk2]
   rw [hqq]
   refine aO (l := [gQ (dA p.types s pts[L[i]!]!).1, iv (gk (dA p.types s pts[L[i]!]!).2), iv LI[i]!]) rfl ?_
   rw [hg, show gk (dA p.types s pts[L[i]!]!).2 = (dA p.types s pts[L[i]!]!).2 by unfold gk;rw [if_neg hk2]]
   exact ⟨rfl, by (exact Pur.pf)⟩
  ·have ho : ¬ pts[L[i]!]!.op = 11 := by assumption
   have hu : dI p.types s pts[L[i]!]! = false := by assumption
   have hk2 : (dA p.types s pts[L[i]!]!).2 = -1 := (L3 ho).1 (by assumption)
   (apply dK (i + 1, (dA p.types s pts[L[i]!]!).1);focus (refine Le.ren [(0, 0), (1, 1), (5, 5)] rfl (by decide) ?_ ?_ <;> repeat' (first|exact trivial|refine And.intro ⟨_, rfl, ?_⟩ ?_|refine And.intro ⟨_, _, rfl, rfl, ?_⟩ ?_|exact Or.inr rfl|refine Or.inl ⟨?_, (by first|rfl|exact aY _ _|exact Pur.pf)⟩|rfl)))
   ·refine ⟨by dsimp only; omega, ?_, hok.do ⟨fun h => hA.n (.inr h)⟩, ?_, ?_⟩
    ·dsimp only
     rw [← hf, if_neg (by omega), show i + 1 - 1 = i by omega, iE, if_neg (by rw [hu]; decide), if_pos hk2]
    ·dsimp only;have := AU (ts := p.types) (s := s) ho;omega
    ·intro j hj
     rcases Nat.lt_or_ge j i with h|h
     ·exact h11 j h
     ·rw [show j = i by omega]; exact ho
   ·dsimp only;omega
 ·repeat' (first | (apply aL; first | (apply aE;rfl;rfl) | (first | (apply aN;rfl;rfl;rfl;rfl) | (apply aV;rfl;rfl;(exact (rfl:_=[_, _, _]));rfl;rfl;rfl)) | (first | (apply a6;rfl;rfl;rfl;(assumption)) | (apply a7;rfl;rfl;rfl;(assumption)) | (apply bI; (case hj | hb | hN => rfl); all_goals (intro hg; have hq := hg; (try simp only [cH] at hq); (try (exfalso; omega))))) | (first | (apply fU;rfl;rfl;omega;rfl) | (apply aT;rfl;rfl;rfl;rfl)) | (apply aC;rfl;rfl) | (first | (apply bT;rfl;(assumption);rfl;rfl) | (apply bH;rfl;(assumption);rfl;rfl)) | (apply cK; (case hx | hi => rfl); (case hm => (omega)); (case hml => (rfl)); (case hα | hf | hg => infer_instance); (case hN => rfl)) | (apply bF;rfl;rfl;rfl) | (apply aF;kernel_rfl) | (apply cG;rfl;rfl) | (apply aW;rfl;rfl;rfl;rfl;rfl;(case hl => (simp;done));(exact (rfl:_=[_, _, _])))) | (apply aM; first | apply aH | apply aB | (apply b0;kernel_rfl) | (apply cF;rfl;(rfl)) | (apply aP;rfl;all_goals intro hc;have hq:=hc;(try simp only [cH] at hq);try exfalso;omega) | apply aR | apply bJ | apply aQ) | with_reducible apply aA | with_reducible apply bD | with_reducible apply bO | with_reducible apply bK)
  all_goals have hie : i = L.length := by omega
  all_goals have hqq : q = (s, 1, if i = 0 then 0 else L[i - 1]!) := by rw [← hf, hie, List.drop_length]; rfl
  ·rw [hqq, if_neg (by omega)]
   refine aO (l := [gQ s, iv 1, iv LI[((LI.length : Int) - 1).toNat]!]) rfl ?_
   rw [show ((LI.length : Int) - 1).toNat = i - 1 by omega, hgx (i - 1) (by omega)]
   exact ⟨rfl, by (exact Pur.pf)⟩
  ·rw [hqq, if_pos (by omega)]
   exact aO (l := [gQ s, iv 1, iv 0]) rfl ⟨rfl, by (exact Pur.pf)⟩
  ·exfalso
   have hd1 : dn = true := by assumption
   obtain ⟨l, b, e1, e2⟩ := CU pts n 0 cs (by rw [← hdn]; exact hd1)
   rw [← hLe] at e1
   have hlen : L.length = l.length + 1 := by rw [e1, List.length_append]; rfl
   have hb : L[l.length]! = b := by rw [cT _ _ (by omega)]; simp [e1]
   have := h11 l.length (by omega)
   rw [hb] at this
   exact this e2
theorem Bv {ts : List Int} {pts : List Pnt} (w : WG ts pts) (A : WA ts pts) : ∀ n a cs, a < pts.length → ∀ x ∈ (eL pts n a cs).1, x < pts.length
 | 0, a, cs, ha, x, hx => by
  unfold eL at hx
  by_cases e : pts[a]!.op = 11
  ·rw [if_pos e] at hx;rw [List.mem_singleton.1 hx]; exact ha
  ·rw [if_neg e] at hx;exact absurd hx (by simp)
 | n + 1, a, cs, ha, x, hx => by
  rw [eL] at hx
  by_cases e : pts[a]!.op = 11
  ·rw [if_pos e] at hx;rw [List.mem_singleton.1 hx]; exact ha
  ·rw [if_neg e] at hx
   rcases List.mem_cons.1 hx with h|h
   ·rw [h]; exact ha
   ·have he := rZ w A ha e cs
    have := w.nx a ha _ he.2
    exact Bv w A n _ _ (by omega) x h
theorem rG {pts : List Pnt} : ∀ n a cs, (eL pts n a cs).1.length ≤ n + 1
 | 0, a, cs => by unfold eL;split <;> simp
 | n + 1, a, cs => by
  rw [eL]; split
  ·simp
  ·have := rG (pts := pts) n (iH pts a cs).1 (iH pts a cs).2
   dsimp only;rw [List.length_cons]; omega
theorem FH (p : Prg) (cs : List Int) (n : Nat) (hv : cZ p = true) (hl : p.types.length ≤ 1000000) (hs : b9 p.body ≤ 1000000) (hn : n ≤ 150) (hcl : cs.length ≤ 1000000) : PC Go.Proofs.Tryz.prog 43 [dM p, sl cI cs, iv (n : Int)] (fun r => r = .tup [gQ (eJ p.types (cX p) cs n).1, iv (eJ p.types (cX p) cs n).2.1, iv (eJ p.types (cX p) cs n).2.2]) :=
 HN p cs n hv hl hs hn hcl (Bv (WG.of_valid hv) (WA.of_valid hv) n 0 cs (WG.of_valid hv).p0) (by have := rG (pts := cX p) n 0 cs;omega)
def yW (p : Prg) (most : Int) : Bool := cZ p && (decide (0 ≤ most) && decide (most ≤ 150))
theorem DU (p : Prg) (most : Int) (hl : p.types.length ≤ 1000000) (hs : b9 p.body ≤ 1000000) : PC Tryz.prog 42 [dM p, iv most] (fun r => r = bv (yW p most)) := by
 have hval := oO p hl (by omega)
 (refine aS Tryz.func42 rfl (by simp [Tryz.ntmps42]) ?_; rw [Tryz.ntmps42])
 repeat' (first|(apply aL;first|((with_reducible apply aI (k := 87));(case ha => rfl);(case h => exact hval);(case hp => (exact Pur.pf));(case hN => rfl))|(apply aE;rfl;rfl)|(apply aV;rfl;rfl;(exact (rfl:_=[_, _]));rfl;rfl;rfl)|(first|(apply a6;rfl;rfl;rfl;(assumption))|(apply a7;rfl;rfl;rfl;(first|rfl|assumption))|(apply bI;(case hj|hb|hN => rfl);all_goals (intro hg;have hq := hg;(try simp only [cH] at hq);(try (exfalso;omega)))))|(apply aT;rfl;rfl;rfl;rfl)|(apply aC;rfl;rfl)|(first|(apply bT;rfl;(assumption);rfl;rfl)|(apply bH;rfl;(first|rfl|assumption);rfl;rfl))|(apply aF;kernel_rfl)|(apply bQ;rfl;rfl;rfl;rfl))|(apply aM;first|apply aH|apply aB|apply aQ)|with_reducible apply aA)
 all_goals (refine aO rfl ⟨?_, rfl⟩; simp only [bV, AV.v.injEq, Value.bool.injEq]; unfold yW;grind)
theorem u6 (p : Prg) (cs : List Int) (most : Int) (hl : p.types.length ≤ 1000000) (hs : b9 p.body ≤ 1000000) (hcl : cs.length ≤ 1000000) : PC Tryz.prog 14 [dM p, sl cI cs, iv most] (fun r => r = .tup (if yW p most = true then [iv (eJ p.types (cX p) cs most.toNat).2.1, iv (eJ p.types (cX p) cs most.toNat).2.2] else [iv 5, iv 0])) := by
 have hrt := DU p most hl hs
 by_cases h : yW p most = true
 ·have h' := h
  unfold yW at h'
  simp only [Bool.and_eq_true, decide_eq_true_eq] at h'
  obtain ⟨hv, h0, h1⟩ := h'
  have hru := FH p cs most.toNat hv hl hs (by omega) hcl
  rw [Int.toNat_of_nonneg h0] at hru
  rw [h] at hrt
  rw [if_pos h]
  (refine aS Tryz.func14 rfl (by simp [Tryz.ntmps14]) ?_; rw [Tryz.ntmps14])
  repeat' (first|(apply aL;first|((with_reducible apply aI (k := 42));(case ha => rfl);(case h => exact hrt);(case hp => (exact Pur.pf));(case hN => rfl))|((with_reducible apply aI (k := 43));(case ha => rfl);(case h => exact hru);(case hp => (exact Pur.pf));(case hN => rfl))|(apply aE;rfl;rfl)|(apply aV;rfl;rfl;(exact (rfl:_=[_, _]));rfl;rfl;rfl)|(apply aC;rfl;rfl)|(apply aF;kernel_rfl)|(apply cG;rfl;rfl)|(apply bQ;rfl;rfl;rfl;rfl)|(apply bE;rfl;rfl)|(apply a8;rfl;rfl;rfl)|(apply aW;rfl;rfl;rfl;rfl;rfl;(case hl => (simp;done));(exact (rfl:_=[_, _, _]))))|(apply aM;first|apply aH|apply aB|(apply cF;rfl;(rfl))|apply aR|apply aQ)|with_reducible apply aA)
  exact aO (l := [iv (eJ p.types (cX p) cs most.toNat).2.1, iv (eJ p.types (cX p) cs most.toNat).2.2]) rfl ⟨rfl, rfl⟩
 ·rw [if_neg h]
  have h2 : yW p most = false := by simpa using h
  rw [h2] at hrt
  (refine aS Tryz.func14 rfl (by simp [Tryz.ntmps14]) ?_; rw [Tryz.ntmps14])
  repeat' (first|(apply aL;first|((with_reducible apply aI (k := 42));(case ha => rfl);(case h => exact hrt);(case hp => (exact Pur.pf));(case hN => rfl))|(apply aE;rfl;rfl)|(apply aV;rfl;rfl;(exact (rfl:_=[_, _]));rfl;rfl;rfl)|(apply aC;rfl;rfl)|(apply aF;kernel_rfl)|(apply cG;rfl;rfl)|(apply bQ;rfl;rfl;rfl;rfl))|(apply aM;first|apply aH|apply aB|(apply b8;rfl;(rfl))|apply aQ)|with_reducible apply aA|with_reducible apply bD)
  exact aO (l := [iv 5, iv 0]) rfl ⟨rfl, rfl⟩
theorem KA {p : Prg} {cs : List Int} {n : Nat} (hv : cZ p = true) : OkS p.types.length (eJ p.types (cX p) cs n).1 := by
 have wa := WA.of_valid hv
 have hp : ∀ a : Nat, PtN (cX p)[a]! := fun a => by
  by_cases h : a < (cX p).length
  ·exact ⟨fun e => (wa.a a h).n (.inr e)⟩
  ·refine ⟨fun e => ?_⟩
   rw [G7, dif_neg h] at e
   exact absurd e (by decide)
 exact OkS.run hp _ _ _ (OkS.mc0 _)
theorem zC {ts : List Int} {s : Mc} {x : Pnt} : (dA ts s x).1.read.length ≤ s.read.length + 1 := by
 by_cases h : x.op = 11
 ·rw [uB h, rV]; omega
 ·exact AU h
theorem vL (ts : List Int) (pts : List Pnt) : ∀ (l : List Nat) (s : Mc) (last : Nat), (iE ts pts l s last).1.read.length ≤ s.read.length + l.length
 | [], s, last => by unfold iE;simp
 | a :: l, s, last => by
  have h := zC (ts := ts) (s := s) (x := pts[a]!)
  unfold iE;split
  ·dsimp only;omega
  ·split
   ·have := vL ts pts l (dA ts s pts[a]!).1 a
    rw [List.length_cons]; omega
   ·rw [List.length_cons]; dsimp only;omega
theorem B3 {ts : List Int} {pts : List Pnt} {cs : List Int} {n : Nat} (hn : n ≤ 150) : (eJ ts pts cs n).1.read.length ≤ 151 := by
 have h := vL ts pts (eL pts n 0 cs).1 (mc0 ts.length) 0
 have h2 := rG (pts := pts) n 0 cs
 have h3 : (mc0 ts.length).read.length = 0 := rfl
 unfold eJ;omega
theorem Lp : Go.Proofs.Tryz.prog.underlying 246 = some (.map 3 4) := by kernel_rfl
theorem Lq : Go.Proofs.Tryz.prog.underlying 3 = some (.int .i64) := by kernel_rfl
theorem LJ : (Go.Proofs.Tryz.prog.info? 4).bind (·.zero) = some (.bool false) := by kernel_rfl
theorem LP {a b c : Int} (h : a ≤ b ∧ b ≤ c) : (!(decide (a ≤ b) && decide (b ≤ c))) = false := by simp [h.1, h.2]
theorem iT (m : List Cl) (hm : OkM m) : PC Tryz.prog 184 [sl c8 m] (fun r => r = bv true) := by
 have hml := hm.l
 (refine aS Tryz.func184 rfl (by simp [Tryz.ntmps184]) ?_; rw [Tryz.ntmps184])
 repeat' (first|(apply aL;first|(apply aE;rfl;rfl)|(apply aT;rfl;rfl;rfl;rfl)|(apply aC;rfl;rfl)|(apply bF;rfl;rfl;rfl)|(apply aF;kernel_rfl))|(apply aM;first|apply aH|apply aB|(apply aP;rfl;all_goals intro hc;have hq:=hc;(try simp only [cH] at hq);try exfalso;omega)|apply aK|apply aR)|with_reducible apply aA)
 all_goals (try (exfalso;omega))
 refine bB (σ := Nat) [11, 12] [(11, _), (12, _)] [] [] (fun i => [(13, iv (i : Int))]) (fun i => []) (fun i => i ≤ m.length) (fun i => m.length - i) (0) (Nat.zero_le _) rfl rfl (by repeat' (first|exact trivial|refine And.intro rfl ?_)) (by repeat' (exact trivial)) ?_
 rintro i hi
 by_cases hin : i < m.length
 ·have hc := (dX m).1 hm |>.2 i hin
  obtain ⟨h1, h2, h3, h4, h5⟩ := (pC _).1 hc
  repeat' (first|(apply aL;first|(apply aE;rfl;rfl)|(first|(apply aN;rfl;rfl;rfl;rfl)|(apply aV;rfl;rfl;(exact (rfl:_=[_, _, _, _]));rfl;rfl;rfl))|(apply aD;rfl;rfl;rfl)|(first|(apply a6;rfl;rfl;rfl;(assumption))|(apply bI;(case hj|hb|hN => rfl);all_goals (intro hg;have hq := hg;(try simp only [cH] at hq);(try (exfalso;omega)))))|(apply aT;rfl;rfl;rfl;rfl)|(apply aC;rfl;rfl)|(apply bH;rfl;(assumption);rfl;rfl)|(first|(apply aZ;(case hx|hi => rfl);(case hm => (assumption));(case hml => (rfl));(case hα | hf|hg => infer_instance);(case hN => rfl))|(apply cK;(case hx|hi => rfl);(case hm => (omega));(case hml => (rfl));(case hα | hf|hg => infer_instance);(case hN => rfl)))|((with_reducible apply aI (k := 84));(case ha => rfl);(case h => (apply eA <;> (fail)));(case hp => (rfl));(case hN => rfl))|(apply bF;rfl;rfl;rfl)|(apply aF;kernel_rfl)|(apply cG;rfl;rfl)|(apply bE;rfl;rfl)|(apply aW;rfl;rfl;rfl;rfl;rfl;(case hl => (simp;done));(exact (rfl:_=[_, _, _, _]))))|(apply aM;first|with_reducible apply GN|apply aH|apply aB|(apply aP;rfl;all_goals intro hc;have hq:=hc;(try simp only [cH] at hq);try exfalso;omega)|apply aK|apply aR|apply aQ)|with_reducible apply aA|with_reducible apply bD|with_reducible apply cL)
  ·exfalso
   have hu : m[i]!.stk[Int.toNat 0]!.uq = false := by assumption
   rw [show Int.toNat 0 = 0 from rfl, h4] at hu;exact absurd hu (by decide)
  ·refine K3 (Fz rfl (fun r => ?_))
   refine AO ?_
   repeat' (apply aL;first|(apply aC;rfl;rfl)|(apply aF;kernel_rfl))
   refine ⟨rfl, rfl, ?_⟩
   refine lL (oX ?_)
   repeat' (first|(apply aL;first|(apply aE;rfl;rfl)|(apply aN;rfl;rfl;rfl;rfl)|(apply aD;rfl;rfl;rfl)|(apply bF;rfl;rfl;rfl)|(apply aF;kernel_rfl))|(apply aM;(apply aB)))
   show rE _ _ _ _ _ _ _
   refine vZ ?_
   refine Ed (σ := Nat) [4, 5, 11, 12, 13, 44, 45] [(4, _), (5, _), (11, _), (12, _), (13, _), (44, _), (45, _)] [0] [(0, some _)] (fun k => [(46, iv (k : Int))]) (fun k => []) (fun k => (m[i]!.stk.take k).map (·.id)) (fun k => k ≤ m[i]!.stk.length) (fun k => m[i]!.stk.length - k) (0) (Nat.zero_le _) (rfl) rfl rfl (by repeat' (first|exact trivial|refine And.intro rfl ?_)) (by repeat' (exact trivial)) ?_
   rintro k hk
   refine lL (oX ?_)
   repeat' (first|(apply aL;first|(apply aT;rfl;rfl;rfl;rfl)|(apply aF;kernel_rfl))|(apply aM;(apply aB)))
   show rE _ _ _ _ _ _ _
   refine lL (AA rfl (fun hb => zE ?_) (fun hb => FO ?_))
   ·show rE _ _ _ _ _ _ _
    have hkl : k < m[i]!.stk.length := by have := of_decide_eq_true hb;omega
    obtain ⟨g1, g2, g3⟩ := h5 k hkl
    have hw := LP (a := 0) (b := m[i]!.stk[k]!.id) (c := m[i]!.next - 1) ⟨g1, by omega⟩
    have hni : m[i]!.stk[k]!.id ∉ (m[i]!.stk.take k).map (·.id) := fun q => by
     obtain ⟨t, ht, e⟩ := List.mem_map.1 q
     obtain ⟨j, hj, rfl⟩ := List.getElem_of_mem ht
     rw [List.length_take] at hj
     have f := tZ (stk := m[i]!.stk) (id := m[i]!.stk[k]!.id) (by omega) j (by omega)
     rw [cT _ _ (by omega)] at f
     rw [List.getElem_take] at e
     exact f e
    refine lL (vZ (lL (oX ?_)))
    repeat' (first|(apply aL;first|(apply aV;rfl;rfl;(exact (rfl:_=[_, _]));rfl;rfl;rfl)|(apply aZ;(case hx|hi => rfl);(case hm => (assumption));(case hml => (rfl));(case hα | hf|hg => infer_instance);(case hN => rfl))|(apply aF;kernel_rfl)|(apply bE;rfl;rfl)|(apply aW;rfl;rfl;rfl;rfl;rfl;(case hl => (simp;done));(exact (rfl:_=[_, _]))))|(apply aM;(apply aB)))
    show rE _ _ _ _ _ _ _
    refine lL (lL (tM ?_))
    refine zB (l1 := [_, _, _, _, _, _, _, _, _, _, _]) (l2 := [_, _]) ?_
    repeat' (apply aL;first|(apply aE;rfl;rfl)|(apply aN;rfl;rfl;rfl;rfl)|(apply aD;rfl;rfl;rfl)|(apply a6;rfl;rfl;rfl;(assumption))|(apply fU;rfl;rfl;omega;rfl)|((with_reducible apply aI (k := 84));(case ha => rfl);(case h => (apply eA <;> (fail)));(case hp => (rfl));(case hN => rfl))|(apply aF;kernel_rfl)|(apply cG;rfl;rfl))
    refine ⟨rfl, ?_⟩
    refine D9 rfl rfl hw ?_
    refine Cn Lp Lq LJ rfl rfl hni rfl ?_
    refine AO ?_
    repeat' (apply aL;first|(apply bH;rfl;(assumption);rfl;rfl)|(apply aF;kernel_rfl))
    refine ⟨rfl, ?_⟩
    show rE _ _ _ _ _ _ _
    refine AA rfl (fun h => by cases h) (fun _ => zE ?_)
    show rE _ _ _ _ _ _ _
    refine tM ?_
    refine zB (l1 := [_, _, _]) (l2 := [_]) ?_
    repeat' (apply aL;first|(apply aE;rfl;rfl)|(apply aN;rfl;rfl;rfl;rfl)|(apply aD;rfl;rfl;rfl)|(apply aF;kernel_rfl))
    refine ⟨rfl, ?_⟩
    refine Bw Lp Lq LJ rfl rfl hni ?_
    refine HE ?_
    show rE _ _ _ _ _ _ _
    refine oX ?_
    repeat' (first|(apply aL;first|(apply aE;rfl;rfl)|(apply bS;rfl;rfl;omega;rfl)|(apply aF;kernel_rfl))|(apply aM;(apply aB)))
    refine ⟨k + 1, by omega, by omega, ?_, ?_⟩
    ·refine Le.ren [(0, 0)] rfl (by decide) ?_ ?_ <;> repeat' (first|exact trivial|refine And.intro ⟨_, rfl, ?_⟩ ?_|refine And.intro ⟨_, _, rfl, rfl, ?_⟩ ?_|exact Or.inr rfl|refine Or.inl ⟨?_, (by first|rfl|exact aY _ _|exact Pur.pf)⟩|rfl)
    ·rw [c7 _ k hkl, List.map_append]; rfl
   ·have hkl : k = m[i]!.stk.length := by have := of_decide_eq_false hb; omega
    refine F9 ?_
    show BO 1 _ _ _
    repeat' (first|(apply aL;first|(apply aE;rfl;rfl)|(apply bS;rfl;rfl;omega;rfl)|(apply aF;kernel_rfl))|(apply aM;(apply aB))|with_reducible apply aA|with_reducible apply aX)
    (apply dK (i + 1);focus (refine Le.ren [] rfl (by decide) ?_ ?_ <;> repeat' (first|exact trivial|refine And.intro ⟨_, rfl, ?_⟩ ?_|refine Or.inl ⟨?_, (by first|rfl|exact aY _ _)⟩|rfl)))
    ·omega
    ·omega
 ·repeat' (first | (apply aL; first | (apply aT;rfl;rfl;rfl;rfl) | (apply aC;rfl;rfl) | (apply aF;kernel_rfl)) | (apply aM; first | apply aH | apply aB | (apply aP;rfl;all_goals intro hc;have hq:=hc;(try simp only [cH] at hq);try exfalso;omega) | apply bJ | apply aQ) | with_reducible apply aA | with_reducible apply bO | with_reducible apply bK)
  refine aO rfl ⟨rfl, rfl⟩
end Go.Proofs.YtckihjkcgfphmaaGreat
