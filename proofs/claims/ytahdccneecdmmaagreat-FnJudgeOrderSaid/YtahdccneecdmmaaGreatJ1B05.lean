/-
 A part of the proofs over this program: rules and contracts of its functions (the contracts).
-/
import Derived.Test.YtahdccneecdmmaaGreatJ1B04
set_option linter.unusedVariables false
set_option linter.unusedSimpArgs false
set_option maxHeartbeats 8000000
set_option maxRecDepth 4000
attribute [local irreducible] Go.AL.RW Go.AL.AW Go.AL.Stop
namespace Go.Proofs.YtahdccneecdmmaaGreat
open Go.AL Go.RowKit
theorem CR {stk r : List Tg} {k : Nat} {N : Nat} {Q : Exit → AS → Prop} {all : Array Oper} {rest : List Oper} {tsl : List (Nat × AV)} {hsl : List (Nat × Option (List AV))} {nidl : Nat} {z0 : Lo} {md : Md} {d : Nat} {ty : TypeId} {pos : String} {af : Array Edge} {tys : Array TypeId} {x0 x1 : Operand} (ha0 : ev (lk tsl) x0 = some (sl cH stk)) (ha1 : ev (lk tsl) x1 = some (iv (k : Int))) (hmc : MC Tryz.prog 277 [sl cH stk, iv (k : Int)] [] 0 (fun _ : Unit => True) (fun _ => .own 1 0 r.length 2) (fun _ => [(1, some (flat cH r))])) (hM : Nat.ble (nidl + 2) aV = true) (hN : Nat.blt d N = true) {md' : Md} [hmd : MdA md (fK [x0, x1] ++ []) (List.map Sum.inr (List.map Prod.fst ([((nidl + 1), some (flat cH r))] : List (Nat × Option (List AV)))) ++ [.inl d]) md'] (kk : RW Tryz.prog N all Q md' rest ⟨(d, .own (nidl + 1) 0 r.length 2) :: tsl, gS hsl [((nidl + 1), some (flat cH r))], nidl + 2, z0⟩) : RW Tryz.prog N all Q md (⟨some d, .call ⟨.value (.func 277), #[x0, x1], tys⟩, ty, pos, af, none⟩ :: rest) ⟨tsl, hsl, nidl, z0⟩ := by
 refine aW [] 2 [((nidl + 1), some (flat cH r))] hmc (avs := [sl cH stk, iv (k : Int)]) ?_ rfl ?_ rfl ?_ (by simpa using hM) ?_ ?_ ?_ hN (md' := md') (hmd := hmd) kk
 ·show evL (lk tsl) [x0, x1] = _
  simp only [evL, ha0, ha1]
 ·exact trivial
 ·(repeat' (exact RnL.purI inferInstance))
 ·(repeat' (exact RnV.own rfl))
 ·simp [cE]
 ·(repeat' (first|exact trivial|(refine And.intro ⟨1, _, rfl, rfl, ?_⟩ ?_)|exact RnL.purI inferInstance))
theorem E0 (stk r : List Tg) (k : Nat) (hr : r = gY stk k false) (hk : k < stk.length) (hl : stk.length ≤ 1000000) : MC Tryz.prog 277 [sl cH stk, iv (k : Int)] [] 0 (fun _ : Unit => True) (fun _ => .own 1 0 r.length 2) (fun _ => [(1, some (flat cH r))]) := by
 have e1 : List.take (((k : Int) + 1).toNat - 0) (List.drop 0 stk) = stk.take (k + 1) := by rw [List.drop_zero]; congr 1
 have e2 : (stk.take (k + 1)).length = k + 1 := by rw [List.length_take]; omega
 refine aU Tryz.func277 Tryz.ntmps277 ?_
 repeat' (first|(apply aH;(with_reducible apply aX (d := 12)))|refine aE ?_|refine aF ?_|fail)
 refine bV ?_
 rw [e1]
 repeat' (first|refine aE ?_|refine aF ?_|fail)
 refine aI (σ := Nat × List Tg × Nat) [0] [] (fun s => [(6, iv (s.1 : Int)), (5, .own 1 0 s.2.2 2)]) (fun s => [(1, some (flat cH s.2.1))]) (fun s => k + 1 ≤ s.1 ∧ s.1 ≤ stk.length ∧ s.2.1 = stk.take (k + 1) ++ ((stk.drop (k + 1)).take (s.1 - (k + 1))).filter (fun t => !t.uq) ∧ s.2.2 = s.2.1.length ∧ s.2.2 ≤ s.1) (fun s => stk.length - s.1) (k + 1, stk.take (k + 1), 0 + (stk.take (k + 1)).length) ⟨Nat.le_refl _, by dsimp only;omega, by simp, by dsimp only;omega, by dsimp only;omega⟩ ?_
 rintro ⟨i, xs, n⟩ ⟨hki, hi, hxs, hn, hni⟩
 dsimp only at hki hi hxs hn hni ⊢
 repeat' (first|(apply aH;first|(apply bW;rfl;rfl;rfl;rfl;rfl;(rw [aJ]; omega);(rfl);omega;omega;(exact tC (by (assumption)));rfl;rfl)|(apply aK (t := _);rfl;rfl;rfl;(exact (rfl:_=some [_, _]));rfl;rfl))|refine aE ?_|refine aF ?_|(refine aL ?_ ?_ <;> intro hc hq <;> try (exfalso;omega))|fail)
 ·(refine bB (i + 1, _, _) (Le.renA [(1, 3)]) ?_ ?_)
  ·refine ⟨by dsimp only; omega, by dsimp only; omega, ?_, by dsimp only; rw [List.length_append, hn]; rfl, by dsimp only; omega⟩
   dsimp only
   rw [hxs, kC stk hki (by omega), List.filter_append, List.append_assoc]
   congr 2
   have hu : stk[i]!.uq = false := by assumption
   rw [qT (by rw [hu]; rfl)]
  ·dsimp only;omega
 ·(refine bB (i + 1, xs, n) (Le.renA [(1, 1)]) ?_ ?_)
  ·refine ⟨by dsimp only; omega, by dsimp only; omega, ?_, hn, by dsimp only; omega⟩
   dsimp only
   have hu : stk[i]!.uq = true := by assumption
   rw [hxs, kC stk hki (by omega), List.filter_append, nD (by rw [hu]; rfl), List.append_nil]
  ·dsimp only;omega
 ·have hie : i = stk.length := by omega
  have hd : (stk.drop (k + 1)).take (stk.length - (k + 1)) = stk.drop (k + 1) := List.take_of_length_le (by rw [List.length_drop]; exact Nat.le_refl _)
  have hxr : xs = r := by rw [hxs, hie, hd, hr]; rfl
  subst hxr
  (refine aD rfl ?_; refine aP () trivial ?_ ⟨.inr (Eq.trans (b := some _) rfl ?_), trivial⟩)
  ·rw [hn]; rfl
  ·rfl
theorem IC {m : List Cl} {x : Pt} {j : Nat} {r : List Tg} {v : Int} {N : Nat} {Q : Exit → AS → Prop} {all : Array Oper} {rest : List Oper} {tsl : List (Nat × AV)} {hsl : List (Nat × Option (List AV))} {nidl : Nat} {z0 : Lo} {md : Md} {d : Nat} {ty : TypeId} {pos : String} {af : Array Edge} {tys : Array TypeId} {x0 x1 : Operand} (ha0 : ev (lk tsl) x0 = some (sl bO m)) (ha1 : ev (lk tsl) x1 = some (nB x)) (hmc : MC Tryz.prog 252 [sl bO m, nB x] [] 0 (fun _ : Unit => True) (fun _ => .tup [.own 1 0 m.length 4, iv v, iv 0]) (fun _ => [(1, some (flat fD (dG m j (.own 3 0 r.length 2)))), (3, some (flat cH r))])) (hM : Nat.ble (nidl + 4) aV = true) (hN : Nat.blt d N = true) {md' : Md} [hmd : MdA md (fK [x0, x1] ++ []) (List.map Sum.inr (List.map Prod.fst ([((nidl + 1), some (flat fD (dG m j (.own (nidl + 3) 0 r.length 2)))), ((nidl + 3), some (flat cH r))] : List (Nat × Option (List AV)))) ++ [.inl d]) md'] (kk : RW Tryz.prog N all Q md' rest ⟨(d, .tup [.own (nidl + 1) 0 m.length 4, iv v, iv 0]) :: tsl, gS hsl [((nidl + 1), some (flat fD (dG m j (.own (nidl + 3) 0 r.length 2)))), ((nidl + 3), some (flat cH r))], nidl + 4, z0⟩) : RW Tryz.prog N all Q md (⟨some d, .call ⟨.value (.func 252), #[x0, x1], tys⟩, ty, pos, af, none⟩ :: rest) ⟨tsl, hsl, nidl, z0⟩ := by
 refine aW [] 4 [((nidl + 1), some (flat fD (dG m j (.own (nidl + 3) 0 r.length 2)))), ((nidl + 3), some (flat cH r))] hmc (avs := [sl bO m, nB x]) ?_ rfl ?_ rfl ?_ (by simpa using hM) ?_ ?_ ?_ hN (md' := md') (hmd := hmd) kk
 ·show evL (lk tsl) [x0, x1] = _
  simp only [evL, ha0, ha1]
 ·exact trivial
 ·(repeat' (exact RnL.purI inferInstance))
 ·(repeat' (first|exact RnL.purI inferInstance|exact RnV.own rfl|refine RnL.cons ?_ ?_|refine RnV.tup ?_))
 ·simp [cE]
 ·(repeat' (first|exact trivial|(refine And.intro ⟨1, _, rfl, rfl, ?_⟩ ?_)|(refine And.intro ⟨3, _, rfl, rfl, ?_⟩ ?_)|exact RnL.purI inferInstance|exact kE rfl))
theorem JX (m : List Cl) (x : Pt) (j : Nat) (r : List Tg) (v : Int) (hm : OkM m) (hk : bF m x false = 0) (hj : j = x.cell.toNat) (hr : r = gY m[j]!.stk (cM m[j]!.stk x.tag).toNat false) (hv : v = m[j]!.val) : MC Tryz.prog 252 [sl bO m, nB x] [] 0 (fun _ : Unit => True) (fun _ => .tup [.own 1 0 m.length 4, iv v, iv 0]) (fun _ => [(1, some (flat fD (dG m j (.own 3 0 r.length 2)))), (3, some (flat cH r))]) := by
 subst hj
 have hml := hm.l
 have hst : 0 ≤ x.cell → x.cell < m.length → m[x.cell.toNat]!.stk.length ≤ 1000000 := fun h1 h2 => Nat.le_trans (((c8 m).1 hm).2 x.cell.toNat (by omega)).l.2 (by decide)
 have hpl := kX m hm x
 rw [if_pos hk, hk] at hpl
 obtain ⟨h1, h2, h3, h4, _⟩ := dR hk
 have hbd := fC m[x.cell.toNat]!.stk x.tag
 have hrd := E0 m[x.cell.toNat]!.stk r (cM m[x.cell.toNat]!.stk x.tag).toNat hr (by omega) (hst h1 h2)
 rw [Int.toNat_of_nonneg h4] at hrd
 obtain ⟨k, hkk⟩ := Int.eq_ofNat_of_zero_le h4
 rw [hkk] at hpl hrd
 refine aU Tryz.func252 Tryz.ntmps252 ?_
 repeat' (first|(apply aH;first|(apply fE;rfl;exact gE m hm;rfl;rfl)|(apply aA (k := 276);rfl;exact hpl;exact Pur.pf;rfl)|(apply CR;rfl;rfl;exact hrd;rfl;rfl)|(apply bC;rfl;rfl;rfl;rfl;rfl;(rw [aJ]; simp only [fX] <;> omega);(exact yL (by (omega)))))|refine aE ?_|refine aF ?_|refine bQ ?_|fail)
 (refine aD rfl ?_; refine aP () trivial ?_ ⟨.inr (Eq.trans (b := some _) rfl ?_), ⟨.inr (Eq.trans (b := some _) rfl ?_), trivial⟩⟩)
 ·rw [hv]; rfl
 ·rfl
 ·rfl
theorem F4 {m : List Cl} {x : Pt} {j : Nat} {r : List Tg} {N : Nat} {Q : Exit → AS → Prop} {all : Array Oper} {rest : List Oper} {tsl : List (Nat × AV)} {hsl : List (Nat × Option (List AV))} {nidl : Nat} {z0 : Lo} {md : Md} {d : Nat} {ty : TypeId} {pos : String} {af : Array Edge} {tys : Array TypeId} {x0 x1 : Operand} (ha0 : ev (lk tsl) x0 = some (sl bO m)) (ha1 : ev (lk tsl) x1 = some (nB x)) (hmc : MC Tryz.prog 271 [sl bO m, nB x] [] 0 (fun _ : Unit => True) (fun _ => .tup [.own 1 0 m.length 4, iv 0]) (fun _ => [(1, some (flat fD (dG m j (.own 3 0 r.length 2)))), (3, some (flat cH r))])) (hM : Nat.ble (nidl + 4) aV = true) (hN : Nat.blt d N = true) {md' : Md} [hmd : MdA md (fK [x0, x1] ++ []) (List.map Sum.inr (List.map Prod.fst ([((nidl + 1), some (flat fD (dG m j (.own (nidl + 3) 0 r.length 2)))), ((nidl + 3), some (flat cH r))] : List (Nat × Option (List AV)))) ++ [.inl d]) md'] (kk : RW Tryz.prog N all Q md' rest ⟨(d, .tup [.own (nidl + 1) 0 m.length 4, iv 0]) :: tsl, gS hsl [((nidl + 1), some (flat fD (dG m j (.own (nidl + 3) 0 r.length 2)))), ((nidl + 3), some (flat cH r))], nidl + 4, z0⟩) : RW Tryz.prog N all Q md (⟨some d, .call ⟨.value (.func 271), #[x0, x1], tys⟩, ty, pos, af, none⟩ :: rest) ⟨tsl, hsl, nidl, z0⟩ := by
 refine aW [] 4 [((nidl + 1), some (flat fD (dG m j (.own (nidl + 3) 0 r.length 2)))), ((nidl + 3), some (flat cH r))] hmc (avs := [sl bO m, nB x]) ?_ rfl ?_ rfl ?_ (by simpa using hM) ?_ ?_ ?_ hN (md' := md') (hmd := hmd) kk
 ·show evL (lk tsl) [x0, x1] = _
  simp only [evL, ha0, ha1]
 ·exact trivial
 ·(repeat' (exact RnL.purI inferInstance))
 ·(repeat' (first|exact RnL.purI inferInstance|exact RnV.own rfl|refine RnL.cons ?_ ?_|refine RnV.tup ?_))
 ·simp [cE]
 ·(repeat' (first|exact trivial|(refine And.intro ⟨1, _, rfl, rfl, ?_⟩ ?_)|(refine And.intro ⟨3, _, rfl, rfl, ?_⟩ ?_)|exact RnL.purI inferInstance|exact kE rfl))
theorem Hb (m : List Cl) (x : Pt) (j : Nat) (r : List Tg) (hm : OkM m) (hk : bF m x true = 0) (hj : j = x.cell.toNat) (hr : r = gY m[j]!.stk (cM m[j]!.stk x.tag).toNat true) : MC Tryz.prog 271 [sl bO m, nB x] [] 0 (fun _ : Unit => True) (fun _ => .tup [.own 1 0 m.length 4, iv 0]) (fun _ => [(1, some (flat fD (dG m j (.own 3 0 r.length 2)))), (3, some (flat cH r))]) := by
 subst hj
 have hml := hm.l
 obtain ⟨h1, h2, h3, h4, hu⟩ := dR hk
 have hk0 : bF m x false = 0 := sF h1 h2 h3 h4
 have hs2 : m[x.cell.toNat]!.stk.length ≤ 200 := (((c8 m).1 hm).2 x.cell.toNat (by omega)).l.2
 have hpl := kX m hm x
 rw [if_pos hk0, hk0] at hpl
 have hbd := fC m[x.cell.toNat]!.stk x.tag
 obtain ⟨k, hkk⟩ := Int.eq_ofNat_of_zero_le h4
 have hkt : (cM m[x.cell.toNat]!.stk x.tag).toNat = k := by omega
 rw [hkk] at hpl
 rw [hkt] at hr hu
 have hkn : k < m[x.cell.toNat]!.stk.length := by omega
 have e1 : List.take (((k : Int) + 1).toNat - 0) (List.drop 0 m[x.cell.toNat]!.stk) = r := by rw [List.drop_zero, hr]; unfold gY;rw [if_pos rfl]; congr 1
 have e2 : r.length = k + 1 := by rw [← e1, List.drop_zero, List.length_take]; omega
 have hut := hu rfl
 refine aU Tryz.func271 Tryz.ntmps271 ?_
 repeat' (first|(apply aH;first|(apply fE;rfl;exact gE m hm;rfl;rfl)|(apply aA (k := 276);rfl;exact hpl;exact Pur.pf;rfl)|(with_reducible apply aX (d := 46)))|refine aE ?_|refine aF ?_|(refine aL ?_ ?_ <;> intro hc hq <;> try (exfalso;omega))|refine bQ ?_|fail)
 ·exfalso; have hf : m[x.cell.toNat]!.stk[k]!.uq = false := by assumption
  rw [hut] at hf;exact absurd hf (by decide)
 refine bV ?_
 rw [e1]
 repeat' (first|(apply aH;(apply bC;rfl;rfl;rfl;rfl;rfl;(rw [aJ]; simp only [fX] <;> omega);(exact yL (by (omega)))))|refine aE ?_|refine aF ?_|fail)
 (refine aD rfl ?_; refine aP () trivial ?_ ⟨.inr (Eq.trans (b := some _) rfl ?_), ⟨.inr (Eq.trans (b := some _) rfl ?_), trivial⟩⟩)
 ·rfl
 ·rw [Nat.zero_add r.length]
 ·rfl
theorem wT {m : List Cl} {x : Pt} {u : Bool} {r : List Tg} (hk : bF m x u = 0) (hr : r = gY m[x.cell.toNat]!.stk (cM m[x.cell.toNat]!.stk x.tag).toNat u) : mD m x u = jY m x.cell.toNat r ∧ n3 m x u = jX m m x.cell.toNat u r ∧ sB m x u = jW m x.cell.toNat r := by
 obtain ⟨h1, h2, _⟩ := dR hk
 subst hr
 have e : mD m x u = jY m x.cell.toNat (gY m[x.cell.toNat]!.stk (cM m[x.cell.toNat]!.stk x.tag).toNat u) := by
  unfold mD;rw [if_pos hk]; rfl
 refine ⟨e, ?_, ?_⟩
 ·unfold n3 jX
  rw [e]; unfold jY
  split
  ·rw [if_neg (by decide)]
  ·rw [if_pos rfl]; rfl
 ·unfold sB jW
  rw [e]; unfold jY
  split
  ·rw [if_neg (by decide)]
  ·rw [if_pos rfl, Int.toNat_of_nonneg h1]
theorem H3 {m : List Cl} {x : Pt} {u : Bool} (hk : bF m x u ≠ 0) : mD m x u = bF m x u ∧ n3 m x u = m ∧ sB m x u = ⟨0, 0⟩ := by
 have e : mD m x u = bF m x u := by unfold mD;rw [if_neg hk]
 exact ⟨e, by unfold n3;rw [if_neg (by rw [e]; exact hk)], by unfold sB;rw [if_neg (by rw [e]; exact hk)]⟩
theorem yF (m : List Cl) (hm : OkM m) (x : Pt) : PC Tryz.prog 274 [sl bO m, nB x] (fun r => r = .tup [sl bO (n3 m x false), nB (sB m x false), iv (mD m x false)]) := by
 have hml := hm.l
 by_cases hk : bF m x false = 0
 ·obtain ⟨c, t⟩ := x
  obtain ⟨h1, h2, _⟩ := dR hk
  have h1' : 0 ≤ c := h1
  obtain ⟨j, rfl⟩ := Int.eq_ofNat_of_zero_le h1'
  have h2' : (j : Int) < m.length := h2
  have hc := ((c8 m).1 hm).2 j (by omega)
  obtain ⟨r, hr⟩ : ∃ r, r = gY m[j]!.stk (cM m[j]!.stk t).toNat false := ⟨_, rfl⟩
  have hrl : r.length ≤ 200 := by rw [hr]; exact Nat.le_trans tchS_sub.length_le hc.l.2
  obtain ⟨e1, e2, e3⟩ := wT hk hr
  have hpu := Ay m m j false r m.length r.length hm rfl rfl (by omega) (by have := hc.n;omega) hrl hml
  rw [e1, e2, e3]
  refine aC Tryz.func274 Tryz.ntmps274 ?_
  repeat' (first|(apply aH;first|(apply IC (j := j) (r := r) (v := m[j]!.val);rfl;rfl;exact JX m _ _ r _ hm hk rfl hr rfl;rfl;rfl)|(apply xC (m := m) (b := m) (j := j) (u := false) (r := r) (n := m.length) (k := r.length);rfl;rfl;rfl;rfl;rfl;rfl;rfl;exact hpu;rfl;rfl))|refine aE ?_|refine aF ?_|fail)
  exact aD (l := [sl bO (jX m m j false r), .agg [iv (jW m j r).cell, iv (jW m j r).tag], iv (jY m j r)]) rfl ⟨rfl, by exact Pur.pf⟩
 ·obtain ⟨e1, e2, e3⟩ := H3 hk
  have hrd := rE m hm x
  have e4 : dZ m x false = m := by unfold dZ;rw [if_neg hk]
  rw [e4] at hrd
  rw [e1, e2, e3]
  refine aC Tryz.func274 Tryz.ntmps274 ?_
  repeat' (first|(apply aH;(apply aA (k := 252);rfl;exact hrd;exact Pur.pf;rfl))|refine aE ?_|refine aF ?_|(refine aL ?_ ?_ <;> intro hc hq <;> try (exfalso;omega))|fail)
  skip
  exact aD (l := [sl bO m, .agg [iv 0, iv 0], iv (bF m x false)]) rfl ⟨rfl, by exact Pur.pf⟩
theorem wH (m : List Cl) (hm : OkM m) (x : Pt) : PC Tryz.prog 275 [sl bO m, nB x] (fun r => r = .tup [sl bO (n3 m x true), nB (sB m x true), iv (mD m x true)]) := by
 have hml := hm.l
 by_cases hk : bF m x true = 0
 ·obtain ⟨c, t⟩ := x
  obtain ⟨h1, h2, _⟩ := dR hk
  have h1' : 0 ≤ c := h1
  obtain ⟨j, rfl⟩ := Int.eq_ofNat_of_zero_le h1'
  have h2' : (j : Int) < m.length := h2
  have hc := ((c8 m).1 hm).2 j (by omega)
  obtain ⟨r, hr⟩ : ∃ r, r = gY m[j]!.stk (cM m[j]!.stk t).toNat true := ⟨_, rfl⟩
  have hrl : r.length ≤ 200 := by rw [hr]; exact Nat.le_trans tchS_sub.length_le hc.l.2
  obtain ⟨e1, e2, e3⟩ := wT hk hr
  have hpu := Ay m m j true r m.length r.length hm rfl rfl (by omega) (by have := hc.n;omega) hrl hml
  rw [e1, e2, e3]
  refine aC Tryz.func275 Tryz.ntmps275 ?_
  repeat' (first|(apply aH;first|(apply F4 (j := j) (r := r);rfl;rfl;exact Hb m _ _ r hm hk rfl hr;rfl;rfl)|(apply xC (m := m) (b := m) (j := j) (u := true) (r := r) (n := m.length) (k := r.length);rfl;rfl;rfl;rfl;rfl;rfl;rfl;exact hpu;rfl;rfl))|refine aE ?_|refine aF ?_|fail)
  exact aD (l := [sl bO (jX m m j true r), .agg [iv (jW m j r).cell, iv (jW m j r).tag], iv (jY m j r)]) rfl ⟨rfl, by exact Pur.pf⟩
 ·obtain ⟨e1, e2, e3⟩ := H3 hk
  have hwr := jO m x hm
  have e4 : dZ m x true = m := by unfold dZ;rw [if_neg hk]
  rw [e1, e2, e3]
  refine aC Tryz.func275 Tryz.ntmps275 ?_
  repeat' (first|(apply aH;(apply iG;rfl;rfl;exact hwr;rfl;rfl))|refine aE ?_|refine aF ?_|(refine aL ?_ ?_ <;> intro hc hq <;> try (exfalso;omega))|fail)
  refine aR (Le.frzD (d := 4) (i := 3) (m := m.length) (cs := flat bO (dZ m x true)) rfl rfl) ?_
  rw [e4]
  exact aD (l := [sl bO m, .agg [iv 0, iv 0], iv (bF m x true)]) rfl ⟨rfl, by exact Pur.pf⟩
abbrev gG (s : Mc) : AV := .agg [sl dH s.slots, sl bO s.cells, sl cI s.read]
theorem xL {xs : List Sl} {k : Nat} {a : Bool} {b c d : Int} (hk : k < xs.length) : g6 (flat dH xs) (0 + k * 4) [bv a, iv b, iv c, iv d] = flat dH (xs.set k ⟨a, b, ⟨c, d⟩⟩) := iF hk rfl
theorem qE (s : Mc) (v : Nat) (hv : v < s.slots.length) (hl : s.slots.length ≤ 1000000) : PC Tryz.prog 247 [gG s, iv (v : Int)] (fun r => r = gG ⟨s.slots.set v nA, s.cells, s.read⟩) := by
 refine aC Tryz.func247 Tryz.ntmps247 ?_
 repeat' (first|(apply aH;(apply bC;rfl;rfl;rfl;rfl;rfl;(case hl => (first|(rw [aJ]; simp only [fX] <;> omega)|(simp;done)));(exact xL (by (assumption)))))|refine aE ?_|refine aF ?_|fail)
 refine aR (Le.frzC (j := 1) (i := 3) [] rfl rfl (by decide)) ?_
 have e : AV.imm (0 + s.slots.length) (flat dH (s.slots.set v nA)) = sl dH (s.slots.set v nA) := fA (by rw [List.length_set, Nat.zero_add])
 refine aD (l := [.agg [.imm (0 + s.slots.length) (flat dH (s.slots.set v nA)), sl bO s.cells, sl cI s.read]]) rfl ?_
 rw [e]
 exact ⟨rfl, by exact Pur.pf⟩
theorem Hv (k : Int) : (if oN k = -1 then (0 : Int) else oN k) = if k = 1 then 3 else if k = 0 then 0 else 4 := by
 unfold oN fL
 by_cases h : k = 0
 ·subst h;rfl
 ·rw [if_neg h, if_neg h]
  by_cases h1 : k = 1
  ·rw [if_pos h1]; rfl
  ·rw [if_neg h1]; rfl
theorem lS (ts : List Int) (s : Mc) (v : Nat) (y : Sl) (hm : OkM s.cells) (hv : v < s.slots.length) (hvt : v < ts.length) (hl : s.slots.length ≤ 1000000) : PC Tryz.prog 248 [sl cI ts, gG s, iv (v : Int), Jz y] (fun r => r = .tup [gG (cA ts s v y).1, iv (if (cA ts s v y).2 = -1 then 0 else (cA ts s v y).2)]) := by
 have hfc := mY s.cells hm s.slots[v]!.ptr
 refine aC Tryz.func248 Tryz.ntmps248 ?_
 repeat' (first|(apply aH;first|(apply aA (k := 245);rfl;exact hfc;exact Pur.pf;rfl)|(apply bC;rfl;rfl;rfl;rfl;rfl;(case hl => (first|(rw [aJ]; simp only [fX] <;> omega)|(simp;done)));(exact xL (by (assumption))))|(apply aA (k := 246);rfl;(apply kV);(rfl);rfl))|refine aE ?_|refine aF ?_|(refine aL ?_ ?_ <;> intro hc hq <;> try (exfalso;omega))|(refine bS ?_ ?_ <;> intro hg hq <;> try (exfalso;omega))|refine bQ ?_|fail)
 all_goals (
  refine aR (Le.frzC (j := 2) (i := 4) [] rfl rfl (by decide)) ?_
  have e : AV.imm (0 + s.slots.length) (flat dH (s.slots.set v y)) = sl dH (s.slots.set v y) := fA (by rw [List.length_set, Nat.zero_add]))
 ·have hp : cA ts s v y = (⟨s.slots.set v y, lV s.cells s.slots[v]!.ptr, s.read⟩, oN (bF s.cells s.slots[v]!.ptr true)) := if_pos ⟨by assumption, by assumption⟩
  refine aD (l := [.agg [.imm (0 + s.slots.length) (flat dH (s.slots.set v y)), sl bO (lV s.cells s.slots[v]!.ptr), sl cI s.read], iv (if bF s.cells s.slots[v]!.ptr true = 1 then 3 else if bF s.cells s.slots[v]!.ptr true = 0 then 0 else 4)]) rfl ?_
  rw [e, hp]
  dsimp only
  rw [Hv]
  exact ⟨rfl, by exact Pur.pf⟩
 all_goals (
  have hp : cA ts s v y = (⟨s.slots.set v y, s.cells, s.read⟩, -1) := if_neg (by
   rintro ⟨q1, q2⟩
   first|(exact (by assumption : ¬ ts[v]! = 2) q1)|(rw [(by assumption : s.slots[v]!.set = false)] at q2;exact absurd q2 (by decide)))
  refine aD (l := [.agg [.imm (0 + s.slots.length) (flat dH (s.slots.set v y)), sl bO s.cells, sl cI s.read], iv 0]) rfl ?_
  rw [e, hp]
  exact ⟨rfl, by exact Pur.pf⟩)
def gk (e : Int) : Int := if e = -1 then 0 else e
theorem Ms {t : Int} (h : t = 2 ∨ t = 4) : Au t = true := by
 unfold Au;rcases h with h|h <;> subst h <;> rfl
theorem O7 {t : Int} (h : ¬ t = 2) (h2 : ¬ t = 4) : ¬ Au t = true := by
 unfold Au;rw [decide_eq_false h, decide_eq_false h2]; decide
theorem y6 {k : Int} (h : ¬ k = 0) : (if k = 1 then (3 : Int) else if k = 0 then 0 else 4) = fL k := by
 unfold fL;rw [if_neg h]
theorem Mn {m : List Cl} {x : Pt} {u : Bool} (h : ¬ mD m x u = 0) : n3 m x u = m := by unfold n3; rw [if_neg h]
theorem HI (ts : List Int) (s : Mc) (x : Pnt) (hm : OkM s.cells) (hsl : s.slots.length = ts.length) (hx : 0 ≤ x.x ∧ x.x < ts.length) (hy : 0 ≤ x.y ∧ x.y < ts.length) (hl : ts.length ≤ 1000000) : PC Tryz.prog 250 [sl cI ts, gG s, dW x] (fun r => r = .tup [gG (cA ts (if Au ts[x.y.toNat]! = true then ⟨s.slots.set x.y.toNat nA, s.cells, s.read⟩ else s) x.x.toNat s.slots[x.y.toNat]!).1, iv (gk (cA ts (if Au ts[x.y.toNat]! = true then ⟨s.slots.set x.y.toNat nA, s.cells, s.read⟩ else s) x.x.toNat s.slots[x.y.toNat]!).2)]) := by
 have hcl := qE s x.y.toNat (by omega) (by omega)
 have hp1 := lS ts ⟨s.slots.set x.y.toNat nA, s.cells, s.read⟩ x.x.toNat s.slots[x.y.toNat]! hm (by show _ < (s.slots.set x.y.toNat nA).length;rw [List.length_set]; omega) (by omega) (by show (s.slots.set x.y.toNat nA).length ≤ _; rw [List.length_set]; omega)
 have hp2 := lS ts s x.x.toNat s.slots[x.y.toNat]! hm (by omega) (by omega) (by omega)
 rw [Int.toNat_of_nonneg hy.1] at hcl
 rw [Int.toNat_of_nonneg hx.1] at hp1 hp2
 refine aC Tryz.func250 Tryz.ntmps250 ?_
 repeat' (first|(apply aH;first|(apply aA (k := 247);rfl;exact hcl;exact Pur.pf;rfl)|(apply aA (k := 248);rfl;(first|exact hp1|exact hp2);exact Pur.pf;rfl))|refine aE ?_|refine aF ?_|(refine aL ?_ ?_ <;> intro hc hq <;> try (exfalso;omega))|(refine bS ?_ ?_ <;> intro hg hq <;> try (exfalso;omega))|fail)
 ·refine aD (l := [gG (cA ts ⟨s.slots.set x.y.toNat nA, s.cells, s.read⟩ x.x.toNat s.slots[x.y.toNat]!).1, iv (gk (cA ts ⟨s.slots.set x.y.toNat nA, s.cells, s.read⟩ x.x.toNat s.slots[x.y.toNat]!).2)]) rfl ⟨?_, by exact Pur.pf⟩
  rw [if_pos (Ms (.inr (by assumption)))]; rfl
 ·refine aD (l := [gG (cA ts s x.x.toNat s.slots[x.y.toNat]!).1, iv (gk (cA ts s x.x.toNat s.slots[x.y.toNat]!).2)]) rfl ⟨?_, by exact Pur.pf⟩
  rw [if_neg (O7 (by assumption) (by assumption))]; rfl
 ·refine aD (l := [gG (cA ts ⟨s.slots.set x.y.toNat nA, s.cells, s.read⟩ x.x.toNat s.slots[x.y.toNat]!).1, iv (gk (cA ts ⟨s.slots.set x.y.toNat nA, s.cells, s.read⟩ x.x.toNat s.slots[x.y.toNat]!).2)]) rfl ⟨?_, by exact Pur.pf⟩
  rw [if_pos (Ms (.inl (by assumption)))]; rfl
theorem GK (ts : List Int) (s : Mc) (x : Pnt) (u : Bool) (hu : u = decide (x.op = 5)) (hm : OkM s.cells) (hsl : s.slots.length = ts.length) (hx : 0 ≤ x.x ∧ x.x < ts.length) (hy : 0 ≤ x.y ∧ x.y < ts.length) (hl : ts.length ≤ 1000000) : PC Tryz.prog 251 [sl cI ts, gG s, dW x] (fun r => r = if mD s.cells s.slots[x.y.toNat]!.ptr u = 0 then
  .tup [gG (cA ts ⟨s.slots, n3 s.cells s.slots[x.y.toNat]!.ptr u, s.read⟩ x.x.toNat ⟨true, 0, sB s.cells s.slots[x.y.toNat]!.ptr u⟩).1, iv (gk (cA ts ⟨s.slots, n3 s.cells s.slots[x.y.toNat]!.ptr u, s.read⟩ x.x.toNat ⟨true, 0, sB s.cells s.slots[x.y.toNat]!.ptr u⟩).2)]
  else .tup [gG s, iv (fL (mD s.cells s.slots[x.y.toNat]!.ptr u))]) := by
 have hsh := yF s.cells hm s.slots[x.y.toNat]!.ptr
 have hbo := wH s.cells hm s.slots[x.y.toNat]!.ptr
 have hp1 := lS ts ⟨s.slots, n3 s.cells s.slots[x.y.toNat]!.ptr false, s.read⟩ x.x.toNat ⟨true, 0, sB s.cells s.slots[x.y.toNat]!.ptr false⟩ (hm.ln _ _) (by show _ < s.slots.length;omega) (by omega) (by show s.slots.length ≤ _; omega)
 have hp2 := lS ts ⟨s.slots, n3 s.cells s.slots[x.y.toNat]!.ptr true, s.read⟩ x.x.toNat ⟨true, 0, sB s.cells s.slots[x.y.toNat]!.ptr true⟩ (hm.ln _ _) (by show _ < s.slots.length;omega) (by omega) (by show s.slots.length ≤ _; omega)
 rw [Int.toNat_of_nonneg hx.1] at hp1 hp2
 refine aC Tryz.func251 Tryz.ntmps251 ?_
 repeat' (first|(apply aH;first|(apply aA (k := 274);rfl;exact hsh;exact Pur.pf;rfl)|(apply aA (k := 275);rfl;exact hbo;exact Pur.pf;rfl)|(apply aA (k := 248) (avs := [sl cI ts, gG ⟨s.slots, n3 s.cells s.slots[x.y.toNat]!.ptr false, s.read⟩, iv x.x, Jz ⟨true, 0, sB s.cells s.slots[x.y.toNat]!.ptr false⟩]);rfl;exact hp1;exact Pur.pf;rfl)|(apply aA (k := 248) (avs := [sl cI ts, gG ⟨s.slots, n3 s.cells s.slots[x.y.toNat]!.ptr true, s.read⟩, iv x.x, Jz ⟨true, 0, sB s.cells s.slots[x.y.toNat]!.ptr true⟩]);rfl;exact hp2;exact Pur.pf;rfl)|(apply aA (k := 246);rfl;(apply kV);(rfl);rfl))|refine aE ?_|refine aF ?_|(refine aL ?_ ?_ <;> intro hc hq <;> try (exfalso;omega))|refine bQ ?_|fail)
 ·have hk : ¬ mD s.cells s.slots[x.y.toNat]!.ptr true = 0 := by assumption
  have hu2 : u = true := by rw [hu]; exact decide_eq_true (by assumption)
  subst hu2
  refine aD (l := [.agg [sl dH s.slots, sl bO (n3 s.cells s.slots[x.y.toNat]!.ptr true), sl cI s.read], iv (if mD s.cells s.slots[x.y.toNat]!.ptr true = 1 then 3 else if mD s.cells s.slots[x.y.toNat]!.ptr true = 0 then 0 else 4)]) rfl ?_
  rw [y6 hk, if_neg hk, Mn hk]
  exact ⟨rfl, by exact Pur.pf⟩
 ·have hk : mD s.cells s.slots[x.y.toNat]!.ptr true = 0 := by assumption
  have hu2 : u = true := by rw [hu]; exact decide_eq_true (by assumption)
  subst hu2
  refine aD (l := [gG (cA ts ⟨s.slots, n3 s.cells s.slots[x.y.toNat]!.ptr true, s.read⟩ x.x.toNat ⟨true, 0, sB s.cells s.slots[x.y.toNat]!.ptr true⟩).1, iv (gk (cA ts ⟨s.slots, n3 s.cells s.slots[x.y.toNat]!.ptr true, s.read⟩ x.x.toNat ⟨true, 0, sB s.cells s.slots[x.y.toNat]!.ptr true⟩).2)]) rfl ⟨?_, by exact Pur.pf⟩
  rw [if_pos hk]; rfl
 ·have hk : ¬ mD s.cells s.slots[x.y.toNat]!.ptr false = 0 := by assumption
  have hu2 : u = false := by rw [hu]; exact decide_eq_false (by assumption)
  subst hu2
  refine aD (l := [.agg [sl dH s.slots, sl bO (n3 s.cells s.slots[x.y.toNat]!.ptr false), sl cI s.read], iv (if mD s.cells s.slots[x.y.toNat]!.ptr false = 1 then 3 else if mD s.cells s.slots[x.y.toNat]!.ptr false = 0 then 0 else 4)]) rfl ?_
  rw [y6 hk, if_neg hk, Mn hk]
  exact ⟨rfl, by exact Pur.pf⟩
 ·have hk : mD s.cells s.slots[x.y.toNat]!.ptr false = 0 := by assumption
  have hu2 : u = false := by rw [hu]; exact decide_eq_false (by assumption)
  subst hu2
  refine aD (l := [gG (cA ts ⟨s.slots, n3 s.cells s.slots[x.y.toNat]!.ptr false, s.read⟩ x.x.toNat ⟨true, 0, sB s.cells s.slots[x.y.toNat]!.ptr false⟩).1, iv (gk (cA ts ⟨s.slots, n3 s.cells s.slots[x.y.toNat]!.ptr false, s.read⟩ x.x.toNat ⟨true, 0, sB s.cells s.slots[x.y.toNat]!.ptr false⟩).2)]) rfl ⟨?_, by exact Pur.pf⟩
  rw [if_pos hk]; rfl
theorem Od (ts : List Int) (s : Mc) (x : Pnt) (ho : x.op = 1) (hm : OkM s.cells) (hsl : s.slots.length = ts.length) (hx : 0 ≤ x.x ∧ x.x < ts.length) (hl : ts.length ≤ 1000000) : PC Tryz.prog 215 [sl cI ts, gG s, dW x] (fun r => r = .tup [gG (dP ts s x).1, iv (gk (dP ts s x).2)]) := by
 have hp := lS ts s x.x.toNat ⟨true, x.n, ⟨0, 0⟩⟩ hm (by omega) (by omega) (by omega)
 rw [Int.toNat_of_nonneg hx.1] at hp
 have hd : dP ts s x = cA ts s x.x.toNat ⟨true, x.n, ⟨0, 0⟩⟩ := by unfold dP;rw [if_pos ho]
 rw [hd]
 refine aC Tryz.func215 Tryz.ntmps215 ?_
 repeat' (first|(apply aH;(apply aA (k := 248) (avs := [sl cI ts, gG s, iv x.x, Jz ⟨true, x.n, ⟨0, 0⟩⟩]);rfl;exact hp;exact Pur.pf;rfl))|refine aE ?_|refine aF ?_|(refine aL ?_ ?_ <;> intro hc hq <;> try (exfalso;omega))|fail)
 exact aD (l := [gG (cA ts s x.x.toNat ⟨true, x.n, ⟨0, 0⟩⟩).1, iv (gk (cA ts s x.x.toNat ⟨true, x.n, ⟨0, 0⟩⟩).2)]) rfl ⟨rfl, by exact Pur.pf⟩
theorem MN (ts : List Int) (s : Mc) (x : Pnt) (ho : x.op = 2) (hm : OkM s.cells) (hsl : s.slots.length = ts.length) (hx : 0 ≤ x.x ∧ x.x < ts.length) (hn : 0 ≤ x.n ∧ x.n ≤ 9) (hl : ts.length ≤ 1000000) : PC Tryz.prog 215 [sl cI ts, gG s, dW x] (fun r => r = .tup [gG (dP ts s x).1, iv (gk (dP ts s x).2)]) := by
 have hml := hm.l
 have hnc := Ch s.cells hm x.n
 by_cases h2 : s.cells.length = 200
 ·rw [if_neg (by omega)] at hnc
  have hd : dP ts s x = (s, 1) := by unfold dP;rw [if_neg (by omega), if_pos ho, if_pos h2]
  rw [hd]
  refine aC Tryz.func215 Tryz.ntmps215 ?_
  repeat' (first|(apply aH;(apply aA (k := 249);rfl;exact hnc;exact Pur.pf;rfl))|refine aE ?_|refine aF ?_|(refine aL ?_ ?_ <;> intro hc hq <;> try (exfalso;omega))|fail)
  exact aD (l := [gG s, iv 1]) rfl ⟨rfl, by exact Pur.pf⟩
 ·rw [if_pos (by omega)] at hnc
  have hp := lS ts ⟨s.slots, s.cells ++ [vY x.n], s.read⟩ x.x.toNat ⟨true, 0, ⟨s.cells.length, 0⟩⟩ (hm.nw hn (by omega)) (by show _ < s.slots.length;omega) (by omega) (by show s.slots.length ≤ _; omega)
  rw [Int.toNat_of_nonneg hx.1] at hp
  have hd : dP ts s x = cA ts ⟨s.slots, s.cells ++ [vY x.n], s.read⟩ x.x.toNat ⟨true, 0, ⟨s.cells.length, 0⟩⟩ := by unfold dP;rw [if_neg (by omega), if_pos ho, if_neg h2]
  rw [hd]
  refine aC Tryz.func215 Tryz.ntmps215 ?_
  repeat' (first|(apply aH;first|(apply aA (k := 249);rfl;exact hnc;exact Pur.pf;rfl)|(apply aA (k := 248) (avs := [sl cI ts, gG ⟨s.slots, s.cells ++ [vY x.n], s.read⟩, iv x.x, Jz ⟨true, 0, ⟨s.cells.length, 0⟩⟩]);rfl;exact hp;exact Pur.pf;rfl))|refine aE ?_|refine aF ?_|(refine aL ?_ ?_ <;> intro hc hq <;> try (exfalso;omega))|fail)
  exact aD (l := [gG (cA ts ⟨s.slots, s.cells ++ [vY x.n], s.read⟩ x.x.toNat ⟨true, 0, ⟨s.cells.length, 0⟩⟩).1, iv (gk (cA ts ⟨s.slots, s.cells ++ [vY x.n], s.read⟩ x.x.toNat ⟨true, 0, ⟨s.cells.length, 0⟩⟩).2)]) rfl ⟨rfl, by exact Pur.pf⟩
theorem MQ (ts : List Int) (s : Mc) (x : Pnt) (ho : x.op = 3) (hm : OkM s.cells) (hsl : s.slots.length = ts.length) (hx : 0 ≤ x.x ∧ x.x < ts.length) (hy : 0 ≤ x.y ∧ x.y < ts.length) (hl : ts.length ≤ 1000000) : PC Tryz.prog 215 [sl cI ts, gG s, dW x] (fun r => r = .tup [gG (dP ts s x).1, iv (gk (dP ts s x).2)]) := by
 have hmv := HI ts s x hm hsl hx hy hl
 have hd : dP ts s x = cA ts (if Au ts[x.y.toNat]! = true then ⟨s.slots.set x.y.toNat nA, s.cells, s.read⟩ else s) x.x.toNat s.slots[x.y.toNat]! := by unfold dP;rw [if_neg (by omega), if_neg (by omega), if_pos ho]
 rw [← hd] at hmv
 refine aC Tryz.func215 Tryz.ntmps215 ?_
 repeat' (first|(apply aH;(apply aA (k := 250);rfl;exact hmv;exact Pur.pf;rfl))|refine aE ?_|refine aF ?_|(refine aL ?_ ?_ <;> intro hc hq <;> try (exfalso;omega))|fail)
 exact aD (l := [gG (dP ts s x).1, iv (gk (dP ts s x).2)]) rfl ⟨rfl, by exact Pur.pf⟩
theorem Ke (ts : List Int) (s : Mc) (x : Pnt) (ho : x.op = 4 ∨ x.op = 5) (hm : OkM s.cells) (hsl : s.slots.length = ts.length) (hx : 0 ≤ x.x ∧ x.x < ts.length) (hy : 0 ≤ x.y ∧ x.y < ts.length) (hl : ts.length ≤ 1000000) : PC Tryz.prog 215 [sl cI ts, gG s, dW x] (fun r => r = .tup [gG (dP ts s x).1, iv (gk (dP ts s x).2)]) := by
 have hmk := GK ts s x (decide (x.op = 5)) rfl hm hsl hx hy hl
 have h0 : dP ts s x = (if mD s.cells s.slots[x.y.toNat]!.ptr (decide (x.op = 5)) = 0 then cA ts ⟨s.slots, n3 s.cells s.slots[x.y.toNat]!.ptr (decide (x.op = 5)), s.read⟩ x.x.toNat ⟨true, 0, sB s.cells s.slots[x.y.toNat]!.ptr (decide (x.op = 5))⟩
   else (s, fL (mD s.cells s.slots[x.y.toNat]!.ptr (decide (x.op = 5))))) := by
  unfold dP;rw [if_neg (show ¬ x.op = 1 by omega), if_neg (show ¬ x.op = 2 by omega), if_neg (show ¬ x.op = 3 by omega), if_pos ho]
 have hd : ∀ r, (r = if mD s.cells s.slots[x.y.toNat]!.ptr (decide (x.op = 5)) = 0 then
   AV.tup [gG (cA ts ⟨s.slots, n3 s.cells s.slots[x.y.toNat]!.ptr (decide (x.op = 5)), s.read⟩ x.x.toNat ⟨true, 0, sB s.cells s.slots[x.y.toNat]!.ptr (decide (x.op = 5))⟩).1, iv (gk (cA ts ⟨s.slots, n3 s.cells s.slots[x.y.toNat]!.ptr (decide (x.op = 5)), s.read⟩ x.x.toNat ⟨true, 0, sB s.cells s.slots[x.y.toNat]!.ptr (decide (x.op = 5))⟩).2)]
   else AV.tup [gG s, iv (fL (mD s.cells s.slots[x.y.toNat]!.ptr (decide (x.op = 5))))]) = (r = AV.tup [gG (dP ts s x).1, iv (gk (dP ts s x).2)]) := by
  intro r
  rw [h0]
  by_cases hk : mD s.cells s.slots[x.y.toNat]!.ptr (decide (x.op = 5)) = 0
  ·rw [if_pos hk, if_pos hk]
  ·rw [if_neg hk, if_neg hk]
   have : ∀ k, gk (fL k) = fL k := fun k => by unfold gk fL;split <;> rfl
   dsimp only
   rw [this]
 simp only [hd] at hmk
 refine aC Tryz.func215 Tryz.ntmps215 ?_
 repeat' (first|(apply aH;(apply aA (k := 251);rfl;exact hmk;exact Pur.pf;rfl))|refine aE ?_|refine aF ?_|(refine aL ?_ ?_ <;> intro hc hq <;> try (exfalso;omega))|fail)
 all_goals exact aD (l := [gG (dP ts s x).1, iv (gk (dP ts s x).2)]) rfl ⟨rfl, by exact Pur.pf⟩
theorem MJ (ts : List Int) (s : Mc) (x : Pnt) (ho : x.op = 6) (hm : OkM s.cells) (hsl : s.slots.length = ts.length) (hx : 0 ≤ x.x ∧ x.x < ts.length) (hy : 0 ≤ x.y ∧ x.y < ts.length) (hl : ts.length ≤ 1000000) (hrl : s.read.length ≤ 1000000) : PC Tryz.prog 215 [sl cI ts, gG s, dW x] (fun r => r = .tup [gG (dP ts s x).1, iv (gk (dP ts s x).2)]) := by
 have hrd := rE s.cells hm s.slots[x.y.toNat]!.ptr
 have h0 : dP ts s x = (if bF s.cells s.slots[x.y.toNat]!.ptr false = 0 then cA ts ⟨s.slots, dZ s.cells s.slots[x.y.toNat]!.ptr false, s.read ++ [pP s.cells s.slots[x.y.toNat]!.ptr]⟩ x.x.toNat ⟨true, pP s.cells s.slots[x.y.toNat]!.ptr, ⟨0, 0⟩⟩
   else (s, fL (bF s.cells s.slots[x.y.toNat]!.ptr false))) := by
  unfold dP;rw [if_neg (show ¬ x.op = 1 by omega), if_neg (show ¬ x.op = 2 by omega), if_neg (show ¬ x.op = 3 by omega), if_neg (show ¬ (x.op = 4 ∨ x.op = 5) by omega), if_pos ho]
 have hp := lS ts ⟨s.slots, dZ s.cells s.slots[x.y.toNat]!.ptr false, s.read ++ [pP s.cells s.slots[x.y.toNat]!.ptr]⟩ x.x.toNat ⟨true, pP s.cells s.slots[x.y.toNat]!.ptr, ⟨0, 0⟩⟩ (hm.tch _ _) (by show _ < s.slots.length;omega) (by omega) (by show s.slots.length ≤ _; omega)
 rw [Int.toNat_of_nonneg hx.1] at hp
 by_cases hk : bF s.cells s.slots[x.y.toNat]!.ptr false = 0
 ·rw [if_pos hk] at h0
  rw [h0]
  refine aC Tryz.func215 Tryz.ntmps215 ?_
  repeat' (first|(apply aH;first|(apply aA (k := 252);rfl;exact hrd;exact Pur.pf;rfl)|(with_reducible apply aX (d := 105)))|refine aE ?_|refine aF ?_|(refine aL ?_ ?_ <;> intro hc hq <;> try (exfalso;omega))|refine bQ ?_|fail)
  refine bV (c6 ?_ (Le.frzC (j := 0) (i := 6) [sl dH s.slots, sl bO (dZ s.cells s.slots[x.y.toNat]!.ptr false)] (m := 0 + s.read.length + 1) (d := flat cI (s.read ++ [pP s.cells s.slots[x.y.toNat]!.ptr])) rfl rfl (by decide)))
  have e : AV.imm (0 + s.read.length + 1) (flat cI (s.read ++ [pP s.cells s.slots[x.y.toNat]!.ptr])) = sl cI (s.read ++ [pP s.cells s.slots[x.y.toNat]!.ptr]) := fA (by rw [Nat.zero_add, List.length_append]; rfl)
  rw [e]
  repeat' (first|(apply aH;(apply aA (k := 248) (avs := [sl cI ts, gG ⟨s.slots, dZ s.cells s.slots[x.y.toNat]!.ptr false, s.read ++ [pP s.cells s.slots[x.y.toNat]!.ptr]⟩, iv x.x, Jz ⟨true, pP s.cells s.slots[x.y.toNat]!.ptr, ⟨0, 0⟩⟩]);rfl;exact hp;exact Pur.pf;rfl))|refine aE ?_|refine aF ?_|fail)
  exact aD (l := [gG (cA ts ⟨s.slots, dZ s.cells s.slots[x.y.toNat]!.ptr false, s.read ++ [pP s.cells s.slots[x.y.toNat]!.ptr]⟩ x.x.toNat ⟨true, pP s.cells s.slots[x.y.toNat]!.ptr, ⟨0, 0⟩⟩).1, iv (gk (cA ts ⟨s.slots, dZ s.cells s.slots[x.y.toNat]!.ptr false, s.read ++ [pP s.cells s.slots[x.y.toNat]!.ptr]⟩ x.x.toNat ⟨true, pP s.cells s.slots[x.y.toNat]!.ptr, ⟨0, 0⟩⟩).2)]) rfl ⟨rfl, by exact Pur.pf⟩
 ·rw [if_neg hk] at h0
  rw [h0]
  have e4 : dZ s.cells s.slots[x.y.toNat]!.ptr false = s.cells := by unfold dZ;rw [if_neg hk]
  rw [e4] at hrd
  refine aC Tryz.func215 Tryz.ntmps215 ?_
  repeat' (first|(apply aH;first|(apply aA (k := 252);rfl;exact hrd;exact Pur.pf;rfl)|(apply aA (k := 246);rfl;(apply kV);(rfl);rfl))|refine aE ?_|refine aF ?_|(refine aL ?_ ?_ <;> intro hc hq <;> try (exfalso;omega))|refine bQ ?_|fail)
  refine aD (l := [gG s, iv (if bF s.cells s.slots[x.y.toNat]!.ptr false = 1 then 3 else if bF s.cells s.slots[x.y.toNat]!.ptr false = 0 then 0 else 4)]) rfl ?_
  rw [y6 hk]
  have : ∀ k, gk (fL k) = fL k := fun k => by unfold gk fL;split <;> rfl
  dsimp only
  rw [this]
  exact ⟨rfl, by exact Pur.pf⟩
theorem M3 (ts : List Int) (s : Mc) (x : Pnt) (ho : x.op = 7) (hm : OkM s.cells) (hsl : s.slots.length = ts.length) (hx : 0 ≤ x.x ∧ x.x < ts.length) (hy : 0 ≤ x.y ∧ x.y < ts.length) (hl : ts.length ≤ 1000000) : PC Tryz.prog 215 [sl cI ts, gG s, dW x] (fun r => r = .tup [gG (dP ts s x).1, iv (gk (dP ts s x).2)]) := by
 have hwr := yT s.cells hm s.slots[x.x.toNat]!.ptr s.slots[x.y.toNat]!.num
 have h0 : dP ts s x = (⟨s.slots, Ax s.cells s.slots[x.x.toNat]!.ptr s.slots[x.y.toNat]!.num, s.read⟩, oN (x6 s.cells s.slots[x.x.toNat]!.ptr s.slots[x.y.toNat]!.num)) := by
  unfold dP;rw [if_neg (show ¬ x.op = 1 by omega), if_neg (show ¬ x.op = 2 by omega), if_neg (show ¬ x.op = 3 by omega), if_neg (show ¬ (x.op = 4 ∨ x.op = 5) by omega), if_neg (show ¬ x.op = 6 by omega), if_pos ho]
 rw [h0]
 refine aC Tryz.func215 Tryz.ntmps215 ?_
 repeat' (first|(apply aH;first|(apply aA (k := 253);rfl;exact hwr;exact Pur.pf;rfl)|(apply aA (k := 246);rfl;(apply kV);(rfl);rfl))|refine aE ?_|refine aF ?_|(refine aL ?_ ?_ <;> intro hc hq <;> try (exfalso;omega))|refine bQ ?_|fail)
 refine aD (l := [gG ⟨s.slots, Ax s.cells s.slots[x.x.toNat]!.ptr s.slots[x.y.toNat]!.num, s.read⟩, iv (if x6 s.cells s.slots[x.x.toNat]!.ptr s.slots[x.y.toNat]!.num = 1 then 3 else if x6 s.cells s.slots[x.x.toNat]!.ptr s.slots[x.y.toNat]!.num = 0 then 0 else 4)]) rfl ?_
 rw [← Hv]
 exact ⟨rfl, by exact Pur.pf⟩
theorem M5 (ts : List Int) (s : Mc) (x : Pnt) (ho : x.op = 8) (hm : OkM s.cells) (hsl : s.slots.length = ts.length) (hx : 0 ≤ x.x ∧ x.x < ts.length) (hl : ts.length ≤ 1000000) : PC Tryz.prog 215 [sl cI ts, gG s, dW x] (fun r => r = .tup [gG (dP ts s x).1, iv (gk (dP ts s x).2)]) := by
 have hfr := mY s.cells hm s.slots[x.x.toNat]!.ptr
 have hcl := qE ⟨s.slots, lV s.cells s.slots[x.x.toNat]!.ptr, s.read⟩ x.x.toNat (by show _ < s.slots.length;omega) (by show s.slots.length ≤ _; omega)
 rw [Int.toNat_of_nonneg hx.1] at hcl
 have h0 : dP ts s x = (⟨s.slots.set x.x.toNat nA, lV s.cells s.slots[x.x.toNat]!.ptr, s.read⟩, oN (bF s.cells s.slots[x.x.toNat]!.ptr true)) := by
  unfold dP;rw [if_neg (show ¬ x.op = 1 by omega), if_neg (show ¬ x.op = 2 by omega), if_neg (show ¬ x.op = 3 by omega), if_neg (show ¬ (x.op = 4 ∨ x.op = 5) by omega), if_neg (show ¬ x.op = 6 by omega), if_neg (show ¬ x.op = 7 by omega), if_pos ho]
 rw [h0]
 refine aC Tryz.func215 Tryz.ntmps215 ?_
 repeat' (first|(apply aH;first|(apply aA (k := 245);rfl;exact hfr;exact Pur.pf;rfl)|(apply aA (k := 247);rfl;exact hcl;exact Pur.pf;rfl)|(apply aA (k := 246);rfl;(apply kV);(rfl);rfl))|refine aE ?_|refine aF ?_|(refine aL ?_ ?_ <;> intro hc hq <;> try (exfalso;omega))|refine bQ ?_|fail)
 refine aD (l := [gG ⟨s.slots.set x.x.toNat nA, lV s.cells s.slots[x.x.toNat]!.ptr, s.read⟩, iv (if bF s.cells s.slots[x.x.toNat]!.ptr true = 1 then 3 else if bF s.cells s.slots[x.x.toNat]!.ptr true = 0 then 0 else 4)]) rfl ?_
 rw [← Hv]
 exact ⟨rfl, by exact Pur.pf⟩
def NO (s : Mc) (x : Pnt) : Bool :=
 if x.op = 3 ∨ x.op = 4 ∨ x.op = 5 ∨ x.op = 6 then !s.slots[x.y.toNat]!.set
 else if x.op = 7 then !s.slots[x.x.toNat]!.set || !s.slots[x.y.toNat]!.set
 else if x.op = 8 then !s.slots[x.x.toNat]!.set else false
theorem Ge (s : Mc) (x : Pnt) (hx : (x.op = 7 ∨ x.op = 8) → 0 ≤ x.x ∧ x.x < s.slots.length) (hy : (x.op = 3 ∨ x.op = 4 ∨ x.op = 5 ∨ x.op = 6 ∨ x.op = 7) → 0 ≤ x.y ∧ x.y < s.slots.length) : PC Tryz.prog 214 [dW x, gG s] (fun r => r = bv (NO s x)) := by
 refine aC Tryz.func214 Tryz.ntmps214 ?_
 repeat' (first|refine aE ?_|refine aF ?_|(refine aL ?_ ?_ <;> intro hc hq <;> try (exfalso;omega))|(refine bS ?_ ?_ <;> intro hg hq <;> try (exfalso;omega))|fail)
 all_goals (refine aD rfl ⟨?_, rfl⟩; simp only [aO, AV.v.injEq, Value.bool.injEq]; unfold NO;grind)
theorem z6 {ts : List Int} {n v : Nat} {q : Mc} (h : ¬ (ts[v]! = 2 ∧ q.slots[v]!.set = true)) : c5 ts (n + 1) v q = c5 ts n (v + 1) q := by
 rw [c5, if_neg h]
theorem IJ {ts : List Int} {n v : Nat} {q : Mc} (h : ts[v]! = 2 ∧ q.slots[v]!.set = true) (hk : bF q.cells q.slots[v]!.ptr true = 0) : c5 ts (n + 1) v q = c5 ts n (v + 1) ⟨q.slots.set v nA, lV q.cells q.slots[v]!.ptr, q.read⟩ := by
 rw [c5, if_pos h, if_pos hk]
theorem Jw {ts : List Int} {n v : Nat} {q : Mc} (h : ts[v]! = 2 ∧ q.slots[v]!.set = true) (hk : ¬ bF q.cells q.slots[v]!.ptr true = 0) : c5 ts (n + 1) v q = (⟨q.slots, lV q.cells q.slots[v]!.ptr, q.read⟩, fL (bF q.cells q.slots[v]!.ptr true)) := by
 rw [c5, if_pos h, if_neg hk]
theorem LC (ts : List Int) (s : Mc) (hm : OkM s.cells) (hsl : s.slots.length = ts.length) (hl : ts.length ≤ 1000000) : PC Tryz.prog 213 [sl cI ts, gG s] (fun r => r = .tup [gG (c5 ts ts.length 0 s).1, iv (c5 ts ts.length 0 s).2]) := by
 refine aC Tryz.func213 Tryz.ntmps213 ?_
 repeat' (first|refine aE ?_|refine aF ?_|fail)
 refine aI (σ := Nat × Mc) [0, 3, 4] [1] (fun k => [(6, iv (k.1 : Int))]) (fun k => [(0, some [sl dH k.2.slots, sl bO k.2.cells, sl cI k.2.read])]) (fun k => k.1 ≤ ts.length ∧ c5 ts (ts.length - k.1) k.1 k.2 = c5 ts ts.length 0 s ∧ OkM k.2.cells ∧ k.2.slots.length = ts.length) (fun k => ts.length - k.1) (0, s) ⟨Nat.zero_le _, rfl, hm, hsl⟩ ?_
 rintro ⟨v, q⟩ ⟨hv, hf, hmq, hlq⟩
 dsimp only at hv hf hmq hlq ⊢
 have hfr := mY q.cells hmq q.slots[v]!.ptr
 have hcl := fun h => qE ⟨q.slots, lV q.cells q.slots[v]!.ptr, q.read⟩ v h (by show q.slots.length ≤ _; omega)
 repeat' (first|(apply aH;first|(apply aA (k := 245);rfl;exact hfr;exact Pur.pf;rfl)|(apply aA (k := 247);rfl;(exact hcl (by show v < q.slots.length;omega));exact Pur.pf;rfl)|(apply aA (k := 246);rfl;(apply kV);(rfl);rfl))|refine aE ?_|refine aF ?_|(refine aL ?_ ?_ <;> intro hc hq <;> try (exfalso;omega))|(refine bS ?_ ?_ <;> intro hg hq <;> try (exfalso;omega))|refine bQ ?_|fail)
 ·(refine bB (v + 1, q) (Le.renA [(0, 0), (1, 1)]) ?_ ?_)
  ·refine ⟨by omega, ?_, hmq, hlq⟩
   dsimp only
   rw [← hf, show ts.length - v = (ts.length - (v + 1)) + 1 by omega, z6 (fun h => by
    have h2 : q.slots[v]!.set = false := by assumption
    rw [h2] at h;exact absurd h.2 (by decide))]
  ·dsimp only;omega
 ·have hk : ¬ bF q.cells q.slots[v]!.ptr true = 0 := by assumption
  have hq2 : c5 ts ts.length 0 s = (⟨q.slots, lV q.cells q.slots[v]!.ptr, q.read⟩, fL (bF q.cells q.slots[v]!.ptr true)) := by
   rw [← hf, show ts.length - v = (ts.length - (v + 1)) + 1 by omega, Jw ⟨by assumption, by assumption⟩ hk]
  rw [hq2]
  refine aD (l := [gG ⟨q.slots, lV q.cells q.slots[v]!.ptr, q.read⟩, iv (if bF q.cells q.slots[v]!.ptr true = 1 then 3 else if bF q.cells q.slots[v]!.ptr true = 0 then 0 else 4)]) rfl ?_
  rw [y6 hk]
  exact ⟨rfl, by exact Pur.pf⟩
 ·(refine bB (v + 1, ⟨q.slots.set v nA, lV q.cells q.slots[v]!.ptr, q.read⟩) (Le.renA [(0, 0), (1, 1)]) ?_ ?_)
  ·refine ⟨by omega, ?_, hmq.fr _, by show (q.slots.set v nA).length = _; rw [List.length_set]; exact hlq⟩
   dsimp only
   rw [← hf, show ts.length - v = (ts.length - (v + 1)) + 1 by omega, IJ ⟨by assumption, by assumption⟩ (by assumption)]
  ·dsimp only;omega
 ·(refine bB (v + 1, q) (Le.renA [(0, 0), (1, 1)]) ?_ ?_)
  ·refine ⟨by omega, ?_, hmq, hlq⟩
   dsimp only
   rw [← hf, show ts.length - v = (ts.length - (v + 1)) + 1 by omega, z6 (fun h => by
    have h2 : ¬ ts[v]! = 2 := by assumption
    exact h2 h.1)]
  ·dsimp only;omega
 ·have hve : v = ts.length := by omega
  have hq2 : c5 ts ts.length 0 s = (q, 0) := by rw [← hf, hve, Nat.sub_self]; rfl
  rw [hq2]
  exact aD (l := [gG q, iv 0]) rfl ⟨rfl, by exact Pur.pf⟩
theorem Aq (p : Prg) (hl : p.types.length ≤ 1000000) (hs : aS p.body ≤ 1000000) : PC Tryz.prog 151 [bY p] (fun r => r = sl cJ (if bG p = true then aB p else [])) := by
 have hval := fT p hl (by omega)
 have h2 := dK p hs
 refine aC Tryz.func151 Tryz.ntmps151 ?_
 repeat' (first|(apply aH;first|(apply aA (k := 61);rfl;exact hval;exact Pur.pf;rfl)|(apply aA (k := 132);rfl;exact h2;exact Pur.pf;rfl)|(apply aK (t := _);rfl;rfl;rfl;(rfl);rfl;rfl))|refine aE ?_|refine aF ?_|(refine aL ?_ ?_ <;> intro hc hq <;> try (exfalso;omega))|fail)
 ·refine aD rfl ⟨?_, (by (rfl))⟩
  rw [if_neg (by simp [hq])]; rfl
 ·refine aD rfl ⟨?_, (by (exact a8 _ _))⟩
  rw [if_pos hq]; rfl
def wm (pts : List Pnt) (n a : Nat) (cs : List Int) : List Int × Bool := ((g7 pts n a cs).1.map (fun a : Nat => (a : Int)), (g7 pts n a cs).2)
theorem Hn {pts : List Pnt} {n a : Nat} {cs : List Int} (h : pts[a]!.op = 11) : wm pts n a cs = ([(a : Int)], true) := by
 have e : g7 pts n a cs = ([a], true) := by cases n <;> (unfold g7;rw [if_pos h])
 unfold wm;rw [e]; rfl
theorem Jr {pts : List Pnt} {a : Nat} {cs : List Int} (h : ¬ pts[a]!.op = 11) : wm pts 0 a cs = ([], false) := by
 have e : g7 pts 0 a cs = ([], false) := by unfold g7;rw [if_neg h]
 unfold wm;rw [e]; rfl
theorem OG {pts : List Pnt} {n a : Nat} {cs : List Int} (h : ¬ pts[a]!.op = 11) : wm pts (n + 1) a cs = ((a : Int) :: (wm pts n (iX pts a cs).1 (iX pts a cs).2).1, (wm pts n (iX pts a cs).1 (iX pts a cs).2).2) := by
 unfold wm;rw [g7, if_neg h]; rfl
theorem Ml {pts : List Pnt} {a : Nat} {cs : List Int} (h : ¬ pts[a]!.next.length = 2) : iX pts a cs = ((pts[a]!.next[0]!).toNat, cs) := by
 unfold iX;rw [if_neg h]
theorem O4 {pts : List Pnt} {a u : Nat} {cs : List Int} (h : pts[a]!.next.length = 2) (hu : cs.length ≤ u) : iX pts a (cs.drop u) = ((pts[a]!.next[1]!).toNat, cs.drop (u + 1)) := by
 unfold iX;rw [if_pos h, List.drop_eq_nil_of_le hu, List.drop_eq_nil_of_le (by omega)]
theorem Mq {pts : List Pnt} {a u : Nat} {cs : List Int} (h : pts[a]!.next.length = 2) (hu : u < cs.length) : iX pts a (cs.drop u) = ((pts[a]!.next[if cs[u]!.tmod 2 = 0 then 0 else 1]!).toNat, cs.drop (u + 1)) := by
 have e : (cs[u]! % 2).toNat = if cs[u]!.tmod 2 = 0 then 0 else 1 := by
  by_cases q : cs[u]!.tmod 2 = 0
  ·rw [if_pos q, Int.emod_eq_zero_of_dvd (Int.dvd_of_tmod_eq_zero q)]; rfl
  ·rw [if_neg q]
   have : ¬ cs[u]! % 2 = 0 := fun q2 => q (Int.tmod_eq_zero_of_dvd (Int.dvd_of_emod_eq_zero q2))
   omega
 have e2 : cs.drop u = cs[u]! :: cs.drop (u + 1) := by rw [List.drop_eq_getElem_cons hu, bE _ _ hu]
 unfold iX
 rw [if_pos h, e2]
 dsimp only
 rw [e]
theorem pG {pts : List Pnt} {n a : Nat} {out cs cs2 : List Int} {b : Nat} {q : List Int × Bool} (h : ¬ pts[a]!.op = 11) (ho : out.length < n) (hs : iX pts a cs = (b, cs2)) (hq : q = (out ++ (wm pts (n - out.length) a cs).1, (wm pts (n - out.length) a cs).2)) :
  q = ((out ++ [(a : Int)]) ++ (wm pts (n - (out ++ [(a : Int)]).length) b cs2).1, (wm pts (n - (out ++ [(a : Int)]).length) b cs2).2) := by
 rw [hq, show n - out.length = (n - (out.length + 1)) + 1 by omega, OG h, hs, List.length_append, List.append_assoc]
 rfl
theorem CV (p : Prg) (cs : List Int) (n : Nat) (hv : bG p = true) (hl : p.types.length ≤ 1000000) (hs : aS p.body ≤ 1000000) (hn : n ≤ 1000) (hcl : cs.length ≤ 1000000) : PC Tryz.prog 212 [bY p, sl cI cs, iv (n : Int)] (fun r => r = .tup [sl cI (wm (aB p) n 0 cs).1, bv (wm (aB p) n 0 cs).2]) := by
 have hpo := Aq p hl hs
 rw [if_pos hv] at hpo
 have w := WG.of_valid hv
 have wa := WA.of_valid hv
 obtain ⟨pts, hpts⟩ : ∃ pts, pts = aB p := ⟨_, rfl⟩
 rw [← hpts] at hpo w wa ⊢
 have hpl := w.pl
 have hp0 := w.p0
 refine aC Tryz.func212 Tryz.ntmps212 ?_
 repeat' (first|(apply aH;(apply aA (k := 151);rfl;exact hpo;exact Pur.pf;rfl))|refine aE ?_|refine aF ?_|(refine aL ?_ ?_ <;> intro hc hq <;> try (exfalso;omega))|(refine bS ?_ ?_ <;> intro hg hq <;> try (exfalso;omega))|fail)
 refine aI (σ := Int × Nat × List Int × Nat) [1, 2, 9] [] (fun k => [(10, iv k.1), (11, iv (k.2.1 : Int)), (8, .own 1 0 k.2.2.2 1)]) (fun k => [(1, some (flat cI k.2.2.1))]) (fun k => (0 ≤ k.1 ∧ k.1 < pts.length) ∧ k.2.1 ≤ k.2.2.1.length ∧ k.2.2.1.length ≤ n ∧ k.2.2.2 = k.2.2.1.length ∧ wm pts n 0 cs = (k.2.2.1 ++ (wm pts (n - k.2.2.1.length) k.1.toNat (cs.drop k.2.1)).1, (wm pts (n - k.2.2.1.length) k.1.toNat (cs.drop k.2.1)).2)) (fun k => n + 1 - k.2.2.1.length) (0, 0, [], 0) ⟨⟨Int.le_refl _, by show (0 : Int) < _; omega⟩, Nat.le_refl _, Nat.zero_le _, rfl, rfl⟩ ?_
 rintro ⟨a, u, out, m⟩ ⟨⟨ha0, ha⟩, hu, ho, hm, hw⟩
 dsimp only at ha0 ha hu ho hm hw ⊢
 have hat : (a.toNat : Int) = a := Int.toNat_of_nonneg ha0
 have hnx := w.nx a.toNat (by omega)
 have hnl := w.nl a.toNat (by omega)
 have hn1 := wa.n a.toNat (by omega)
 have hk : ∀ k, k < pts[a.toNat]!.next.length → 0 ≤ pts[a.toNat]!.next[k]! ∧ pts[a.toNat]!.next[k]! < pts.length := fun k h => hnx _ (aY _ _ h)
 repeat' (first|(apply aH;(apply aK (t := _);rfl;rfl;rfl;exact (rfl:_=some [_]);rfl;rfl))|refine aE ?_|refine aF ?_|(refine aL ?_ ?_ <;> intro hc hq <;> try (exfalso;omega))|(refine bS ?_ ?_ <;> intro hg hq <;> try (exfalso;omega))|fail)
 ·have hop : ¬ pts[a.toNat]!.op = 11 := by assumption
  have e : wm pts n 0 cs = (out, false) := by rw [hw, show n - out.length = 0 by omega, Jr hop, List.append_nil]
  rw [e]
  (refine aR (Le.frzD (d := 6) (i := 1) rfl rfl) ?_; refine aD rfl ?_)
  refine ⟨?_, (by exact Pur.pf)⟩
  simp only [aO, sl]
  rw [hm]
 ·have hop : ¬ pts[a.toNat]!.op = 11 := by assumption
  have hst := pG hop (by omega) ((Mq (by omega) (by omega)).trans (by rw [if_pos (by assumption)])) hw
  rw [hat] at hst
  have hk := hk 0 (by omega)
  (refine bB (pts[a.toNat]!.next[0]!, u + 1, _, _) (Le.renA [(1, 3)]) ?_ ?_)
  ·refine ⟨hk, ?_, ?_, ?_, hst⟩ <;> (dsimp only;rw [List.length_append]; simp only [List.length_singleton]; omega)
  ·dsimp only;rw [List.length_append]; simp only [List.length_singleton]; omega
 ·have hop : ¬ pts[a.toNat]!.op = 11 := by assumption
  have hst := pG hop (by omega) ((Mq (by omega) (by omega)).trans (by rw [if_neg (by assumption)])) hw
  rw [hat] at hst
  have hk := hk 1 (by omega)
  (refine bB (pts[a.toNat]!.next[1]!, u + 1, _, _) (Le.renA [(1, 3)]) ?_ ?_)
  ·refine ⟨hk, ?_, ?_, ?_, hst⟩ <;> (dsimp only;rw [List.length_append]; simp only [List.length_singleton]; omega)
  ·dsimp only;rw [List.length_append]; simp only [List.length_singleton]; omega
 ·have hop : ¬ pts[a.toNat]!.op = 11 := by assumption
  have hst := pG hop (by omega) (O4 (by omega) (by omega)) hw
  rw [hat] at hst
  have hk := hk 1 (by omega)
  (refine bB (pts[a.toNat]!.next[1]!, u + 1, _, _) (Le.renA [(1, 3)]) ?_ ?_)
  ·refine ⟨hk, ?_, ?_, ?_, hst⟩ <;> (dsimp only;rw [List.length_append]; simp only [List.length_singleton]; omega)
  ·dsimp only;rw [List.length_append]; simp only [List.length_singleton]; omega
 ·have hop : ¬ pts[a.toNat]!.op = 11 := by assumption
  have hst := pG hop (by omega) (Ml (by omega)) hw
  rw [hat] at hst
  have hk := hk 0 (by omega)
  (refine bB (pts[a.toNat]!.next[0]!, u, _, _) (Le.renA [(1, 3)]) ?_ ?_)
  ·refine ⟨hk, ?_, ?_, ?_, hst⟩ <;> (dsimp only;rw [List.length_append]; simp only [List.length_singleton]; omega)
  ·dsimp only;rw [List.length_append]; simp only [List.length_singleton]; omega
 ·have hop : pts[a.toNat]!.op = 11 := by assumption
  have e : wm pts n 0 cs = (out ++ [a], true) := by rw [hw, Hn hop, hat]
  rw [e]
  (refine aR (Le.frzD (d := 6) (i := 3) rfl rfl) ?_; refine aD rfl ?_)
  refine ⟨?_, (by exact Pur.pf)⟩
  simp only [aO, sl]
  rw [hm, List.length_append]; rfl
theorem Mu {ts : List Int} {s : Mc} {x : Pnt} (hx : (x.op = 7 ∨ x.op = 8) → 0 ≤ x.x ∧ x.x < ts.length) (hy : (x.op = 3 ∨ x.op = 4 ∨ x.op = 5 ∨ x.op = 6 ∨ x.op = 7) → 0 ≤ x.y ∧ x.y < ts.length) : NO s x = cZ ts s x := by
 have hX : ∀ v : Nat, (v : Int) = x.x → v = x.x.toNat := fun v h => by omega
 have hY : ∀ v : Nat, (v : Int) = x.y → v = x.y.toNat := fun v h => by omega
 cases hu : cZ ts s x with
 | true =>
  obtain ⟨v, hv, hne, hs⟩ := AR hu
  unfold bD at hne
  unfold NO
  by_cases h3 : x.op = 3
  ·rw [if_pos h3] at hne
   by_cases e : (v : Int) = x.y
   ·rw [if_pos (.inl h3), ← hY v e, hs]; rfl
   ·rw [if_neg e] at hne;exact absurd rfl hne
  ·rw [if_neg h3] at hne
   by_cases h4 : x.op = 4 ∨ x.op = 5 ∨ x.op = 6
   ·rw [if_pos h4] at hne
    by_cases e : (v : Int) = x.y
    ·rw [if_pos (by omega), ← hY v e, hs]; rfl
    ·rw [if_neg e] at hne;exact absurd rfl hne
   ·rw [if_neg h4] at hne
    rw [if_neg (by omega)]
    by_cases h7 : x.op = 7
    ·rw [if_pos h7] at hne ⊢
     by_cases e : (v : Int) = x.x
     ·rw [← hX v e, hs]; rfl
     ·rw [if_neg e] at hne
      by_cases e2 : (v : Int) = x.y
      ·rw [← hY v e2, hs]; simp
      ·rw [if_neg e2] at hne;exact absurd rfl hne
    ·rw [if_neg h7] at hne ⊢
     by_cases h8 : x.op = 8
     ·rw [if_pos h8] at hne ⊢
      by_cases e : (v : Int) = x.x
      ·rw [← hX v e, hs]; rfl
      ·rw [if_neg e] at hne;exact absurd rfl hne
     ·rw [if_neg h8] at hne;exact absurd rfl hne
 | false =>
  have hS : ∀ v : Nat, v < ts.length → bD ts x v ≠ 0 → s.slots[v]!.set = true := fun v hv h => L5 hu hv h
  unfold NO
  by_cases h3 : x.op = 3
  ·have := hy (.inl h3)
   rw [if_pos (.inl h3), hS x.y.toNat (by omega) (by unfold bD;rw [if_pos h3, if_pos (by omega)]; split <;> decide)]; rfl
  ·by_cases h4 : x.op = 4 ∨ x.op = 5 ∨ x.op = 6
   ·have := hy (by omega)
    rw [if_pos (by omega), hS x.y.toNat (by omega) (by unfold bD;rw [if_neg h3, if_pos h4, if_pos (by omega)]; decide)]; rfl
   ·rw [if_neg (by omega)]
    by_cases h7 : x.op = 7
    ·have hy7 := hy (by omega)
     have hx7 := hx (.inl h7)
     rw [if_pos h7, hS x.x.toNat (by omega) (by unfold bD; rw [if_neg h3, if_neg h4, if_pos h7, if_pos (by omega)]; decide),
      hS x.y.toNat (by omega) (by unfold bD;rw [if_neg h3, if_neg h4, if_pos h7]; split;decide;rw [if_pos (by omega)]; decide)]; rfl
    ·rw [if_neg h7]
     by_cases h8 : x.op = 8
     ·have hx8 := hx (.inr h8)
      rw [if_pos h8, hS x.x.toNat (by omega) (by unfold bD;rw [if_neg h3, if_neg h4, if_neg h7, if_pos h8, if_pos (by omega)]; decide)]; rfl
     ·rw [if_neg h8]
theorem Dr (k : Int) : oN k ≠ 0 := by
 unfold oN fL;split
 ·decide
 ·split <;> decide
theorem DQ (k : Int) : fL k ≠ 0 := by unfold fL; split <;> decide
theorem oW {ts : List Int} {s : Mc} {v : Nat} {y : Sl} : (cA ts s v y).2 ≠ 0 := by
 unfold cA;split
 ·exact Dr _
 ·show (-1 : Int) ≠ 0;decide
theorem Ok {ts : List Int} {s : Mc} {x : Pnt} (h : x.op ≠ 11) : (dP ts s x).2 ≠ 0 := by
 unfold dP
 split
 ·exact oW
 split
 ·split
  ·show (1 : Int) ≠ 0;decide
  ·exact oW
 split
 ·exact oW
 split
 ·split
  ·exact oW
  ·exact DQ _
 split
 ·split
  ·exact oW
  ·exact DQ _
 split
 ·exact Dr _
 split
 ·exact Dr _
 show (-1 : Int) ≠ 0;decide
theorem OP {ts : List Int} {s : Mc} {x : Pnt} (h : x.op ≠ 11) : gk (dP ts s x).2 = 0 ↔ (dP ts s x).2 = -1 := by
 have := Ok (ts := ts) (s := s) h
 unfold gk;split
 ·simp [*]
 ·constructor <;> (intro q;contradiction)
theorem Nx (ts : List Int) (s : Mc) (x : Pnt) (ho : x.op = 9 ∨ x.op = 10) : PC Tryz.prog 215 [sl cI ts, gG s, dW x] (fun r => r = .tup [gG (dP ts s x).1, iv (gk (dP ts s x).2)]) := by
 have h0 : dP ts s x = (s, -1) := by
  unfold dP;rw [if_neg (show ¬ x.op = 1 by omega), if_neg (show ¬ x.op = 2 by omega), if_neg (show ¬ x.op = 3 by omega), if_neg (show ¬ (x.op = 4 ∨ x.op = 5) by omega), if_neg (show ¬ x.op = 6 by omega), if_neg (show ¬ x.op = 7 by omega), if_neg (show ¬ x.op = 8 by omega), if_neg (show ¬ x.op = 11 by omega)]
 rw [h0]
 refine aC Tryz.func215 Tryz.ntmps215 ?_
 repeat' (first|refine aE ?_|refine aF ?_|(refine aL ?_ ?_ <;> intro hc hq <;> try (exfalso;omega))|fail)
 exact aD (l := [gG s, iv 0]) rfl ⟨rfl, by exact Pur.pf⟩
theorem Nl (ts : List Int) (s : Mc) (x : Pnt) (h11 : x.op ≠ 11) (hop : 1 ≤ x.op ∧ x.op ≤ 11) (hm : OkM s.cells) (hsl : s.slots.length = ts.length) (hx : x.op ≤ 8 → 0 ≤ x.x ∧ x.x < ts.length) (hy : 3 ≤ x.op → x.op ≤ 7 → 0 ≤ x.y ∧ x.y < ts.length) (hn : x.op = 2 → 0 ≤ x.n ∧ x.n ≤ 9) (hl : ts.length ≤ 1000000) (hrl : s.read.length ≤ 1000000) : PC Tryz.prog 215 [sl cI ts, gG s, dW x] (fun r => r = .tup [gG (dP ts s x).1, iv (gk (dP ts s x).2)]) := by
 by_cases h1 : x.op = 1
 ·exact Od ts s x h1 hm hsl (hx (by omega)) hl
 by_cases h2 : x.op = 2
 ·exact MN ts s x h2 hm hsl (hx (by omega)) (hn h2) hl
 by_cases h3 : x.op = 3
 ·exact MQ ts s x h3 hm hsl (hx (by omega)) (hy (by omega) (by omega)) hl
 by_cases h4 : x.op = 4 ∨ x.op = 5
 ·exact Ke ts s x h4 hm hsl (hx (by omega)) (hy (by omega) (by omega)) hl
 by_cases h6 : x.op = 6
 ·exact MJ ts s x h6 hm hsl (hx (by omega)) (hy (by omega) (by omega)) hl hrl
 by_cases h7 : x.op = 7
 ·exact M3 ts s x h7 hm hsl (hx (by omega)) (hy (by omega) (by omega)) hl
 by_cases h8 : x.op = 8
 ·exact M5 ts s x h8 hm hsl (hx (by omega)) hl
 ·exact Nx ts s x (by omega)
theorem kT {ts : List Int} {s : Mc} {v : Nat} {y : Sl} : (cA ts s v y).1.read = s.read := by unfold cA; split <;> rfl
theorem AD {ts : List Int} {s : Mc} {x : Pnt} (h : x.op ≠ 11) : (dP ts s x).1.read.length ≤ s.read.length + 1 := by
 unfold dP
 split
 ·rw [kT]; omega
 split
 ·split
  ·dsimp only;omega
  ·rw [kT]; dsimp only;omega
 split
 ·rw [kT]; split <;> (first|omega|(dsimp only;omega))
 split
 ·split
  ·rw [kT]; dsimp only;omega
  ·dsimp only;omega
 split
 ·split
  ·rw [kT]; dsimp only;rw [List.length_append]; simp only [List.length_singleton]; omega
  ·dsimp only;omega
 split
 ·dsimp only;omega
 split
 ·dsimp only;omega
 dsimp only;omega
theorem Ed (pts : List Pnt) : ∀ n a cs, (g7 pts n a cs).2 = true → ∃ l b, (g7 pts n a cs).1 = l ++ [b] ∧ pts[b]!.op = 11
 | 0, a, cs, h => by
  unfold g7 at h ⊢
  by_cases e : pts[a]!.op = 11
  ·rw [if_pos e]; exact ⟨[], a, rfl, e⟩
  ·rw [if_neg e] at h;exact absurd h (by decide)
 | n + 1, a, cs, h => by
  rw [g7] at h ⊢
  by_cases e : pts[a]!.op = 11
  ·rw [if_pos e]; exact ⟨[], a, rfl, e⟩
  ·rw [if_neg e] at h ⊢
   obtain ⟨l, b, h1, h2⟩ := Ed pts n _ _ h
   exact ⟨a :: l, b, by dsimp only;rw [h1]; rfl, h2⟩
theorem NA {s : Mc} {x : Pnt} (h : x.op = 11) : NO s x = false := by
 unfold NO;rw [if_neg (by omega), if_neg (by omega), if_neg (by omega)]
theorem Ls (p : Prg) (cs : List Int) (n : Nat) (hv : bG p = true) (hl : p.types.length ≤ 1000000) (hs : aS p.body ≤ 1000000) (hn : n ≤ 150) (hcl : cs.length ≤ 1000000) (hL : ∀ a ∈ (g7 (aB p) n 0 cs).1, a < (aB p).length) (hLl : (g7 (aB p) n 0 cs).1.length ≤ 151) : PC Tryz.prog 154 [bY p, sl cI cs, iv (n : Int)] (fun r => r = .tup [gG (j1 p.types (aB p) cs n).1, iv (j1 p.types (aB p) cs n).2.1, iv (j1 p.types (aB p) cs n).2.2]) := by
 have hpo := dK p hs
 have hru := CV p cs n hv hl hs (by omega) hcl
 have w := WG.of_valid hv
 have wa := WA.of_valid hv
 obtain ⟨q, hq⟩ : ∃ q, q = j1 p.types (aB p) cs n := ⟨_, rfl⟩
 rw [← hq]
 unfold j1 at hq
 unfold wm at hru
 obtain ⟨L, hLe⟩ : ∃ L, L = (g7 (aB p) n 0 cs).1 := ⟨_, rfl⟩
 obtain ⟨dn, hdn⟩ : ∃ dn, dn = (g7 (aB p) n 0 cs).2 := ⟨_, rfl⟩
 rw [← hLe, ← hdn] at hru
 rw [← hLe] at hq hL hLl
 have hgx : ∀ i, i < L.length → (L.map (fun a : Nat => (a : Int)))[i]! = (L[i]! : Int) := fun i h => by rw [bE _ _ (by rw [List.length_map]; exact h), List.getElem_map, bE _ _ h]
 have hml : (L.map (fun a : Nat => (a : Int))).length = L.length := List.length_map _
 generalize (L.map (fun a : Nat => (a : Int))) = LI at *
 generalize hP : aB p = pts at *
 have e1 : AV.imm p.types.length ((List.replicate p.types.length ([Value.bool false, Value.int .i64 0, Value.int .i64 0, Value.int .i64 0].map AV.v)).flatten) = sl dH (List.replicate p.types.length nA) := by
  rw [uE (f := dH) (x := nA) (l := [Value.bool false, Value.int .i64 0, Value.int .i64 0, Value.int .i64 0].map AV.v) rfl]; exact fA (by simp)
 refine aC Tryz.func154 Tryz.ntmps154 ?_
 repeat' (first|(apply aH;first|(apply aA (k := 132);rfl;exact hpo;exact Pur.pf;rfl)|(with_reducible apply aX (d := 27))|(apply aK (t := _);rfl;rfl;rfl;(rfl);rfl;rfl))|refine aE ?_|refine aF ?_|fail)
 refine bV (c6 ?_ (Le.frzD (d := 24) (i := 2) rfl rfl))
 rw [e1]
 repeat' (first|(apply aH;(apply aA (k := 212);rfl;exact hru;exact Pur.pf;rfl))|refine aE ?_|refine aF ?_|fail)
 refine aI (σ := Nat × Mc) [3, 6, 9, 10, 11, 12] [0, 1] (fun k => [(13, iv (k.1 : Int))]) (fun k => [(5, some [sl dH k.2.slots, sl bO k.2.cells, sl cI k.2.read])]) (fun k => k.1 ≤ L.length ∧ nV p.types pts (L.drop k.1) k.2 (if k.1 = 0 then 0 else L[k.1 - 1]!) = q ∧ OkS p.types.length k.2 ∧ k.2.read.length ≤ k.1 ∧ (∀ j, j < k.1 → pts[L[j]!]!.op ≠ 11)) (fun k => L.length - k.1) (0, mc0 p.types.length) ⟨Nat.zero_le _, by rw [hq]; rfl, OkS.mc0 _, Nat.le_refl _, fun j h => absurd h (by omega)⟩ ?_
 rintro ⟨i, s⟩ ⟨hi, hf, hok, hrd, h11⟩
 dsimp only at hi hf hok hrd h11 ⊢
 have hil : i < L.length → L[i]! < pts.length := fun h => hL _ (aY _ _ h)
 have hex := fun h => LC p.types s hok.m hok.l h
 by_cases hiL : i < L.length
 ·have hap := hil hiL
  have hop := w.op L[i]! hap
  have hwx := w.x L[i]! hap
  have hwy := w.y L[i]! hap
  have hA := wa.a L[i]! hap
  have hg := hgx i hiL
  have hen := hex hl
  have hun := Ge s pts[L[i]!]! (fun h => by have := hok.l;omega) (fun h => by have := hok.l;omega)
  have hun2 := Mu (ts := p.types) (s := s) (x := pts[L[i]!]!) (fun h => by omega) (fun h => by omega)
  rw [hun2] at hun
  have hdo := fun h => Nl p.types s pts[L[i]!]! h hop hok.m hok.l (fun h => by omega) (fun h h2 => by omega) (fun h => hA.n (.inr h)) hl (by omega)
  repeat' (first|(apply aH;(with_reducible apply aX (d := 46)))|refine aE ?_|refine aF ?_|(refine aL ?_ ?_ <;> intro hc hq <;> try (exfalso;omega))|fail)
  refine bV ?_
  rw [hg]
  repeat' (first|(apply aH;first|(apply aA (k := 213);rfl;exact hen;exact Pur.pf;rfl)|(apply aA (k := 214);rfl;exact hun;exact Pur.pf;rfl)|(apply aA (k := 215);rfl;exact hdo (by assumption);exact Pur.pf;rfl))|refine aE ?_|refine aF ?_|(refine aL ?_ ?_ <;> intro hc hq <;> try (exfalso;omega))|refine bQ ?_|fail)
  all_goals have hdr : L.drop i = L[i]! :: L.drop (i + 1) := by rw [List.drop_eq_getElem_cons hiL, bE _ _ hiL]
  all_goals rw [hdr] at hf
  ·have ho : pts[L[i]!]!.op = 11 := by assumption
   have hqq : q = ((c5 p.types p.types.length 0 s).1, (c5 p.types p.types.length 0 s).2, L[i]!) := by
    rw [← hf, nV, if_neg (by rw [← hun2, NA ho]; decide), Iv ho, if_neg (by have := yV p.types p.types.length 0 s;omega)]
   rw [hqq]
   refine aD (l := [gG (c5 p.types p.types.length 0 s).1, iv (c5 p.types p.types.length 0 s).2, iv LI[i]!]) rfl ?_
   rw [hg]
   exact ⟨rfl, by exact Pur.pf⟩
  ·have hu : cZ p.types s pts[L[i]!]! = true := by assumption
   have hqq : q = (s, 2, L[i]!) := by rw [← hf, nV, if_pos hu]
   rw [hqq]
   refine aD (l := [gG s, iv 2, iv LI[i]!]) rfl ?_
   rw [hg]
   exact ⟨rfl, by exact Pur.pf⟩
  ·have ho : ¬ pts[L[i]!]!.op = 11 := by assumption
   have hu : cZ p.types s pts[L[i]!]! = false := by assumption
   have hk : ¬ gk (dP p.types s pts[L[i]!]!).2 = 0 := by assumption
   have hk2 : ¬ (dP p.types s pts[L[i]!]!).2 = -1 := fun e => hk ((OP ho).2 e)
   have hqq : q = ((dP p.types s pts[L[i]!]!).1, (dP p.types s pts[L[i]!]!).2, L[i]!) := by rw [← hf, nV, if_neg (by rw [hu]; decide), if_neg hk2]
   rw [hqq]
   refine aD (l := [gG (dP p.types s pts[L[i]!]!).1, iv (gk (dP p.types s pts[L[i]!]!).2), iv LI[i]!]) rfl ?_
   rw [hg, show gk (dP p.types s pts[L[i]!]!).2 = (dP p.types s pts[L[i]!]!).2 by unfold gk;rw [if_neg hk2]]
   exact ⟨rfl, by exact Pur.pf⟩
  ·have ho : ¬ pts[L[i]!]!.op = 11 := by assumption
   have hu : cZ p.types s pts[L[i]!]! = false := by assumption
   have hk2 : (dP p.types s pts[L[i]!]!).2 = -1 := (OP ho).1 (by assumption)
   (refine bB (i + 1, (dP p.types s pts[L[i]!]!).1) (Le.renA [(0, 0), (1, 1), (5, 5)]) ?_ ?_)
   ·refine ⟨by dsimp only; omega, ?_, hok.do ⟨fun h => hA.n (.inr h)⟩, ?_, ?_⟩
    ·dsimp only
     rw [← hf, if_neg (by omega), show i + 1 - 1 = i by omega, nV, if_neg (by rw [hu]; decide), if_pos hk2]
    ·dsimp only;have := AD (ts := p.types) (s := s) ho;omega
    ·intro j hj
     rcases Nat.lt_or_ge j i with h|h
     ·exact h11 j h
     ·rw [show j = i by omega]; exact ho
   ·dsimp only;omega
 ·repeat' (first | refine aE ?_ | refine aF ?_ | (refine aL ?_ ?_ <;> intro hc hq <;> try (exfalso; omega)) | (refine bS ?_ ?_ <;> intro hg hq <;> try (exfalso; omega)) | refine bQ ?_|fail)
  all_goals have hie : i = L.length := by omega
  all_goals have hqq : q = (s, 1, if i = 0 then 0 else L[i - 1]!) := by rw [← hf, hie, List.drop_length]; rfl
  ·rw [hqq, if_neg (by omega)]
   refine aD (l := [gG s, iv 1, iv LI[((LI.length : Int) - 1).toNat]!]) rfl ?_
   rw [show ((LI.length : Int) - 1).toNat = i - 1 by omega, hgx (i - 1) (by omega)]
   exact ⟨rfl, by exact Pur.pf⟩
  ·rw [hqq, if_pos (by omega)]
   exact aD (l := [gG s, iv 1, iv 0]) rfl ⟨rfl, by exact Pur.pf⟩
  ·exfalso
   have hd1 : dn = true := by assumption
   obtain ⟨l, b, e1, e2⟩ := Ed pts n 0 cs (by rw [← hdn]; exact hd1)
   rw [← hLe] at e1
   have hlen : L.length = l.length + 1 := by rw [e1, List.length_append]; rfl
   have hb : L[l.length]! = b := by rw [bE _ _ (by omega)]; simp [e1]
   have := h11 l.length (by omega)
   rw [hb] at this
   exact this e2
theorem Cu {ts : List Int} {pts : List Pnt} (w : WG ts pts) (A : WA ts pts) : ∀ n a cs, a < pts.length → ∀ x ∈ (g7 pts n a cs).1, x < pts.length
 | 0, a, cs, ha, x, hx => by
  unfold g7 at hx
  by_cases e : pts[a]!.op = 11
  ·rw [if_pos e] at hx;rw [List.mem_singleton.1 hx]; exact ha
  ·rw [if_neg e] at hx;exact absurd hx (by simp)
 | n + 1, a, cs, ha, x, hx => by
  rw [g7] at hx
  by_cases e : pts[a]!.op = 11
  ·rw [if_pos e] at hx;rw [List.mem_singleton.1 hx]; exact ha
  ·rw [if_neg e] at hx
   rcases List.mem_cons.1 hx with h|h
   ·rw [h]; exact ha
   ·have he := GJ w A ha e cs
    have := w.nx a ha _ he.2
    exact Cu w A n _ _ (by omega) x h
theorem sI {pts : List Pnt} : ∀ n a cs, (g7 pts n a cs).1.length ≤ n + 1
 | 0, a, cs => by unfold g7;split <;> simp
 | n + 1, a, cs => by
  rw [g7]; split
  ·simp
  ·have := sI (pts := pts) n (iX pts a cs).1 (iX pts a cs).2
   dsimp only;rw [List.length_cons]; omega
theorem IU (p : Prg) (cs : List Int) (n : Nat) (hv : bG p = true) (hl : p.types.length ≤ 1000000) (hs : aS p.body ≤ 1000000) (hn : n ≤ 150) (hcl : cs.length ≤ 1000000) : PC Go.Proofs.Tryz.prog 154 [bY p, sl cI cs, iv (n : Int)] (fun r => r = .tup [gG (j1 p.types (aB p) cs n).1, iv (j1 p.types (aB p) cs n).2.1, iv (j1 p.types (aB p) cs n).2.2]) :=
 Ls p cs n hv hl hs hn hcl (Cu (WG.of_valid hv) (WA.of_valid hv) n 0 cs (WG.of_valid hv).p0) (by have := sI (pts := aB p) n 0 cs;omega)
def DN (p : Prg) (most : Int) : Bool := bG p && (decide (0 ≤ most) && decide (most ≤ 150))
theorem FM (p : Prg) (most : Int) (hl : p.types.length ≤ 1000000) (hs : aS p.body ≤ 1000000) : PC Tryz.prog 153 [bY p, iv most] (fun r => r = bv (DN p most)) := by
 have hval := fT p hl (by omega)
 refine aC Tryz.func153 Tryz.ntmps153 ?_
 repeat' (first|(apply aH;(apply aA (k := 61);rfl;exact hval;exact Pur.pf;rfl))|refine aE ?_|refine aF ?_|(refine bS ?_ ?_ <;> intro hg hq <;> try (exfalso;omega))|fail)
 all_goals (refine aD rfl ⟨?_, rfl⟩; simp only [aO, AV.v.injEq, Value.bool.injEq]; unfold DN;grind)
theorem v7 (p : Prg) (cs : List Int) (most : Int) (hl : p.types.length ≤ 1000000) (hs : aS p.body ≤ 1000000) (hcl : cs.length ≤ 1000000) : PC Tryz.prog 84 [bY p, sl cI cs, iv most] (fun r => r = .tup (if DN p most = true then [iv (j1 p.types (aB p) cs most.toNat).2.1, iv (j1 p.types (aB p) cs most.toNat).2.2] else [iv 5, iv 0])) := by
 have hrt := FM p most hl hs
 by_cases h : DN p most = true
 ·have h' := h
  unfold DN at h'
  simp only [Bool.and_eq_true, decide_eq_true_eq] at h'
  obtain ⟨hv, h0, h1⟩ := h'
  have hru := IU p cs most.toNat hv hl hs (by omega) hcl
  rw [Int.toNat_of_nonneg h0] at hru
  rw [h] at hrt
  rw [if_pos h]
  refine aC Tryz.func84 Tryz.ntmps84 ?_
  repeat' (first|(apply aH;first|(apply aA (k := 153);rfl;exact hrt;exact Pur.pf;rfl)|(apply aA (k := 154);rfl;exact hru;exact Pur.pf;rfl))|refine aE ?_|refine aF ?_|fail)
  exact aD (l := [iv (j1 p.types (aB p) cs most.toNat).2.1, iv (j1 p.types (aB p) cs most.toNat).2.2]) rfl ⟨rfl, rfl⟩
 ·rw [if_neg h]
  have h2 : DN p most = false := by simpa using h
  rw [h2] at hrt
  refine aC Tryz.func84 Tryz.ntmps84 ?_
  repeat' (first|(apply aH;(apply aA (k := 153);rfl;exact hrt;exact Pur.pf;rfl))|refine aE ?_|refine aF ?_|fail)
  exact aD (l := [iv 5, iv 0]) rfl ⟨rfl, rfl⟩
theorem Oz {p : Prg} {cs : List Int} {n : Nat} (hv : bG p = true) : OkS p.types.length (j1 p.types (aB p) cs n).1 := by
 have wa := WA.of_valid hv
 have hp : ∀ a : Nat, PtN (aB p)[a]! := fun a => by
  by_cases h : a < (aB p).length
  ·exact ⟨fun e => (wa.a a h).n (.inr e)⟩
  ·refine ⟨fun e => ?_⟩
   rw [GP, dif_neg h] at e
   exact absurd e (by decide)
 exact OkS.run hp _ _ _ (OkS.mc0 _)
theorem BO {ts : List Int} {s : Mc} {x : Pnt} : (dP ts s x).1.read.length ≤ s.read.length + 1 := by
 by_cases h : x.op = 11
 ·rw [Iv h, uC]; omega
 ·exact AD h
theorem xK (ts : List Int) (pts : List Pnt) : ∀ (l : List Nat) (s : Mc) (last : Nat), (nV ts pts l s last).1.read.length ≤ s.read.length + l.length
 | [], s, last => by unfold nV;simp
 | a :: l, s, last => by
  have h := BO (ts := ts) (s := s) (x := pts[a]!)
  unfold nV;split
  ·dsimp only;omega
  ·split
   ·have := xK ts pts l (dP ts s pts[a]!).1 a
    rw [List.length_cons]; omega
   ·rw [List.length_cons]; dsimp only;omega
theorem CW {ts : List Int} {pts : List Pnt} {cs : List Int} {n : Nat} (hn : n ≤ 150) : (j1 ts pts cs n).1.read.length ≤ 151 := by
 have h := xK ts pts (g7 pts n 0 cs).1 (mc0 ts.length) 0
 have h2 := sI (pts := pts) n 0 cs
 have h3 : (mc0 ts.length).read.length = 0 := rfl
 unfold j1;omega
theorem Pb : Go.Proofs.Tryz.prog.underlying 280 = some (.map 3 4) := by kernel_rfl
theorem Pw : Go.Proofs.Tryz.prog.underlying 3 = some (.int .i64) := by kernel_rfl
theorem Pm : (Go.Proofs.Tryz.prog.info? 4).bind (·.zero) = some (.bool false) := by kernel_rfl
theorem Ph {a b c : Int} (h : a ≤ b ∧ b ≤ c) : (!(decide (a ≤ b) && decide (b ≤ c))) = false := by simp [h.1, h.2]
theorem hU (m : List Cl) (hm : OkM m) : PC Tryz.prog 239 [sl bO m] (fun r => r = bv true) := by
 have hml := hm.l
 refine aC Tryz.func239 Tryz.ntmps239 ?_
 repeat' (first|refine aE ?_|refine aF ?_|(refine aL ?_ ?_ <;> intro hc hq <;> try (exfalso;omega))|fail)
 all_goals (try (exfalso;omega))
 refine aI (σ := Nat) [11, 12] [] (fun i => [(13, iv (i : Int))]) (fun i => []) (fun i => i ≤ m.length) (fun i => m.length - i) (0) (Nat.zero_le _) ?_
 rintro i hi
 by_cases hin : i < m.length
 ·have hc := (c8 m).1 hm |>.2 i hin
  obtain ⟨h1, h2, h3, h4, h5⟩ := (oR _).1 hc
  repeat' (first|(apply aH;(apply aA (k := 54);rfl;(apply dN);(rfl);rfl))|(apply DV;with_reducible apply HU)|refine aE ?_|refine aF ?_|(refine aL ?_ ?_ <;> intro hc hq <;> try (exfalso;omega))|(refine bS ?_ ?_ <;> intro hg hq <;> try (exfalso;omega))|fail)
  ·exfalso
   have hu : m[i]!.stk[Int.toNat 0]!.uq = false := by assumption
   rw [show Int.toNat 0 = 0 from rfl, h4] at hu;exact absurd hu (by decide)
  ·refine MY (HE rfl (fun r => ?_))
   refine BY ?_
   repeat' (first|refine aE ?_|fail)
   refine ⟨rfl, rfl, ?_⟩
   refine k6 (pL ?_)
   repeat' (first|refine aE ?_|refine aF ?_|fail)
   show sE _ _ _ _ _ _ _
   refine x5 ?_
   refine E9 (σ := Nat) [4, 5, 11, 12, 13, 44, 45] [(4, _), (5, _), (11, _), (12, _), (13, _), (44, _), (45, _)] [0] [(0, some _)] (fun k => [(46, iv (k : Int))]) (fun k => []) (fun k => (m[i]!.stk.take k).map (·.id)) (fun k => k ≤ m[i]!.stk.length) (fun k => m[i]!.stk.length - k) (0) (Nat.zero_le _) (rfl) rfl rfl (by repeat' (first|exact trivial|refine And.intro rfl ?_)) (by repeat' (exact trivial)) ?_
   rintro k hk
   refine k6 (pL ?_)
   repeat' (first|refine aE ?_|refine aF ?_|fail)
   show sE _ _ _ _ _ _ _
   refine k6 (B2 rfl (fun hb => Bw ?_) (fun hb => GS ?_))
   ·show sE _ _ _ _ _ _ _
    have hkl : k < m[i]!.stk.length := by have := of_decide_eq_true hb;omega
    obtain ⟨g1, g2, g3⟩ := h5 k hkl
    have hw := Ph (a := 0) (b := m[i]!.stk[k]!.id) (c := m[i]!.next - 1) ⟨g1, by omega⟩
    have hni : m[i]!.stk[k]!.id ∉ (m[i]!.stk.take k).map (·.id) := fun q => by
     obtain ⟨t, ht, e⟩ := List.mem_map.1 q
     obtain ⟨j, hj, rfl⟩ := List.getElem_of_mem ht
     rw [List.length_take] at hj
     have f := u9 (stk := m[i]!.stk) (id := m[i]!.stk[k]!.id) (by omega) j (by omega)
     rw [bE _ _ (by omega)] at f
     rw [List.getElem_take] at e
     exact f e
    refine k6 (x5 (k6 (pL ?_)))
    repeat' (first|refine aE ?_|refine aF ?_|fail)
    show sE _ _ _ _ _ _ _
    refine k6 (k6 (tO ?_))
    refine BB (l1 := [_, _, _, _, _, _, _, _, _, _, _]) (l2 := [_, _]) ?_
    repeat' (first|(apply aH;(apply aA (k := 54);rfl;(apply dN);(rfl);rfl))|refine aE ?_|fail)
    refine ⟨rfl, ?_⟩
    refine EZ rfl rfl hw ?_
    refine CB Pb Pw Pm rfl rfl hni rfl ?_
    refine BY ?_
    repeat' (first|refine aE ?_|fail)
    refine ⟨rfl, ?_⟩
    show sE _ _ _ _ _ _ _
    refine B2 rfl (fun h => by cases h) (fun _ => Bw ?_)
    show sE _ _ _ _ _ _ _
    refine tO ?_
    refine BB (l1 := [_, _, _]) (l2 := [_]) ?_
    repeat' (first|refine aE ?_|fail)
    refine ⟨rfl, ?_⟩
    refine DC Pb Pw Pm rfl rfl hni ?_
    refine K7 ?_
    show sE _ _ _ _ _ _ _
    refine pL ?_
    repeat' (first|refine aE ?_|refine aF ?_|fail)
    refine ⟨k + 1, by omega, by omega, ?_, ?_⟩
    ·refine Le.ren [(0, 0)] rfl (by decide) ?_ ?_ <;> repeat' (first|exact trivial|refine And.intro ⟨_, rfl, ?_⟩ ?_|refine And.intro ⟨_, _, rfl, rfl, ?_⟩ ?_|exact Or.inr rfl|refine Or.inl ⟨?_, (by first|rfl|exact a8 _ _|exact Pur.pf)⟩|rfl)
    ·rw [bH _ k hkl, List.map_append]; rfl
   ·have hkl : k = m[i]!.stk.length := by have := of_decide_eq_false hb; omega
    refine H9 ?_
    show CO 1 _ _ _
    repeat' (first|refine aE ?_|refine aF ?_|fail)
    (refine bB (i + 1) (Le.renA []) ?_ ?_)
    ·omega
    ·omega
 ·repeat' (first | refine aE ?_ | refine aF ?_ | (refine aL ?_ ?_ <;> intro hc hq <;> try (exfalso; omega))|fail)
  refine aD rfl ⟨rfl, rfl⟩
theorem Le.bump {ts : List (Nat × AV)} {hs : List (Nat × Option (List AV))} {n : Nat} {z0 : Lo} (k : Nat) : Le ⟨ts, hs, n, z0⟩ ⟨ts, hs, n + k, z0⟩ := Le.of (fun _ _ h => h) (fun _ _ h => h) (Nat.le_add_right _ _) rfl
theorem xD {m : List Cl} {N : Nat} {Q : Exit → AS → Prop} {all : Array Oper} {rest : List Oper} {tsl : List (Nat × AV)} {hsl : List (Nat × Option (List AV))} {nidl : Nat} {z0 : Lo} {md : Md} {d : Nat} {ty : TypeId} {pos : String} {af : Array Edge} {tys : Array TypeId} {x0 : Operand} (ha0 : ev (lk tsl) x0 = some (sl bO m)) (hmc : MC Tryz.prog 265 [sl bO m] [] 0 (fun _ : Unit => True) (fun _ => .own 1 0 m.length 4) (fun _ => [(1, some (flat bO m))])) (hM : Nat.ble (nidl + 2) aV = true) (hN : Nat.blt d N = true) {md' : Md} [hmd : MdA md (fK [x0] ++ []) (List.map Sum.inr (List.map Prod.fst ([((nidl + 1), some (flat bO m))] : List (Nat × Option (List AV)))) ++ [.inl d]) md'] (kk : RW Tryz.prog N all Q md' rest ⟨(d, .own (nidl + 1) 0 m.length 4) :: tsl, gS hsl [((nidl + 1), some (flat bO m))], nidl + 2, z0⟩) : RW Tryz.prog N all Q md (⟨some d, .call ⟨.value (.func 265), #[x0], tys⟩, ty, pos, af, none⟩ :: rest) ⟨tsl, hsl, nidl, z0⟩ := by
 refine aW [] 2 [((nidl + 1), some (flat bO m))] hmc (avs := [sl bO m]) ?_ rfl ?_ rfl ?_ (by simpa using hM) ?_ ?_ ?_ hN (md' := md') (hmd := hmd) kk
 ·show evL (lk tsl) [x0] = _
  simp only [evL, ha0]
 ·exact trivial
 ·(repeat' (exact RnL.purI inferInstance))
 ·(repeat' (exact RnV.own rfl))
 ·simp [cE]
 ·(repeat' (first|exact trivial|(refine And.intro ⟨1, _, rfl, rfl, ?_⟩ ?_)|exact RnL.purI inferInstance))
theorem BI (m : List Cl) (hl : m.length ≤ 1000000) : MC Tryz.prog 265 [sl bO m] [] 0 (fun _ : Unit => True) (fun _ => .own 1 0 m.length 4) (fun _ => [(1, some (flat bO m))]) := by
 refine aU Tryz.func265 Tryz.ntmps265 ?_
 repeat' (first|(apply aH;(apply BQ;rfl;rfl;(intro b hb)))|refine aE ?_|refine aF ?_|(refine aL ?_ ?_ <;> intro hc hq <;> try (exfalso;omega))|fail)
 ·have h0 : m = [] := List.eq_nil_of_length_eq_zero (hb (by assumption))
  subst h0
  refine aR (Le.bump 1) ?_
  refine aR (Le.nilOwn (d := 2) 4 rfl (by decide)) ?_
  (refine aD rfl ?_; refine aP () trivial ?_ ⟨.inr (Eq.trans (b := some _) rfl ?_), trivial⟩)
  ·rfl
  ·rfl
 ·(refine aD rfl ?_; refine aP () trivial ?_ ⟨.inr (Eq.trans (b := some _) rfl ?_), trivial⟩)
  ·show AV.own 1 0 (0 + m.length) 4 = _; rw [Nat.zero_add]
  ·rfl
theorem rD {m : List Tg} {N : Nat} {Q : Exit → AS → Prop} {all : Array Oper} {rest : List Oper} {tsl : List (Nat × AV)} {hsl : List (Nat × Option (List AV))} {nidl : Nat} {z0 : Lo} {md : Md} {d : Nat} {ty : TypeId} {pos : String} {af : Array Edge} {tys : Array TypeId} {x0 : Operand} (ha0 : ev (lk tsl) x0 = some (sl cH m)) (hmc : MC Tryz.prog 266 [sl cH m] [] 0 (fun _ : Unit => True) (fun _ => .own 1 0 m.length 2) (fun _ => [(1, some (flat cH m))])) (hM : Nat.ble (nidl + 2) aV = true) (hN : Nat.blt d N = true) {md' : Md} [hmd : MdA md (fK [x0] ++ []) (List.map Sum.inr (List.map Prod.fst ([((nidl + 1), some (flat cH m))] : List (Nat × Option (List AV)))) ++ [.inl d]) md'] (kk : RW Tryz.prog N all Q md' rest ⟨(d, .own (nidl + 1) 0 m.length 2) :: tsl, gS hsl [((nidl + 1), some (flat cH m))], nidl + 2, z0⟩) : RW Tryz.prog N all Q md (⟨some d, .call ⟨.value (.func 266), #[x0], tys⟩, ty, pos, af, none⟩ :: rest) ⟨tsl, hsl, nidl, z0⟩ := by
 refine aW [] 2 [((nidl + 1), some (flat cH m))] hmc (avs := [sl cH m]) ?_ rfl ?_ rfl ?_ (by simpa using hM) ?_ ?_ ?_ hN (md' := md') (hmd := hmd) kk
 ·show evL (lk tsl) [x0] = _
  simp only [evL, ha0]
 ·exact trivial
 ·(repeat' (exact RnL.purI inferInstance))
 ·(repeat' (exact RnV.own rfl))
 ·simp [cE]
 ·(repeat' (first|exact trivial|(refine And.intro ⟨1, _, rfl, rfl, ?_⟩ ?_)|exact RnL.purI inferInstance))
theorem A4 (m : List Tg) (hl : m.length ≤ 1000000) : MC Tryz.prog 266 [sl cH m] [] 0 (fun _ : Unit => True) (fun _ => .own 1 0 m.length 2) (fun _ => [(1, some (flat cH m))]) := by
 refine aU Tryz.func266 Tryz.ntmps266 ?_
 repeat' (first|(apply aH;(apply BQ;rfl;rfl;(intro b hb)))|refine aE ?_|refine aF ?_|(refine aL ?_ ?_ <;> intro hc hq <;> try (exfalso;omega))|fail)
 ·have h0 : m = [] := List.eq_nil_of_length_eq_zero (hb (by assumption))
  subst h0
  refine aR (Le.bump 1) ?_
  refine aR (Le.nilOwn (d := 2) 2 rfl (by decide)) ?_
  (refine aD rfl ?_; refine aP () trivial ?_ ⟨.inr (Eq.trans (b := some _) rfl ?_), trivial⟩)
  ·rfl
  ·rfl
 ·(refine aD rfl ?_; refine aP () trivial ?_ ⟨.inr (Eq.trans (b := some _) rfl ?_), trivial⟩)
  ·show AV.own 1 0 (0 + m.length) 2 = _; rw [Nat.zero_add]
  ·rfl
theorem I4 (t : Tg) (c g : Int) : PC Tryz.prog 268 [P9 t, .iptr [iv c, iv g]] (fun r => r = bv (decide (t.id = g))) := by
 refine aC Tryz.func268 Tryz.ntmps268 ?_
 repeat' (first|refine aE ?_|refine aF ?_|fail)
 exact aD rfl ⟨rfl, rfl⟩
theorem AP (t : Tg) : PC Tryz.prog 270 [P9 t] (fun r => r = bv t.uq) := by
 refine aC Tryz.func270 Tryz.ntmps270 ?_
 repeat' (first|refine aE ?_|refine aF ?_|fail)
 exact aD rfl ⟨rfl, rfl⟩
theorem z8 (stk : List Tg) (c g : Int) (hl : stk.length ≤ 1000000) : PC Tryz.prog 267 [sl cH stk, .clos (.func 268) [] [.iptr [iv c, iv g]]] (fun r => r = iv (cM stk g)) := by
 refine aC Tryz.func267 Tryz.ntmps267 ?_
 repeat' (first|refine aE ?_|refine aF ?_|fail)
 refine aI (σ := Nat) [0, 1, 7] [] (fun k => [(8, iv (k : Int))]) (fun k => []) (fun k => k ≤ stk.length ∧ ∀ j, j < k → stk[j]!.id ≠ g) (fun k => stk.length - k) (0) ⟨by omega, by omega⟩ ?_
 rintro k ⟨hk, hall⟩
 by_cases hkn : k < stk.length
 ·have hcl := I4 stk[k]! c g
  repeat' (first|(apply aH;(apply gR;rfl;rfl;infer_instance;rfl;(apply hcl);(rfl);rfl))|refine aE ?_|refine aF ?_|(refine aL ?_ ?_ <;> intro hc hq <;> try (exfalso;omega))|fail)
  ·refine aD rfl ⟨?_, rfl⟩
   simp only [aO]; rw [y8 hkn (by assumption) hall]
  ·(refine bB (k + 1) (Le.renA []) ?_ ?_)
   ·refine ⟨by omega, fun j hj => ?_⟩
    by_cases e : j = k
    ·subst e;assumption
    ·exact hall j (by omega)
   ·omega
 ·repeat' (first | refine aE ?_ | refine aF ?_ | (refine aL ?_ ?_ <;> intro hc hq <;> try (exfalso; omega))|fail)
  refine aD rfl ⟨?_, rfl⟩
  have h2 : cM stk g < 0 := qL.2 (fun t ht => by obtain ⟨j, hj, rfl⟩ := List.getElem_of_mem ht;have := hall j (by omega);rwa [bE _ _ hj] at this)
  have hb := fC stk g
  simp only [aO]; rw [show cM stk g = -1 by omega]
def rZ (xs : List Tg) : Int := match xs.findIdx? (fun t => t.uq) with | some i => i | none => -1
theorem Kk (stk : List Tg) (hl : stk.length ≤ 1000000) : PC Tryz.prog 267 [sl cH stk, .v (.func (.func 270) #[] #[])] (fun r => r = iv (rZ stk)) := by
 refine aC Tryz.func267 Tryz.ntmps267 ?_
 repeat' (first|refine aE ?_|refine aF ?_|fail)
 refine aI (σ := Nat) [0, 1, 7] [] (fun k => [(8, iv (k : Int))]) (fun k => []) (fun k => k ≤ stk.length ∧ ∀ j, j < k → stk[j]!.uq = false) (fun k => stk.length - k) (0) ⟨by omega, by omega⟩ ?_
 rintro k ⟨hk, hall⟩
 by_cases hkn : k < stk.length
 ·have hcl := AP stk[k]!
  repeat' (first|(apply aH;(apply gR;rfl;rfl;infer_instance;rfl;(apply hcl);(rfl);rfl))|refine aE ?_|refine aF ?_|(refine aL ?_ ?_ <;> intro hc hq <;> try (exfalso;omega))|fail)
  ·refine aD rfl ⟨?_, rfl⟩
   have hu : stk[k]!.uq = true := by assumption
   have : stk.findIdx? (fun t => t.uq) = some k := by
    rw [List.findIdx?_eq_some_iff_getElem]
    refine ⟨hkn, by rw [← bE stk k hkn]; exact hu, fun j hj => ?_⟩
    have := hall j hj;rw [bE stk j (by omega)] at this;rw [this]; decide
   simp only [aO, rZ, this]
  ·have hu : stk[k]!.uq = false := by assumption
   (refine bB (k + 1) (Le.renA []) ?_ ?_)
   ·refine ⟨by omega, fun j hj => ?_⟩
    by_cases e : j = k
    ·subst e;exact hu
    ·exact hall j (by omega)
   ·omega
 ·repeat' (first | refine aE ?_ | refine aF ?_ | (refine aL ?_ ?_ <;> intro hc hq <;> try (exfalso; omega))|fail)
  refine aD rfl ⟨?_, rfl⟩
  have : stk.findIdx? (fun t => t.uq) = none := by
   rw [List.findIdx?_eq_none_iff]
   intro x hx
   obtain ⟨j, hj, rfl⟩ := List.getElem_of_mem hx
   have := hall j (by omega);rw [bE stk j hj] at this;exact this
  simp only [aO, rZ, this]
theorem OO {xs : List Tg} {k : Nat} {a : Int} {b : Bool} (hk : k < xs.length) : g6 (flat cH xs) (0 + k * 2) [iv a, bv b] = flat cH (xs.set k ⟨a, b⟩) := iF hk rfl
theorem Hi {cs new : List AV} {k : Nat} (h : k ≤ cs.length) : (g6 cs (0 + k) new).take k = cs.take k := by
 unfold g6
 rw [Nat.zero_add, List.append_assoc, List.take_left' (by rw [List.length_take]; omega)]
def shr (xs : List Tg) : List Tg := xs.filter (fun t => !t.uq)
theorem Fq {xs : List Tg} (h : rZ xs = -1) : shr xs = xs := by
 unfold rZ at h
 split at h
 ·omega
 ·rename_i hn
  rw [List.findIdx?_eq_none_iff] at hn
  unfold shr
  rw [List.filter_eq_self]
  intro t ht
  have := hn t ht
  simp [this]
theorem Fc {xs : List Tg} {i : Nat} (h : rZ xs = (i : Int)) : i < xs.length ∧ xs[i]!.uq = true ∧ shr (xs.take (i + 1)) = xs.take i := by
 unfold rZ at h
 split at h
 ·rename_i k hk
  obtain ⟨h1, h2, h3⟩ := List.findIdx?_eq_some_iff_getElem.1 hk
  have e : k = i := by omega
  subst e
  have hs : shr (xs.take k) = xs.take k := by
   unfold shr
   rw [List.filter_eq_self]
   intro t ht
   obtain ⟨j, hj, rfl⟩ := List.getElem_of_mem ht
   rw [List.length_take] at hj
   have := h3 j (by omega)
   rw [List.getElem_take]; simpa using this
  refine ⟨h1, by rw [bE _ _ h1]; exact h2, ?_⟩
  rw [bH xs k h1]
  unfold shr at hs ⊢
  rw [List.filter_append, hs, nD (by rw [bE _ _ h1, h2]; rfl), List.append_nil]
 ·omega
theorem KA (xs : List Tg) : -1 ≤ rZ xs ∧ rZ xs < xs.length := by
 unfold rZ
 split
 ·rename_i k hk
  obtain ⟨h1, _⟩ := List.findIdx?_eq_some_iff_getElem.1 hk
  omega
 ·omega
theorem LJ {xs : List Tg} {j : Nat} (hj : j < xs.length) (h : xs[j]!.uq = false) : shr (xs.take (j + 1)) = shr (xs.take j) ++ [xs[j]!] := by
 rw [bH xs j hj]; unfold shr
 rw [List.filter_append, qT (by rw [h]; rfl)]
theorem HD {xs : List Tg} {j : Nat} (hj : j < xs.length) (h : xs[j]!.uq = true) : shr (xs.take (j + 1)) = shr (xs.take j) := by
 rw [bH xs j hj]; unfold shr
 rw [List.filter_append, nD (by rw [h]; rfl), List.append_nil]
theorem Js {α : Type} [Inhabited α] {L : List α} {i : Nat} {x : α} (h : i < L.length) : (L.set i x).take (i + 1) = L.take i ++ [x] := by
 rw [List.set_eq_take_append_cons_drop, if_pos h]
 have h1 : (L.take i).length = i := by rw [List.length_take]; omega
 rw [List.take_append, h1, show i + 1 - i = 1 by omega, List.take_of_length_le (by omega)]
 rfl
theorem Jb {α : Type} [Inhabited α] {L M : List α} {j : Nat} (h : L.drop j = M.drop j) (hl : L.length = M.length) (hj : j < M.length) : L[j]! = M[j]! := by
 rw [bE _ _ (by omega), bE _ _ hj]
 rw [List.drop_eq_getElem_cons (by omega : j < L.length), List.drop_eq_getElem_cons hj] at h
 exact (List.cons.inj h).1
theorem u6 {α : Type} {L M : List α} {j : Nat} (h : L.drop j = M.drop j) : L.drop (j + 1) = M.drop (j + 1) := by
 rw [← List.drop_drop, h, List.drop_drop]
theorem Kf {xs : List Tg} {m : Nat} {N : Nat} {Q : Exit → AS → Prop} {all : Array Oper} {rest : List Oper} {tsl : List (Nat × AV)} {hsl : List (Nat × Option (List AV))} {nidl : Nat} {z0 : Lo} {md : Md} {d : Nat} {ty : TypeId} {pos : String} {af : Array Edge} {tys : Array TypeId} {x0 x1 : Operand} {i0 : Nat} (ha0 : ev (lk tsl) x0 = some (.own i0 0 m 2)) (ha1 : ev (lk tsl) x1 = some (.v (.func (.func 270) #[] #[]))) (hH0 : aT hsl i0 = some (flat cH xs)) (hmc : MC Tryz.prog 269 [.own 0 0 m 2, .v (.func (.func 270) #[] #[])] [(0, some (flat cH xs))] 1 (fun _ : Unit => True) (fun _ => .own 0 0 (shr xs).length 2) (fun _ => [(0, some (flat cH (shr xs)))])) (hM : Nat.ble (nidl + 0) aV = true) (hN : Nat.blt d N = true) {md' : Md} [hmd : MdA md (fK [x0, x1] ++ [.inr i0]) (List.map Sum.inr (List.map Prod.fst ([(i0, some (flat cH (shr xs)))] : List (Nat × Option (List AV)))) ++ [.inl d]) md'] (kk : RW Tryz.prog N all Q md' rest ⟨(d, .own i0 0 (shr xs).length 2) :: tsl, gS hsl [(i0, some (flat cH (shr xs)))], nidl + 0, z0⟩) : RW Tryz.prog N all Q md (⟨some d, .call ⟨.value (.func 269), #[x0, x1], tys⟩, ty, pos, af, none⟩ :: rest) ⟨tsl, hsl, nidl, z0⟩ := by
 refine aW [i0] 1 [(i0, some (flat cH (shr xs)))] hmc (avs := [.own i0 0 m 2, .v (.func (.func 270) #[] #[])]) ?_ rfl ?_ rfl ?_ (by simpa using hM) ?_ ?_ ?_ hN (md' := md') (hmd := hmd) kk
 ·show evL (lk tsl) [x0, x1] = _
  simp only [evL, ha0, ha1]
 ·exact ⟨⟨_, _, rfl, hH0, by (repeat' (exact RnL.purI inferInstance))⟩, trivial⟩
 ·(repeat' (first|exact RnL.purI inferInstance|exact RnV.own rfl|refine RnL.cons ?_ ?_))
 ·(repeat' (exact RnV.own rfl))
 ·simp [cE]
 ·(repeat' (first|exact trivial|(refine And.intro ⟨0, _, rfl, rfl, ?_⟩ ?_)|exact RnL.purI inferInstance))
theorem NK (xs : List Tg) (m : Nat) (hm : m = xs.length) (hl : m ≤ 1000000) : MC Tryz.prog 269 [.own 0 0 m 2, .v (.func (.func 270) #[] #[])] [(0, some (flat cH xs))] 1 (fun _ : Unit => True) (fun _ => .own 0 0 (shr xs).length 2) (fun _ => [(0, some (flat cH (shr xs)))]) := by
 subst hm
 have hix := Kk xs hl
 have hbd := KA xs
 by_cases hn : rZ xs = -1
 ·rw [hn] at hix
  have hs := Fq hn
  refine aU Tryz.func269 Tryz.ntmps269 ?_
  repeat' (first|(apply aH;(apply oT (k := 267);(case ha => rfl);(case hl => (repeat' (first|exact nP|apply lM|exact z2|exact nM rfl inferInstance)));(case h => exact hix);(case hfr|hN => rfl);(case hmd => infer_instance)))|refine aE ?_|refine aF ?_)
  all_goals (
   (refine aD rfl ?_; refine aP () trivial ?_ ⟨.inr (Eq.trans (b := some _) rfl ?_), trivial⟩)
   ·rw [hs]; rfl
   ·rw [hs])
 ·obtain ⟨i0, hi0⟩ := Int.eq_ofNat_of_zero_le (show 0 ≤ rZ xs by omega)
  obtain ⟨g1, g2, g3⟩ := Fc hi0
  rw [hi0] at hix
  refine aU Tryz.func269 Tryz.ntmps269 ?_
  repeat' (first|(apply aH;(apply oT (k := 267);(case ha => rfl);(case hl => (repeat' (first|exact nP|apply lM|exact z2|exact nM rfl inferInstance)));(case h => exact hix);(case hfr|hN => rfl);(case hmd => infer_instance)))|refine aE ?_|refine aF ?_)
  all_goals (try (exfalso;omega))
  refine aI (σ := List Tg × Nat × Nat) [0, 1] [] (fun s => [(5, iv (s.2.1 : Int)), (6, iv (s.2.2 : Int))]) (fun s => [(0, some (flat cH s.1))]) (fun s => s.1.length = xs.length ∧ s.1.take s.2.1 = shr (xs.take s.2.2) ∧ s.1.drop s.2.2 = xs.drop s.2.2 ∧ s.2.1 < s.2.2 ∧ s.2.2 ≤ xs.length) (fun s => xs.length - s.2.2) (xs, i0, i0 + 1) ⟨rfl, g3.symm, rfl, by dsimp only;omega, by dsimp only;omega⟩ ?_
  rintro ⟨L, i, j⟩ ⟨hL, ht, hd, hij, hj⟩
  dsimp only at hL ht hd hij hj ⊢
  by_cases hjn : j < xs.length
  ·have hcl := AP L[j]!
   have hg := Jb hd hL hjn
   repeat' (first|(apply aH;first|(apply bC;rfl;rfl;rfl;rfl;rfl;(case hl => (first|(rw [aJ]; simp only [fX] <;> omega)|(simp;done)));(exact OO (by (first|assumption|omega))))|(apply gR;rfl;rfl;infer_instance;rfl;(apply hcl);(rfl);rfl))|refine aE ?_|refine aF ?_|(refine aL ?_ ?_ <;> intro hc hq <;> try (exfalso;omega))|fail)
   ·have hu : L[j]!.uq = false := by assumption
    (refine bB (_, i + 1, j + 1) (Le.renA []) ?_ ?_)
    ·refine ⟨by dsimp only; rw [List.length_set]; exact hL, ?_, ?_, by dsimp only; omega, by dsimp only; omega⟩
     ·dsimp only
      rw [Js (by omega), ht, LJ hjn (by rw [← hg]; exact hu), hg]
     ·dsimp only
      rw [List.drop_set_of_lt (by omega)]
      exact u6 hd
    ·dsimp only;omega
   ·have hu : L[j]!.uq = true := by assumption
    (refine bB (L, i, j + 1) (Le.renA []) ?_ ?_)
    ·refine ⟨hL, ?_, u6 hd, by dsimp only; omega, by dsimp only; omega⟩
     dsimp only
     rw [ht, HD hjn (by rw [← hg]; exact hu)]
    ·dsimp only;omega
  ·have hfl : (flat cH L).length = L.length * 2 := aJ cH L
   repeat' (first|(apply aH;first|(apply iH (d := 38) (l := i) (h := xs.length);rfl;rfl;exact qF rfl (by omega);rfl;exact if_pos (by omega);rfl)|(apply iH (d := 41) (l := 0) (h := i);rfl;rfl;rfl;exact qF rfl (by omega);exact if_pos (by omega);rfl)|(apply Jt;rfl;rfl;omega;rfl;(rw [hfl]; omega);rfl))|refine aE ?_|refine aF ?_|(refine aL ?_ ?_ <;> intro hc hq <;> try (exfalso;omega))|fail)
   refine aR (Le.cut (i := 0) (i * 2) rfl) ?_
   have hje : j = xs.length := by omega
   have hLt : L.take i = shr xs := by rw [ht, hje, List.take_length]
   have hil : (shr xs).length = i := by rw [← hLt, List.length_take]; omega
   (refine aD rfl ?_; refine aP () trivial ?_ ⟨.inr (Eq.trans (b := some _) rfl ?_), trivial⟩)
   ·show AV.own 0 (0 + 0 * 2) (i - 0) 2 = _
    rw [hil]; rfl
   ·rw [Hi (by omega), eO cH (e := 2), hLt]
theorem iA {m : List Cl} {N : Nat} {Q : Exit → AS → Prop} {all : Array Oper} {rest : List Oper} {tsl : List (Nat × AV)} {hsl : List (Nat × Option (List AV))} {nidl : Nat} {z0 : Lo} {md : Md} {d : Nat} {ty : TypeId} {pos : String} {af : Array Edge} {tys : Array TypeId} {x0 : Operand} (ha0 : ev (lk tsl) x0 = some (sl bO m)) (hmc : MC Tryz.prog 241 [sl bO m] [] 0 (fun _ : Unit => True) (fun _ => .own 1 0 m.length 4) (fun _ => [(1, some (flat bO m))])) (hM : Nat.ble (nidl + 2) aV = true) (hN : Nat.blt d N = true) {md' : Md} [hmd : MdA md (fK [x0] ++ []) (List.map Sum.inr (List.map Prod.fst ([((nidl + 1), some (flat bO m))] : List (Nat × Option (List AV)))) ++ [.inl d]) md'] (kk : RW Tryz.prog N all Q md' rest ⟨(d, .own (nidl + 1) 0 m.length 4) :: tsl, gS hsl [((nidl + 1), some (flat bO m))], nidl + 2, z0⟩) : RW Tryz.prog N all Q md (⟨some d, .call ⟨.value (.func 241), #[x0], tys⟩, ty, pos, af, none⟩ :: rest) ⟨tsl, hsl, nidl, z0⟩ := by
 refine aW [] 2 [((nidl + 1), some (flat bO m))] hmc (avs := [sl bO m]) ?_ rfl ?_ rfl ?_ (by simpa using hM) ?_ ?_ ?_ hN (md' := md') (hmd := hmd) kk
 ·show evL (lk tsl) [x0] = _
  simp only [evL, ha0]
 ·exact trivial
 ·(repeat' (exact RnL.purI inferInstance))
 ·(repeat' (exact RnV.own rfl))
 ·simp [cE]
 ·(repeat' (first|exact trivial|(refine And.intro ⟨1, _, rfl, rfl, ?_⟩ ?_)|exact RnL.purI inferInstance))
theorem p7 {m : List Cl} {j : Nat} {N : Nat} {Q : Exit → AS → Prop} {all : Array Oper} {rest : List Oper} {tsl : List (Nat × AV)} {hsl : List (Nat × Option (List AV))} {nidl : Nat} {z0 : Lo} {md : Md} {d : Nat} {ty : TypeId} {pos : String} {af : Array Edge} {tys : Array TypeId} {x0 : Operand} (ha0 : ev (lk tsl) x0 = some (sl bO m)) (hmc : MC Tryz.prog 241 [sl bO m] [] 0 (fun _ : Unit => True) (fun _ => .own 1 0 m.length 4) (fun _ => [(1, some (flat fD (dG m j (.own 2 0 m[j]!.stk.length 2)))), (2, some (flat cH m[j]!.stk))])) (hM : Nat.ble (nidl + 3) aV = true) (hN : Nat.blt d N = true) {md' : Md} [hmd : MdA md (fK [x0] ++ []) (List.map Sum.inr (List.map Prod.fst ([((nidl + 1), some (flat fD (dG m j (.own (nidl + 2) 0 m[j]!.stk.length 2)))), ((nidl + 2), some (flat cH m[j]!.stk))] : List (Nat × Option (List AV)))) ++ [.inl d]) md'] (kk : RW Tryz.prog N all Q md' rest ⟨(d, .own (nidl + 1) 0 m.length 4) :: tsl, gS hsl [((nidl + 1), some (flat fD (dG m j (.own (nidl + 2) 0 m[j]!.stk.length 2)))), ((nidl + 2), some (flat cH m[j]!.stk))], nidl + 3, z0⟩) : RW Tryz.prog N all Q md (⟨some d, .call ⟨.value (.func 241), #[x0], tys⟩, ty, pos, af, none⟩ :: rest) ⟨tsl, hsl, nidl, z0⟩ := by
 refine aW [] 3 [((nidl + 1), some (flat fD (dG m j (.own (nidl + 2) 0 m[j]!.stk.length 2)))), ((nidl + 2), some (flat cH m[j]!.stk))] hmc (avs := [sl bO m]) ?_ rfl ?_ rfl ?_ (by simpa using hM) ?_ ?_ ?_ hN (md' := md') (hmd := hmd) kk
 ·show evL (lk tsl) [x0] = _
  simp only [evL, ha0]
 ·exact trivial
 ·(repeat' (exact RnL.purI inferInstance))
 ·(repeat' (exact RnV.own rfl))
 ·simp [cE]
 ·(repeat' (first|exact trivial|(refine And.intro ⟨1, _, rfl, rfl, ?_⟩ ?_)|(refine And.intro ⟨2, _, rfl, rfl, ?_⟩ ?_)|exact RnL.purI inferInstance|exact kE rfl))
theorem mK {α : Type} [Inhabited α] (l : List α) (k : Nat) : l.set k l[k]! = l := by
 rcases Nat.lt_or_ge k l.length with h|h
 ·rw [bE _ _ h]; simp
 ·exact List.set_eq_of_length_le h
theorem Ei {m : List Cl} {i : Nat} (hi : i < m.length) : g6 (flat bO m) (0 + i * 4 + 3) [sl cH m[i]!.stk] = flat bO m := by
 have h := Cx (xs := m) (k := i) (s := m[i]!.stk) hi
 rw [show m.set i { m[i]! with stk := m[i]!.stk } = m from mK m i] at h
 exact h
theorem Cv {m : List Cl} {i j : Nat} {X : AV} (hi : i < m.length) (h : i ≠ j) : (dG m j X)[i]! = rV m[i]! := by
 unfold dG
 rw [bE _ _ (by rw [List.length_set, List.length_map]; exact hi), List.getElem_set_ne (fun e => h e.symm), List.getElem_map, bE _ _ hi]
theorem Lg {m : List Cl} {i j : Nat} {X : AV} (h : i < m.length ∧ i ≠ j) : g6 (flat fD (dG m j X)) (0 + i * 4 + 3) [sl cH m[i]!.stk] = flat fD (dG m j X) := by
 have hl := dB (m := m) (j := j) (X := X)
 have e : (dG m j X).set i { (dG m j X)[i]! with av := sl cH m[i]!.stk } = dG m j X := by
  rw [Cv h.1 h.2]
  have : ({ rV m[i]! with av := sl cH m[i]!.stk } : Co) = (dG m j X)[i]! := by rw [Cv h.1 h.2]; rfl
  rw [this]; exact mK _ _
 rw [← e]
 have := eW (f := fD) (xs := dG m j X) (k := i) (j := 3) (new := [sl cH m[i]!.stk]) (y := { (dG m j X)[i]! with av := sl cH m[i]!.stk }) (by rw [hl]; exact h.1) (by simp) rfl
 rw [e] at this ⊢
 exact this
theorem pA {mp : List (Nat × Nat)} {lo : Lo} : ∀ {cs : List AV}, bR cs = true → All2 (FO mp lo) cs cs
 | [], _ => .nil
 | c :: cs, h => by
  simp only [bR, Bool.and_eq_true] at h
  exact .cons (.inl ⟨rfl, h.1⟩) (pA h.2)
theorem uJ {α β : Type} {R : α → β → Prop} : ∀ {a : List α} {b : List β} {c : List α} {d : List β}, All2 R a b → All2 R c d → All2 R (a ++ c) (b ++ d)
 | _, _, _, _, .nil, h => h
 | _, _, _, _, .cons h1 h2, h => .cons h1 (uJ h2 h)
theorem D6 {mp : List (Nat × Nat)} {lo : Lo} {m : List Cl} {j k i i' : Nat} (h : j < m.length) (hr : NS mp lo (.own i 0 k 2) = some (.own i' 0 k 2)) : All2 (FO mp lo) (flat fD (dG m j (.own i 0 k 2))) (flat fD (dG m j (.own i' 0 k 2))) := by
 rw [jU h, jU h]
 exact uJ (pA (inferInstance : Pur (flat bO _)).pf) (uJ (pA (inferInstance : Pur [iv _, bv _, iv _]).pf) (.cons (.inr hr) (pA (inferInstance : Pur (flat bO _)).pf)))
theorem kK (m : List Cl) (hm : OkM m) : MC Tryz.prog 241 [sl bO m] [] 0 (fun _ : Unit => True) (fun _ => .own 1 0 m.length 4) (fun _ => [(1, some (flat bO m))]) := by
 have hml := hm.l
 have hcc := BI m (by omega)
 refine aU Tryz.func241 Tryz.ntmps241 ?_
 repeat' (first|(apply aH;(apply xD;rfl;exact hcc;rfl;rfl))|refine aE ?_|refine aF ?_|fail)
 refine aI (σ := Nat) [3, 8, 9] [] (fun k => [(10, iv (k : Int))]) (fun k => [(1, some (flat bO m))]) (fun k => k ≤ m.length) (fun k => m.length - k) (0) (Nat.zero_le _) ?_
 rintro i hi
 by_cases hin : i < m.length
 ·have hst : m[i]!.stk.length ≤ 200 := (((c8 m).1 hm).2 i hin).l.2
  have hct := A4 m[i]!.stk (by omega)
  repeat' (first|(apply aH;first|(apply rD;rfl;exact hct;rfl;rfl)|(with_reducible apply aX (d := 20)))|refine aE ?_|refine aF ?_|(refine aL ?_ ?_ <;> intro hc hq <;> try (exfalso;omega))|fail)
  refine bV (c6 ?_ (Le.frzD (d := 19) (i := 4) rfl rfl))
  repeat' (first|(apply aH;(apply bC;rfl;rfl;rfl;rfl;rfl;(rw [aJ]; simp only [fX] <;> omega);(exact Ei (by (assumption)))))|refine aE ?_|refine aF ?_|fail)
  (apply bB (i + 1);focus (refine Le.ren [(1, 1)] rfl (by decide) ?_ ?_ <;> repeat' (first|exact trivial|refine And.intro ⟨_, rfl, ?_⟩ ?_|refine And.intro ⟨_, _, rfl, rfl, ?_⟩ ?_|exact Or.inr rfl|refine Or.inl ⟨?_, (by first|rfl|exact a8 _ _)⟩|rfl)))
  ·omega
  ·omega
 ·repeat' (first | refine aE ?_ | refine aF ?_ | (refine aL ?_ ?_ <;> intro hc hq <;> try (exfalso; omega))|fail)
  (refine aD rfl ?_; refine aP () trivial ?_ ⟨.inr (Eq.trans (b := some _) rfl ?_), trivial⟩)
  ·rfl
  ·rfl
theorem uA (m : List Cl) (j : Nat) (hm : OkM m) (hj : j < m.length) : MC Tryz.prog 241 [sl bO m] [] 0 (fun _ : Unit => True) (fun _ => .own 1 0 m.length 4) (fun _ => [(1, some (flat fD (dG m j (.own 2 0 m[j]!.stk.length 2)))), (2, some (flat cH m[j]!.stk))]) := by
 have hml := hm.l
 have hcc := BI m (by omega)
 refine aU Tryz.func241 Tryz.ntmps241 ?_
 repeat' (first|(apply aH;(apply xD;rfl;exact hcc;rfl;rfl))|refine aE ?_|refine aF ?_|fail)
 refine AW.le ?_ (Le.bump 1)
 refine aI (σ := Nat × Bool) [3, 8, 9] [] (fun k => [(10, iv (k.1 : Int))]) (fun k => [(1, some (cond k.2 (flat fD (dG m j (.own 2 0 m[j]!.stk.length 2))) (flat bO m))), (2, cond k.2 (some (flat cH m[j]!.stk)) none)]) (fun k => k.1 ≤ m.length ∧ k.2 = decide (j < k.1)) (fun k => m.length - k.1) (0, false) ⟨Nat.zero_le _, by simp⟩ ?_
 rintro ⟨i, b⟩ ⟨hi, hb⟩
 dsimp only at hi hb ⊢
 by_cases hin : i < m.length
 ·have hst : m[i]!.stk.length ≤ 200 := (((c8 m).1 hm).2 i hin).l.2
  have hct := A4 m[i]!.stk (by omega)
  by_cases hij : j < i
  ·rw [decide_eq_true hij] at hb; subst hb
   simp only [cond_true]
   have hol := dB (m := m) (j := j) (X := .own 2 0 m[j]!.stk.length 2)
   have hon := Cv (m := m) (i := i) (j := j) (X := .own 2 0 m[j]!.stk.length 2) hin (by omega)
   repeat' (first|(apply aH;(with_reducible apply aX (d := 5)))|refine aE ?_|refine aF ?_|(refine aL ?_ ?_ <;> intro hc hq <;> try (exfalso;omega))|fail)
   refine bV ?_
   rw [hon]
   dsimp only [rV]
   repeat' (first|(apply aH;first|(apply rD;rfl;exact hct;rfl;rfl)|(with_reducible apply aX (d := 20)))|refine aE ?_|refine aF ?_|fail)
   refine bV (c6 ?_ (Le.frzD (d := 19) (i := 5) rfl rfl))
   repeat' (first|(apply aH;(apply bC;rfl;rfl;rfl;rfl;rfl;(rw [aJ]; simp only [fX] <;> omega);(exact Lg (by (omega)))))|refine aE ?_|refine aF ?_|fail)
   (apply bB (i + 1, true);focus (refine Le.ren [(1, 1), (2, 2)] rfl (by decide) ?_ ?_ <;> repeat' (first|exact trivial|refine And.intro ⟨_, rfl, ?_⟩ ?_|refine And.intro ⟨_, _, rfl, rfl, ?_⟩ ?_|exact Or.inr rfl|refine Or.inl ⟨?_, (by first|rfl|exact a8 _ _)⟩|rfl)))
   ·exact Or.inr (D6 hj rfl)
   ·exact ⟨by dsimp only;omega, by dsimp only;rw [decide_eq_true (by omega)]⟩
   ·dsimp only;omega
  ·rw [decide_eq_false hij] at hb; subst hb
   simp only [cond_false]
   repeat' (first|(apply aH;first|(apply rD;rfl;exact hct;rfl;rfl)|(with_reducible apply aX (d := 20)))|refine aE ?_|refine aF ?_|(refine aL ?_ ?_ <;> intro hc hq <;> try (exfalso;omega))|fail)
   by_cases hie : i = j
   ·subst hie
    refine bV ?_
    repeat' (first|(apply aH;(apply bC;rfl;rfl;rfl;rfl;rfl;(rw [aJ]; simp only [fX] <;> omega);(exact yL (by (assumption)))))|refine aE ?_|refine aF ?_|fail)
    (apply bB (i + 1, true);focus (refine Le.ren [(1, 1), (2, 5)] rfl (by decide) ?_ ?_ <;> repeat' (first|exact trivial|refine And.intro ⟨_, rfl, ?_⟩ ?_|refine And.intro ⟨_, _, rfl, rfl, ?_⟩ ?_|exact Or.inr rfl|refine Or.inl ⟨?_, (by first|rfl|exact a8 _ _)⟩|rfl)))
    ·exact Or.inr (D6 hin rfl)
    ·exact ⟨by dsimp only;omega, by dsimp only;rw [decide_eq_true (by omega)]⟩
    ·dsimp only;omega
   ·refine bV (c6 ?_ (Le.frzD (d := 19) (i := 5) rfl rfl))
    repeat' (first|(apply aH;(apply bC;rfl;rfl;rfl;rfl;rfl;(rw [aJ]; simp only [fX] <;> omega);(exact Ei (by (assumption)))))|refine aE ?_|refine aF ?_|fail)
    (apply bB (i + 1, false);focus (refine Le.ren [(1, 1)] rfl (by decide) ?_ ?_ <;> repeat' (first|exact trivial|refine And.intro ⟨_, rfl, ?_⟩ ?_|refine And.intro ⟨_, _, rfl, rfl, ?_⟩ ?_|exact Or.inr rfl|refine Or.inl ⟨?_, (by first|rfl|exact a8 _ _)⟩|rfl)))
    ·exact ⟨by dsimp only;omega, by dsimp only;rw [decide_eq_false (by omega)]⟩
    ·dsimp only;omega
 ·rw [decide_eq_true (by omega)] at hb; subst hb
  simp only [cond_true]
  repeat' (first|refine aE ?_|refine aF ?_|(refine aL ?_ ?_ <;> intro hc hq <;> try (exfalso;omega))|fail)
  (refine aD rfl ?_; refine aP () trivial ?_ ⟨.inr (Eq.trans (b := some _) rfl ?_), ⟨.inr (Eq.trans (b := some _) rfl ?_), trivial⟩⟩)
  ·rfl
  ·rfl
  ·rfl
end Go.Proofs.YtahdccneecdmmaaGreat
