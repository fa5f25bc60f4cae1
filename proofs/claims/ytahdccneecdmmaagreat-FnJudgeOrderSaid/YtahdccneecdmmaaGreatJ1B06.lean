/-
 A part of the proofs over this program: rules and contracts of its functions (the contracts).
-/
import Derived.Test.YtahdccneecdmmaaGreatJ1B05
set_option linter.unusedVariables false
set_option linter.unusedSimpArgs false
set_option maxHeartbeats 8000000
set_option maxRecDepth 4000
attribute [local irreducible] Go.AL.RW Go.AL.AW Go.AL.Stop
namespace Go.Proofs.YtahdccneecdmmaaGreat
open Go.AL Go.RowKit
theorem nJ {m : List Cl} {x : Pt} {wr : Bool} {n : Nat} {N : Nat} {Q : Exit → AS → Prop} {all : Array Oper} {rest : List Oper} {tsl : List (Nat × AV)} {hsl : List (Nat × Option (List AV))} {nidl : Nat} {z0 : Lo} {md : Md} {d : Nat} {ty : TypeId} {pos : String} {af : Array Edge} {tys : Array TypeId} {x0 x1 x2 : Operand} {i0 : Nat} (ha0 : ev (lk tsl) x0 = some (.own i0 0 n 4)) (ha1 : ev (lk tsl) x1 = some (nB x)) (ha2 : ev (lk tsl) x2 = some (bv wr)) (hH0 : aT hsl i0 = some (flat bO m)) (hmc : MC Tryz.prog 242 [.own 0 0 n 4, nB x, bv wr] [(0, some (flat bO m))] 1 (fun _ : Unit => True) (fun _ => iv (bF m x wr)) (fun _ => [(0, some (flat bO m))])) (hM : Nat.ble (nidl + 0) aV = true) (hN : Nat.blt d N = true) {md' : Md} [hmd : MdA md (fK [x0, x1, x2] ++ [.inr i0]) (List.map Sum.inr (List.map Prod.fst ([(i0, some (flat bO m))] : List (Nat × Option (List AV)))) ++ [.inl d]) md'] (kk : RW Tryz.prog N all Q md' rest ⟨(d, iv (bF m x wr)) :: tsl, gS hsl [(i0, some (flat bO m))], nidl + 0, z0⟩) : RW Tryz.prog N all Q md (⟨some d, .call ⟨.value (.func 242), #[x0, x1, x2], tys⟩, ty, pos, af, none⟩ :: rest) ⟨tsl, hsl, nidl, z0⟩ := by
 refine aW [i0] 1 [(i0, some (flat bO m))] hmc (avs := [.own i0 0 n 4, nB x, bv wr]) ?_ rfl ?_ rfl ?_ (by simpa using hM) ?_ ?_ ?_ hN (md' := md') (hmd := hmd) kk
 ·show evL (lk tsl) [x0, x1, x2] = _
  simp only [evL, ha0, ha1, ha2]
 ·exact ⟨⟨_, _, rfl, hH0, by (repeat' (exact RnL.purI inferInstance))⟩, trivial⟩
 ·(repeat' (first|exact RnL.purI inferInstance|exact RnV.own rfl|refine RnL.cons ?_ ?_))
 ·(repeat' (exact RnV.purI inferInstance))
 ·simp [cE]
 ·(repeat' (first|exact trivial|(refine And.intro ⟨0, _, rfl, rfl, ?_⟩ ?_)|exact RnL.purI inferInstance))
theorem wW {m : List Cl} {j : Nat} {t : Int} {k n : Nat} {N : Nat} {Q : Exit → AS → Prop} {all : Array Oper} {rest : List Oper} {tsl : List (Nat × AV)} {hsl : List (Nat × Option (List AV))} {nidl : Nat} {z0 : Lo} {md : Md} {d : Nat} {ty : TypeId} {pos : String} {af : Array Edge} {tys : Array TypeId} {x0 x1 x2 : Operand} {i0 i1 : Nat} (ha0 : ev (lk tsl) x0 = some (.own i0 0 n 4)) (ha1 : ev (lk tsl) x1 = some (.agg [iv (j : Int), iv t])) (ha2 : ev (lk tsl) x2 = some (bv true)) (hH0 : aT hsl i0 = some (flat fD (dG m j (.own i1 0 m[j]!.stk.length 2)))) (hH1 : aT hsl i1 = some (flat cH m[j]!.stk)) (hdd : Go.AL.distinct [i0, i1] = true) (hmc : MC Tryz.prog 242 [.own 0 0 n 4, .agg [iv (j : Int), iv t], bv true] [(0, some (flat fD (dG m j (.own 1 0 m[j]!.stk.length 2)))), (1, some (flat cH m[j]!.stk))] 2 (fun _ : Unit => True) (fun _ => iv 0) (fun _ => [(0, some (flat fD (dG m j (.own 1 0 (k + 1) 2)))), (1, some (flat cH (m[j]!.stk.take (k + 1))))])) (hM : Nat.ble (nidl + 0) aV = true) (hN : Nat.blt d N = true) {md' : Md} [hmd : MdA md (fK [x0, x1, x2] ++ [.inr i0, .inr i1]) (List.map Sum.inr (List.map Prod.fst ([(i0, some (flat fD (dG m j (.own i1 0 (k + 1) 2)))), (i1, some (flat cH (m[j]!.stk.take (k + 1))))] : List (Nat × Option (List AV)))) ++ [.inl d]) md'] (kk : RW Tryz.prog N all Q md' rest ⟨(d, iv 0) :: tsl, gS hsl [(i0, some (flat fD (dG m j (.own i1 0 (k + 1) 2)))), (i1, some (flat cH (m[j]!.stk.take (k + 1))))], nidl + 0, z0⟩) : RW Tryz.prog N all Q md (⟨some d, .call ⟨.value (.func 242), #[x0, x1, x2], tys⟩, ty, pos, af, none⟩ :: rest) ⟨tsl, hsl, nidl, z0⟩ := by
 refine aW [i0, i1] 2 [(i0, some (flat fD (dG m j (.own i1 0 (k + 1) 2)))), (i1, some (flat cH (m[j]!.stk.take (k + 1))))] hmc (avs := [.own i0 0 n 4, .agg [iv (j : Int), iv t], bv true]) ?_ hdd ?_ rfl ?_ (by simpa using hM) ?_ ?_ ?_ hN (md' := md') (hmd := hmd) kk
 ·show evL (lk tsl) [x0, x1, x2] = _
  simp only [evL, ha0, ha1, ha2]
 ·exact ⟨⟨_, _, rfl, hH0, by (repeat' (exact kE rfl))⟩, ⟨⟨_, _, rfl, hH1, by (repeat' (exact RnL.purI inferInstance))⟩, trivial⟩⟩
 ·(repeat' (first|exact RnL.purI inferInstance|exact RnV.own rfl|refine RnL.cons ?_ ?_))
 ·(repeat' (exact RnV.purI inferInstance))
 ·simp [cE]
 ·(repeat' (first|exact trivial|(refine And.intro ⟨0, _, rfl, rfl, ?_⟩ ?_)|(refine And.intro ⟨1, _, rfl, rfl, ?_⟩ ?_)|exact RnL.purI inferInstance|exact kE rfl))
theorem LdL.app {D : List Nat} {H : Nat → Option (List AV)} : ∀ {a b c d : List AV}, LdL D H a b → LdL D H c d → bR a = true → LdL D H (a ++ c) (a ++ d)
 | [], _, _, _, _, h, _ => h
 | x :: a, b, c, d, h1, h, hp => by
  simp only [bR, Bool.and_eq_true] at hp
  exact .cons (.pur hp.1) (LdL.app (a := a) (b := a) (.pur hp.2) h hp.2)
theorem MH {D : List Nat} {H : Nat → Option (List AV)} {m : List Cl} {j i k : Nat} {r : List Tg} (hi : i ∈ D) (hH : H i = some (flat cH r)) (hk : k = r.length) (hj : j < m.length) : LdL D H (flat fD (dG m j (.own i 0 k 2))) (flat bO (m.set j { m[j]! with stk := r })) := by
 subst hk
 rw [← A2, jU hj, jU hj]
 have p1 : bR (flat bO (m.take j)) = true := (inferInstance : Pur (flat bO _)).pf
 have p2 : bR [iv m[j]!.val, bv m[j]!.alive, iv m[j]!.next] = true := rfl
 exact LdL.app (.pur p1) (LdL.app (.pur p2) (.cons (.own hi hH (.pur (inferInstance : Pur (flat cH r)).pf)) (.pur (inferInstance : Pur (flat bO _)).pf)) p2) p1
theorem D4 {D : List Nat} {H : Nat → Option (List AV)} {m : List Cl} {j i : Nat} (hi : i ∈ D) (hH : H i = some (flat cH m[j]!.stk)) (hj : j < m.length) : LdL D H (flat fD (dG m j (.own i 0 m[j]!.stk.length 2))) (flat bO m) := by
 have h := MH (m := m) (r := m[j]!.stk) hi hH rfl hj
 rwa [show m.set j { m[j]! with stk := m[j]!.stk } = m from mK m j] at h
theorem Nz {m : List Cl} {x : Pt} {wr : Bool} (h : 0 ≤ x.cell) (h2 : x.cell < m.length) (h3 : m[x.cell.toNat]!.alive = true) (h4 : 0 ≤ cM m[x.cell.toNat]!.stk x.tag) (hw : wr = true) (h5 : m[x.cell.toNat]!.stk[(cM m[x.cell.toNat]!.stk x.tag).toNat]!.uq = false) : bF m x wr = 3 := by
 unfold bF;rw [if_neg (by omega), if_neg (by rw [h3]; decide), if_neg (by omega), if_pos ⟨hw, h5⟩]
theorem oZ (m : List Cl) (x : Pt) (wr : Bool) (n : Nat) (hm : OkM m) (hn : n = m.length) (hk : bF m x wr ≠ 0) : MC Tryz.prog 242 [.own 0 0 n 4, nB x, bv wr] [(0, some (flat bO m))] 1 (fun _ : Unit => True) (fun _ => iv (bF m x wr)) (fun _ => [(0, some (flat bO m))]) := by
 subst hn
 have hml := hm.l
 have hcv := hU m hm
 have hst : 0 ≤ x.cell → x.cell < m.length → m[x.cell.toNat]!.stk.length ≤ 200 := fun h1 h2 => (((c8 m).1 hm).2 x.cell.toNat (by omega)).l.2
 have hbd := fC m[x.cell.toNat]!.stk x.tag
 have hidx := fun h => z8 m[x.cell.toNat]!.stk x.cell x.tag h
 refine aU Tryz.func242 Tryz.ntmps242 ?_
 repeat' (first|(apply aH;first|(apply oT (k := 239);(case ha => rfl);(case hl => (repeat' (first|exact nP|apply lM|exact nM rfl inferInstance)));(case h => exact hcv);(case hfr|hN => rfl);(case hmd => infer_instance))|((apply fU 4);(case hx|hH|hc|hN => rfl))|(apply aA (k := 267);rfl;(exact (hidx (by have := hst (by omega) (by omega);omega)));exact Pur.pf;rfl)|(with_reducible apply aX (d := 75))|(apply aA (k := 54);rfl;(apply dN);(rfl);rfl))|refine aE ?_|refine aF ?_|(refine aL ?_ ?_ <;> intro hc hq <;> try (exfalso;omega))|(refine bS ?_ ?_ <;> intro hg hq <;> try (exfalso;omega)))
 ·(refine aD rfl ?_; refine aP () trivial ?_ ⟨.inr (Eq.trans (b := some _) rfl ?_), trivial⟩)
  ·rw [De (by omega)]; rfl
  ·rfl
 ·(refine aD rfl ?_; refine aP () trivial ?_ ⟨.inr (Eq.trans (b := some _) rfl ?_), trivial⟩)
  ·rw [Is (by omega) (by omega) (by assumption)]; rfl
  ·rfl
 ·(refine aD rfl ?_; refine aP () trivial ?_ ⟨.inr (Eq.trans (b := some _) rfl ?_), trivial⟩)
  ·rw [HL (by omega) (by omega) (by assumption) (by assumption)]; rfl
  ·rfl
 ·(refine aD rfl ?_; refine aP () trivial ?_ ⟨.inr (Eq.trans (b := some _) rfl ?_), trivial⟩)
  ·rw [Nz (by omega) (by omega) (by assumption) (by assumption) (by assumption) (by assumption)]; rfl
  ·rfl
 ·exfalso
  have hw : wr = true := by assumption
  have hu : m[x.cell.toNat]!.stk[(cM m[x.cell.toNat]!.stk x.tag).toNat]!.uq = true := by assumption
  subst hw
  refine hk ?_
  rw [yX, if_pos (sF (by omega) (by omega) (by assumption) (by assumption)), if_neg (by rw [hu]; decide)]
 ·exfalso
  have hw : wr = false := by assumption
  subst hw
  exact hk (sF (by omega) (by omega) (by assumption) (by assumption))
theorem tH (m : List Cl) (j : Nat) (t : Int) (k n : Nat) (hm : OkM m) (hn : n = m.length) (hj : j < m.length) (hk : cM m[j]!.stk t = (k : Int)) (hal : m[j]!.alive = true) (hu : m[j]!.stk[k]!.uq = true) : MC Tryz.prog 242 [.own 0 0 n 4, .agg [iv (j : Int), iv t], bv true] [(0, some (flat fD (dG m j (.own 1 0 m[j]!.stk.length 2)))), (1, some (flat cH m[j]!.stk))] 2 (fun _ : Unit => True) (fun _ => iv 0) (fun _ => [(0, some (flat fD (dG m j (.own 1 0 (k + 1) 2)))), (1, some (flat cH (m[j]!.stk.take (k + 1))))]) := by
 subst hn
 have hml := hm.l
 have hcv := hU m hm
 have hst : m[j]!.stk.length ≤ 200 := (((c8 m).1 hm).2 j hj).l.2
 have hbd := fC m[j]!.stk t
 rw [hk] at hbd
 have hidx := z8 m[j]!.stk (j : Int) t (by omega)
 rw [hk] at hidx
 have hog := iC (m := m) (j := j) (X := .own 1 0 m[j]!.stk.length 2) hj
 have hol := dB (m := m) (j := j) (X := .own 1 0 m[j]!.stk.length 2)
 refine aU Tryz.func242 Tryz.ntmps242 ?_
 repeat' (first|(apply aH;first|(apply mP (k := 239) (D := [0, 1]) (h := hcv);rfl;exact .cons (.own (by simp) rfl (D4 (by simp) rfl hj)) .nil;rfl;rfl)|(with_reducible apply aX (d := 35))|(apply aA (k := 54);rfl;(apply dN);(rfl);rfl))|refine aE ?_|refine aF ?_|(refine aL ?_ ?_ <;> intro hc hq <;> try (exfalso;omega))|fail)
 all_goals (try (exfalso;omega))
 ·exfalso
  have h : (dG m j (.own 1 0 m[j]!.stk.length 2))[j]!.alive = false := by assumption
  rw [hog] at h;simp only [hal] at h;cases h
 refine bV ?_
 rw [hog]
 dsimp only
 repeat' (first|(apply aH;first|((apply fU 4);(case hx|hH|hc|hN => rfl))|(apply mP (k := 267) (D := [1]) (h := hidx);rfl;exact .cons (.own (by simp) rfl (.pur (inferInstance : Pur (flat cH _)).pf)) (.cons (.pur rfl) .nil);rfl;rfl)|(with_reducible apply aX (d := 68)))|refine aE ?_|refine aF ?_|fail)
 refine bV ?_
 rw [hog]
 dsimp only
 repeat' (first|(apply aH;(with_reducible apply aX (d := 81)))|refine aE ?_|refine aF ?_|(refine aL ?_ ?_ <;> intro hc hq <;> try (exfalso;omega))|fail)
 ·exfalso
  have h : m[j]!.stk[k]!.uq = false := by assumption
  rw [hu] at h;cases h
 refine bV ?_
 rw [hog]
 dsimp only
 repeat' (first|(apply aH;first|(apply iH (d := 83) (l := 0) (h := k + 1);rfl;rfl;rfl;exact qF rfl (by omega);exact if_pos (by omega);rfl)|(apply bC;rfl;rfl;rfl;rfl;rfl;(rw [aJ]; simp only [fX] <;> omega);(exact vA (by (assumption)))))|refine aE ?_|refine aF ?_|fail)
 refine aR (Le.cut (i := 1) ((k + 1) * 2) rfl) ?_
 (refine aD rfl ?_; refine aP () trivial ?_ ⟨.inr (Eq.trans (b := some _) rfl ?_), ⟨.inr (Eq.trans (b := some _) rfl ?_), trivial⟩⟩)
 ·rfl
 ·rfl
 ·rw [eO cH (e := 2)]
theorem Gq {xs : List Tg} {k n : Nat} {N : Nat} {Q : Exit → AS → Prop} {all : Array Oper} {rest : List Oper} {tsl : List (Nat × AV)} {hsl : List (Nat × Option (List AV))} {nidl : Nat} {z0 : Lo} {md : Md} {d : Nat} {ty : TypeId} {pos : String} {af : Array Edge} {tys : Array TypeId} {x0 : Operand} {i0 : Nat} (ha0 : ev (lk tsl) x0 = some (.own i0 (0 + k * 2) n 2)) (hH0 : aT hsl i0 = some (flat cH xs)) (hmc : MC Tryz.prog 266 [.own 0 (0 + k * 2) n 2] [(0, some (flat cH xs))] 1 (fun _ : Unit => True) (fun _ => .own 2 0 n 2) (fun _ => [(0, some (flat cH xs)), (2, some (flat cH (xs.drop k)))])) (hM : Nat.ble (nidl + 2) aV = true) (hN : Nat.blt d N = true) {md' : Md} [hmd : MdA md (fK [x0] ++ [.inr i0]) (List.map Sum.inr (List.map Prod.fst ([(i0, some (flat cH xs)), ((nidl + 1), some (flat cH (xs.drop k)))] : List (Nat × Option (List AV)))) ++ [.inl d]) md'] (kk : RW Tryz.prog N all Q md' rest ⟨(d, .own (nidl + 1) 0 n 2) :: tsl, gS hsl [(i0, some (flat cH xs)), ((nidl + 1), some (flat cH (xs.drop k)))], nidl + 2, z0⟩) : RW Tryz.prog N all Q md (⟨some d, .call ⟨.value (.func 266), #[x0], tys⟩, ty, pos, af, none⟩ :: rest) ⟨tsl, hsl, nidl, z0⟩ := by
 refine aW [i0] 3 [(i0, some (flat cH xs)), ((nidl + 1), some (flat cH (xs.drop k)))] hmc (avs := [.own i0 (0 + k * 2) n 2]) ?_ rfl ?_ rfl ?_ (by simpa using hM) ?_ ?_ ?_ hN (md' := md') (hmd := hmd) kk
 ·show evL (lk tsl) [x0] = _
  simp only [evL, ha0]
 ·exact ⟨⟨_, _, rfl, hH0, by (repeat' (exact RnL.purI inferInstance))⟩, trivial⟩
 ·(repeat' (first|exact RnL.purI inferInstance|exact RnV.own rfl|refine RnL.cons ?_ ?_))
 ·(repeat' (exact RnV.own rfl))
 ·simp [cE]
 ·(repeat' (first|exact trivial|(refine And.intro ⟨0, _, rfl, rfl, ?_⟩ ?_)|(refine And.intro ⟨2, _, rfl, rfl, ?_⟩ ?_)|exact RnL.purI inferInstance))
theorem HT (xs : List Tg) (k n : Nat) (hn : n = xs.length - k) (hl : xs.length ≤ 1000000) : MC Tryz.prog 266 [.own 0 (0 + k * 2) n 2] [(0, some (flat cH xs))] 1 (fun _ : Unit => True) (fun _ => .own 2 0 n 2) (fun _ => [(0, some (flat cH xs)), (2, some (flat cH (xs.drop k)))]) := by
 subst hn
 refine aU Tryz.func266 Tryz.ntmps266 ?_
 repeat' (first|(apply aH;first|(apply EN;rfl;rfl;(intro b hb))|(apply bW;rfl;rfl;rfl;rfl;rfl;(decide);exact D3 rfl rfl;omega;omega;(exact pC rfl);rfl;rfl))|refine aE ?_|refine aF ?_|(refine aL ?_ ?_ <;> intro hc hq <;> try (exfalso;omega))|fail)
 ·have h0 : xs.length - k = 0 := hb (by assumption)
  have h1 : xs.drop k = [] := List.drop_eq_nil_of_le (by omega)
  refine aR (Le.bump 1) ?_
  refine aR (Le.nilOwn (d := 2) 2 rfl (by decide)) ?_
  (refine aD rfl ?_; refine aP () trivial ?_ ⟨.inr (Eq.trans (b := some _) rfl ?_), ⟨.inr (Eq.trans (b := some _) rfl ?_), trivial⟩⟩)
  ·show AV.own 2 0 0 2 = _; rw [h0]
  ·rfl
  ·rw [h1]; rfl
 ·(refine aD rfl ?_; refine aP () trivial ?_ ⟨.inr (Eq.trans (b := some _) rfl ?_), ⟨.inr (Eq.trans (b := some _) rfl ?_), trivial⟩⟩)
  ·show AV.own 2 0 (0 + (xs.length - k)) 2 = _
   rw [Nat.zero_add]
  ·rfl
  ·rfl
theorem x8 {m : List Cl} {j : Nat} {t : Int} {r : List Tg} {n : Nat} {N : Nat} {Q : Exit → AS → Prop} {all : Array Oper} {rest : List Oper} {tsl : List (Nat × AV)} {hsl : List (Nat × Option (List AV))} {nidl : Nat} {z0 : Lo} {md : Md} {d : Nat} {ty : TypeId} {pos : String} {af : Array Edge} {tys : Array TypeId} {x0 x1 x2 : Operand} {i0 i1 : Nat} (ha0 : ev (lk tsl) x0 = some (.own i0 0 n 4)) (ha1 : ev (lk tsl) x1 = some (.agg [iv (j : Int), iv t])) (ha2 : ev (lk tsl) x2 = some (bv false)) (hH0 : aT hsl i0 = some (flat fD (dG m j (.own i1 0 m[j]!.stk.length 2)))) (hH1 : aT hsl i1 = some (flat cH m[j]!.stk)) (hdd : Go.AL.distinct [i0, i1] = true) (hmc : MC Tryz.prog 242 [.own 0 0 n 4, .agg [iv (j : Int), iv t], bv false] [(0, some (flat fD (dG m j (.own 1 0 m[j]!.stk.length 2)))), (1, some (flat cH m[j]!.stk))] 2 (fun _ : Unit => True) (fun _ => iv 0) (fun _ => [(0, some (flat fD (dG m j (.own 5 0 r.length 2)))), (5, some (flat cH r))])) (hM : Nat.ble (nidl + 4) aV = true) (hN : Nat.blt d N = true) {md' : Md} [hmd : MdA md (fK [x0, x1, x2] ++ [.inr i0, .inr i1]) (List.map Sum.inr (List.map Prod.fst ([(i0, some (flat fD (dG m j (.own (nidl + 3) 0 r.length 2)))), ((nidl + 3), some (flat cH r)), (i1, none)] : List (Nat × Option (List AV)))) ++ [.inl d]) md'] (kk : RW Tryz.prog N all Q md' rest ⟨(d, iv 0) :: tsl, gS hsl [(i0, some (flat fD (dG m j (.own (nidl + 3) 0 r.length 2)))), ((nidl + 3), some (flat cH r)), (i1, none)], nidl + 4, z0⟩) : RW Tryz.prog N all Q md (⟨some d, .call ⟨.value (.func 242), #[x0, x1, x2], tys⟩, ty, pos, af, none⟩ :: rest) ⟨tsl, hsl, nidl, z0⟩ := by
 refine aW [i0, i1] 6 [(i0, some (flat fD (dG m j (.own (nidl + 3) 0 r.length 2)))), ((nidl + 3), some (flat cH r)), (i1, none)] hmc (avs := [.own i0 0 n 4, .agg [iv (j : Int), iv t], bv false]) ?_ hdd ?_ rfl ?_ (by simpa using hM) ?_ ?_ ?_ hN (md' := md') (hmd := hmd) kk
 ·show evL (lk tsl) [x0, x1, x2] = _
  simp only [evL, ha0, ha1, ha2]
 ·exact ⟨⟨_, _, rfl, hH0, by (repeat' (exact kE rfl))⟩, ⟨⟨_, _, rfl, hH1, by (repeat' (exact RnL.purI inferInstance))⟩, trivial⟩⟩
 ·(repeat' (first|exact RnL.purI inferInstance|exact RnV.own rfl|refine RnL.cons ?_ ?_))
 ·(repeat' (exact RnV.purI inferInstance))
 ·simp [cE]
 ·(repeat' (first|exact trivial|(refine And.intro ⟨0, _, rfl, rfl, ?_⟩ ?_)|(refine And.intro ⟨5, _, rfl, rfl, ?_⟩ ?_)|exact RnL.purI inferInstance|exact kE rfl))
theorem AI (m : List Cl) (j : Nat) (t : Int) (r : List Tg) (k n : Nat) (hm : OkM m) (hn : n = m.length) (hj : j < m.length) (hk : cM m[j]!.stk t = (k : Int)) (hal : m[j]!.alive = true) (hr : r = gY m[j]!.stk k false) : MC Tryz.prog 242 [.own 0 0 n 4, .agg [iv (j : Int), iv t], bv false] [(0, some (flat fD (dG m j (.own 1 0 m[j]!.stk.length 2)))), (1, some (flat cH m[j]!.stk))] 2 (fun _ : Unit => True) (fun _ => iv 0) (fun _ => [(0, some (flat fD (dG m j (.own 5 0 r.length 2)))), (5, some (flat cH r))]) := by
 subst hn
 have hml := hm.l
 have hcv := hU m hm
 have hst : m[j]!.stk.length ≤ 200 := (((c8 m).1 hm).2 j hj).l.2
 have hbd := fC m[j]!.stk t
 rw [hk] at hbd
 have hidx := z8 m[j]!.stk (j : Int) t (by omega)
 rw [hk] at hidx
 have hog := iC (m := m) (j := j) (X := .own 1 0 m[j]!.stk.length 2) hj
 have hol := dB (m := m) (j := j) (X := .own 1 0 m[j]!.stk.length 2)
 refine aU Tryz.func242 Tryz.ntmps242 ?_
 repeat' (first|(apply aH;first|(apply mP (k := 239) (D := [0, 1]) (h := hcv);rfl;exact .cons (.own (by simp) rfl (D4 (by simp) rfl hj)) .nil;rfl;rfl)|(with_reducible apply aX (d := 35))|(apply aA (k := 54);rfl;(apply dN);(rfl);rfl))|refine aE ?_|refine aF ?_|(refine aL ?_ ?_ <;> intro hc hq <;> try (exfalso;omega))|fail)
 all_goals (try (exfalso;omega))
 ·exfalso
  have h : (dG m j (.own 1 0 m[j]!.stk.length 2))[j]!.alive = false := by assumption
  rw [hog] at h;simp only [hal] at h;cases h
 refine bV ?_
 rw [hog]
 dsimp only
 repeat' (first|(apply aH;first|((apply fU 4);(case hx|hH|hc|hN => rfl))|(apply mP (k := 267) (D := [1]) (h := hidx);rfl;exact .cons (.own (by simp) rfl (.pur (inferInstance : Pur (flat cH _)).pf)) (.cons (.pur rfl) .nil);rfl;rfl)|(with_reducible apply aX (d := 41)))|refine aE ?_|refine aF ?_|fail)
 refine bV ?_
 rw [hog]
 dsimp only
 repeat' (first|(apply aH;first|(apply iH (d := 43) (l := k + 1) (h := m[j]!.stk.length);rfl;rfl;exact qF rfl (by omega);rfl;exact if_pos (by omega);rfl)|(apply Gq;rfl;rfl;exact HT _ _ _ rfl (by omega);rfl;rfl)|(apply Kf;rfl;rfl;rfl;exact NK _ _ (by rw [List.length_drop]) (by omega);rfl;rfl)|(with_reducible apply aX (d := 51)))|refine aE ?_|refine aF ?_|fail)
 refine bV ?_
 rw [hog]
 dsimp only
 have hfl : (flat cH m[j]!.stk).length = m[j]!.stk.length * 2 := aJ cH _
 have hsl : (shr (List.drop (k + 1) m[j]!.stk)).length ≤ 200 := Nat.le_trans (List.length_filter_le _ _) (by rw [List.length_drop]; omega)
 repeat' (first|(apply aH;first|(apply iH (d := 53) (l := 0) (h := k + 1);rfl;rfl;rfl;exact qF rfl (by omega);exact if_pos (by omega);rfl)|(apply bW;rfl;rfl;rfl;rfl;rfl;(rw [hfl]; omega);exact D3 (k := 0) rfl rfl;omega;omega;rfl;rfl;rfl)|(apply bC;rfl;rfl;rfl;rfl;rfl;(rw [aJ]; simp only [fX] <;> omega);(exact vA (by (assumption)))))|refine aE ?_|refine aF ?_|fail)
 have hre : r = m[j]!.stk.take (k + 1) ++ shr (m[j]!.stk.drop (k + 1)) := by rw [hr]; rfl
 have hrl : r.length = k + 1 + (shr (List.drop (k + 1) m[j]!.stk)).length := by rw [hre, List.length_append, List.length_take]; omega
 (refine aD rfl ?_; refine aP () trivial ?_ ⟨.inr (Eq.trans (b := some _) rfl ?_), ⟨.inr (Eq.trans (b := some _) rfl ?_), trivial⟩⟩)
 ·rfl
 ·refine congrArg some ?_
  show flat fD (dG m j (AV.own 5 0 (k + 1 - 0 + (shr (List.drop (k + 1) m[j]!.stk)).length) 2)) = _
  rw [hrl]; rfl
 ·refine congrArg some ?_
  show (List.drop 0 (flat cH m[j]!.stk)).take ((k + 1) * 2) ++ flat cH (List.drop 0 (shr (List.drop (k + 1) m[j]!.stk))) = _
  rw [List.drop_zero, List.drop_zero, eO cH (e := 2), cQ, ← hre]
theorem Kj {m : List Cl} {j : Nat} {X : AV} {v : Int} (h : j < m.length) : g6 (flat fD (dG m j X)) (0 + j * 4 + 0) [iv v] = flat fD (dG (m.set j { m[j]! with val := v }) j X) := by
 have e : dG (m.set j { m[j]! with val := v }) j X = (dG m j X).set j ⟨v, m[j]!.alive, m[j]!.next, X⟩ := by
  have e2 : (m.set j { m[j]! with val := v })[j]! = { m[j]! with val := v } := by rw [bE _ _ (by rw [List.length_set]; exact h), List.getElem_set_self]
  unfold dG
  rw [e2, List.map_set, List.set_set, List.set_set]; rfl
 rw [e]
 exact eW (by rw [dB]; exact h) (by simp) (by rw [iC h]; rfl)
theorem Ln {m : List Cl} {j : Nat} {X : AV} {b : Bool} (h : j < m.length) : g6 (flat fD (dG m j X)) (0 + j * 4 + 1) [.v (.bool b)] = flat fD (dG (m.set j { m[j]! with alive := b }) j X) := by
 have e : dG (m.set j { m[j]! with alive := b }) j X = (dG m j X).set j ⟨m[j]!.val, b, m[j]!.next, X⟩ := by
  have e2 : (m.set j { m[j]! with alive := b })[j]! = { m[j]! with alive := b } := by rw [bE _ _ (by rw [List.length_set]; exact h), List.getElem_set_self]
  unfold dG
  rw [e2, List.map_set, List.set_set, List.set_set]; rfl
 rw [e]
 exact eW (by rw [dB]; exact h) (by simp) (by rw [iC h]; rfl)
theorem rI (m : List Cl) (hm : OkM m) (x : Pt) : PC Tryz.prog 202 [sl bO m, nB x] (fun r => r = .tup [sl bO (dZ m x false), iv (pP m x), iv (bF m x false)]) := by
 have hml := hm.l
 by_cases hk : bF m x false = 0
 ·obtain ⟨c, t⟩ := x
  obtain ⟨h1, h2, h3, h4, _⟩ := dR hk
  obtain ⟨j, rfl⟩ := Int.eq_ofNat_of_zero_le (show 0 ≤ c from h1)
  have hj : j < m.length := by have : (j : Int) < m.length := h2;omega
  obtain ⟨k, hkk⟩ := Int.eq_ofNat_of_zero_le (show 0 ≤ cM m[j]!.stk t from h4)
  obtain ⟨r, hr⟩ : ∃ r, r = gY m[j]!.stk k false := ⟨_, rfl⟩
  have hto := AI m j t r k m.length hm rfl hj hkk h3 hr
  have hog := iC (m := m) (j := j) (X := .own (0 + 1 + 3 + 3) 0 r.length 2) hj
  have hol := dB (m := m) (j := j) (X := .own (0 + 1 + 3 + 3) 0 r.length 2)
  refine aC Tryz.func202 Tryz.ntmps202 ?_
  repeat' (first|(apply aH;first|(apply p7 (j := j);rfl;exact uA m j hm hj;rfl;rfl)|(apply x8 (m := m) (j := j) (t := t) (r := r) (n := m.length);rfl;rfl;rfl;rfl;rfl;rfl;exact hto;rfl;rfl))|refine aE ?_|refine aF ?_|refine bQ ?_|fail)
  refine aR (Le.cls (o := 2) (q := 7) (j := j) (k := r.length) (m := m) (r := r) rfl rfl rfl hj (by decide)) ?_
  refine aR (Le.frzD (d := 4) (i := 2) rfl rfl) ?_
  rw [hog]
  refine aD (l := [.imm m.length (flat bO (m.set j { m[j]! with stk := r })), iv m[j]!.val, iv 0]) rfl ?_
  have eM : dZ m ⟨j, t⟩ false = m.set j { m[j]! with stk := r } := by
   unfold dZ uZ;rw [if_pos hk]; dsimp only
   rw [Int.toNat_natCast, hkk, Int.toNat_natCast, hr]
  have eN : pP m ⟨j, t⟩ = m[j]!.val := by unfold pP;rw [if_pos hk]; rfl
  rw [eM, eN, hk, fA (by rw [List.length_set])]
  exact ⟨rfl, by exact Pur.pf⟩
 ·refine aC Tryz.func202 Tryz.ntmps202 ?_
  repeat' (first|(apply aH;first|(apply iA;rfl;exact kK m hm;rfl;rfl)|(apply nJ (m := m) (x := x) (wr := false) (n := m.length);rfl;rfl;rfl;rfl;exact oZ m x false _ hm rfl hk;rfl;rfl))|refine aE ?_|refine aF ?_|(refine aL ?_ ?_ <;> intro hc hq <;> try (exfalso;omega))|fail)
  (refine aR (Le.frzD (d := 4) (i := 2) rfl rfl) ?_; refine aD rfl ?_)
  refine ⟨?_, by exact Pur.pf⟩
  simp only [aO]
  unfold dZ pP;rw [if_neg hk, if_neg hk]
theorem Ca (m : List Cl) (hm : OkM m) (x : Pt) : PC Tryz.prog 243 [sl bO m, nB x] (fun r => r = .tup [sl bO (lV m x), iv (bF m x true)]) := by
 have hml := hm.l
 by_cases hk : bF m x true = 0
 ·obtain ⟨c, t⟩ := x
  obtain ⟨h1, h2, h3, h4, hu⟩ := dR hk
  obtain ⟨j, rfl⟩ := Int.eq_ofNat_of_zero_le (show 0 ≤ c from h1)
  have hj : j < m.length := by have : (j : Int) < m.length := h2;omega
  obtain ⟨k, hkk⟩ := Int.eq_ofNat_of_zero_le (show 0 ≤ cM m[j]!.stk t from h4)
  have huk : m[j]!.stk[k]!.uq = true := by
   have h : m[j]!.stk[(cM m[j]!.stk t).toNat]!.uq = true := hu rfl
   rwa [hkk, Int.toNat_natCast] at h
  have htw := tH m j t k m.length hm rfl hj hkk h3 huk
  have hrl : (m[j]!.stk.take (k + 1)).length = k + 1 := by
   have hb := fC m[j]!.stk t
   rw [List.length_take]; omega
  have hol := dB (m := m) (j := j) (X := .own (0 + 1 + 2) 0 (k + 1) 2)
  have hls : (m.set j { m[j]! with alive := false }).length = m.length := List.length_set
  refine aC Tryz.func243 Tryz.ntmps243 ?_
  repeat' (first|(apply aH;first|(apply p7 (j := j);rfl;exact uA m j hm hj;rfl;rfl)|(apply wW (m := m) (j := j) (t := t) (k := k) (n := m.length);rfl;rfl;rfl;rfl;rfl;rfl;exact htw;rfl;rfl)|(apply bC;rfl;rfl;rfl;rfl;rfl;(rw [aJ]; simp only [List.length_append, List.length_cons, List.length_nil]; omega);exact Ln hj))|refine aE ?_|refine aF ?_|fail)
  refine aR (Le.cls (o := 2) (q := 3) (j := j) (k := k + 1) (m := m.set j { m[j]! with alive := false }) (r := m[j]!.stk.take (k + 1)) rfl rfl hrl.symm (by rw [hls]; exact hj) (by decide)) ?_
  refine aR (Le.frzD (d := 4) (i := 2) rfl rfl) ?_
  rw [lO hj, set_set]
  refine aD (l := [.imm m.length (flat bO (m.set j { m[j]! with alive := false, stk := m[j]!.stk.take (k + 1) })), iv 0]) rfl ?_
  have eM : lV m ⟨j, t⟩ = m.set j { m[j]! with alive := false, stk := m[j]!.stk.take (k + 1) } := by
   unfold lV uZ;rw [if_pos hk]; dsimp only
   rw [Int.toNat_natCast, hkk, Int.toNat_natCast]; unfold gY;rw [if_pos rfl]
  rw [eM, hk, fA (by rw [List.length_set])]
  exact ⟨rfl, by exact Pur.pf⟩
 ·refine aC Tryz.func243 Tryz.ntmps243 ?_
  repeat' (first|(apply aH;first|(apply iA;rfl;exact kK m hm;rfl;rfl)|(apply nJ (m := m) (x := x) (wr := true) (n := m.length);rfl;rfl;rfl;rfl;exact oZ m x true _ hm rfl hk;rfl;rfl))|refine aE ?_|refine aF ?_|(refine aL ?_ ?_ <;> intro hc hq <;> try (exfalso;omega))|fail)
  (refine aR (Le.frzD (d := 4) (i := 2) rfl rfl) ?_; refine aD rfl ?_)
  refine ⟨?_, by exact Pur.pf⟩
  simp only [aO]
  unfold lV;rw [if_neg hk]
theorem zX (m : List Cl) (hm : OkM m) (x : Pt) (v : Int) : PC Tryz.prog 203 [sl bO m, nB x, iv v] (fun r => r = .tup [sl bO (Ax m x v), iv (x6 m x v)]) := by
 have hml := hm.l
 by_cases hv : 0 ≤ v ∧ v ≤ 9
 case neg =>
  have hwk : x6 m x v = 4 := by unfold x6;rw [if_neg hv]
  have e : Ax m x v = m := by unfold Ax;rw [if_neg (by rw [hwk]; decide)]
  refine aC Tryz.func203 Tryz.ntmps203 ?_
  repeat' (first|(apply aH;first|(apply iA;rfl;exact kK m hm;rfl;rfl)|(apply aA (k := 54);rfl;(apply dN);(rfl);rfl))|refine aE ?_|refine aF ?_|(refine aL ?_ ?_ <;> intro hc hq <;> try (exfalso;omega))|fail)
  all_goals (try (exfalso;omega))
  all_goals (
   (refine aR (Le.frzD (d := 6) (i := 2) rfl rfl) ?_; refine aD rfl ?_)
   refine ⟨?_, by exact Pur.pf⟩
   simp only [aO]
   rw [e, hwk])
 case pos =>
 have hwk : x6 m x v = bF m x true := by unfold x6;rw [if_pos hv]
 by_cases hk : bF m x true = 0
 ·obtain ⟨c, t⟩ := x
  obtain ⟨h1, h2, h3, h4, hu⟩ := dR hk
  obtain ⟨j, rfl⟩ := Int.eq_ofNat_of_zero_le (show 0 ≤ c from h1)
  have hj : j < m.length := by have : (j : Int) < m.length := h2;omega
  obtain ⟨k, hkk⟩ := Int.eq_ofNat_of_zero_le (show 0 ≤ cM m[j]!.stk t from h4)
  have huk : m[j]!.stk[k]!.uq = true := by
   have h : m[j]!.stk[(cM m[j]!.stk t).toNat]!.uq = true := hu rfl
   rwa [hkk, Int.toNat_natCast] at h
  have htw := tH m j t k m.length hm rfl hj hkk h3 huk
  have hrl : (m[j]!.stk.take (k + 1)).length = k + 1 := by
   have hb := fC m[j]!.stk t
   rw [List.length_take]; omega
  have hol := dB (m := m) (j := j) (X := .own (0 + 1 + 2) 0 (k + 1) 2)
  have hls : (m.set j { m[j]! with val := v }).length = m.length := List.length_set
  refine aC Tryz.func203 Tryz.ntmps203 ?_
  repeat' (first|(apply aH;first|(apply p7 (j := j);rfl;exact uA m j hm hj;rfl;rfl)|(apply wW (m := m) (j := j) (t := t) (k := k) (n := m.length);rfl;rfl;rfl;rfl;rfl;rfl;exact htw;rfl;rfl)|(apply bC;rfl;rfl;rfl;rfl;rfl;(rw [aJ]; simp only [List.length_append, List.length_cons, List.length_nil]; omega);exact Kj hj)|(apply aA (k := 54);rfl;(apply dN);(rfl);rfl))|refine aE ?_|refine aF ?_|(refine aL ?_ ?_ <;> intro hc hq <;> try (exfalso;omega))|fail)
  refine aR (Le.cls (o := 2) (q := 3) (j := j) (k := k + 1) (m := m.set j { m[j]! with val := v }) (r := m[j]!.stk.take (k + 1)) rfl rfl hrl.symm (by rw [hls]; exact hj) (by decide)) ?_
  refine aR (Le.frzD (d := 6) (i := 2) rfl rfl) ?_
  rw [lO hj, set_set]
  refine aD (l := [.imm m.length (flat bO (m.set j { m[j]! with val := v, stk := m[j]!.stk.take (k + 1) })), iv 0]) rfl ?_
  have eM : Ax m ⟨j, t⟩ v = m.set j { m[j]! with val := v, stk := m[j]!.stk.take (k + 1) } := by
   unfold Ax uZ;rw [hwk, if_pos hk]; dsimp only
   rw [Int.toNat_natCast, hkk, Int.toNat_natCast]; unfold gY;rw [if_pos rfl]
  rw [eM, hwk, hk, fA (by rw [List.length_set])]
  exact ⟨rfl, by exact Pur.pf⟩
 ·refine aC Tryz.func203 Tryz.ntmps203 ?_
  repeat' (first|(apply aH;first|(apply iA;rfl;exact kK m hm;rfl;rfl)|(apply nJ (m := m) (x := x) (wr := true) (n := m.length);rfl;rfl;rfl;rfl;exact oZ m x true _ hm rfl hk;rfl;rfl)|(apply aA (k := 54);rfl;(apply dN);(rfl);rfl))|refine aE ?_|refine aF ?_|(refine aL ?_ ?_ <;> intro hc hq <;> try (exfalso;omega))|fail)
  (refine aR (Le.frzD (d := 6) (i := 2) rfl rfl) ?_; refine aD rfl ?_)
  refine ⟨?_, by exact Pur.pf⟩
  simp only [aO]
  unfold Ax;rw [hwk, if_neg hk]
theorem Dg (m : List Cl) (hm : OkM m) (v : Int) : PC Tryz.prog 240 [sl bO m, iv v] (fun r => r = .tup [sl bO (m ++ [vY v]), .agg [iv m.length, iv 0]]) := by
 have hml := hm.l
 refine aC Tryz.func240 Tryz.ntmps240 ?_
 repeat' (first|(apply aH;first|(apply iA;rfl;exact kK m hm;rfl;rfl)|(apply aK (t := _);rfl;rfl;rfl;(first|exact (rfl:_=some [_, _])|exact (rfl:_=some [_, _, _, _]));rfl;rfl))|refine aE ?_|refine aF ?_|fail)
 have e2 : AV.imm (m.length + 1) (((flat bO m).drop 0).take (m.length * 4) ++ [iv v, bv true, iv 1, .imm 1 [iv 0, bv true]]) = sl bO (m ++ [vY v]) := by
  have e : ((flat bO m).drop 0).take (m.length * 4) ++ [iv v, bv true, iv 1, .imm 1 [iv 0, bv true]] = flat bO (m ++ [vY v]) := eI rfl rfl
  rw [e]; exact fA (by rw [List.length_append]; rfl)
 refine aR (Le.frzD (d := 4) (i := 5) rfl rfl) ?_
 refine aD (l := [AV.imm (m.length + 1) (((flat bO m).drop 0).take (m.length * 4) ++ [iv v, bv true, iv 1, .imm 1 [iv 0, bv true]]), .agg [iv m.length, iv 0]]) rfl ?_
 rw [e2]
 exact ⟨rfl, by exact Pur.pf⟩
theorem DE (m : List Cl) (hm : OkM m) (v : Int) : PC Tryz.prog 198 [sl bO m, iv v] (fun r => r = .tup (if 0 ≤ v ∧ v ≤ 9 ∧ m.length < 200 then [sl bO (m ++ [vY v]), .agg [iv m.length, iv 0], bv true] else [sl bO [], .agg [iv 0, iv 0], bv false])) := by
 have hml := hm.l
 have hcv := hU m hm
 have hnc := Dg m hm v
 refine aC Tryz.func198 Tryz.ntmps198 ?_
 repeat' (first|(apply aH;first|(apply aA (k := 239);rfl;exact hcv;exact Pur.pf;rfl)|(apply aA (k := 240);rfl;exact hnc;exact Pur.pf;rfl)|(apply aA (k := 54);rfl;(apply dN);(rfl);rfl))|refine aE ?_|refine aF ?_|(refine aL ?_ ?_ <;> intro hc hq <;> try (exfalso;omega))|(refine bS ?_ ?_ <;> intro hg hq <;> try (exfalso;omega))|refine bQ ?_|fail)
 ·refine aR (Le.nilImm (d := 4) rfl) ?_
  exact aD (l := [sl bO [], .agg [iv 0, iv 0], bv false]) rfl ⟨by rw [if_neg (by omega)]; rfl, rfl⟩
 ·exact aD (l := [sl bO (m ++ [vY v]), .agg [iv m.length, iv 0], bv true]) rfl ⟨by rw [if_pos (by omega)]; rfl, by exact Pur.pf⟩
 ·refine aR (Le.nilImm (d := 4) rfl) ?_
  exact aD (l := [sl bO [], .agg [iv 0, iv 0], bv false]) rfl ⟨by rw [if_neg (by omega)]; rfl, rfl⟩
theorem F1 {m : List Cl} {j : Nat} {t : Int} {r : List Tg} {n : Nat} {N : Nat} {Q : Exit → AS → Prop} {all : Array Oper} {rest : List Oper} {tsl : List (Nat × AV)} {hsl : List (Nat × Option (List AV))} {nidl : Nat} {z0 : Lo} {md : Md} {d : Nat} {ty : TypeId} {pos : String} {af : Array Edge} {tys : Array TypeId} {x0 x1 x2 : Operand} {i0 i1 : Nat} (ha0 : ev (lk tsl) x0 = some (.own i0 0 n 4)) (ha1 : ev (lk tsl) x1 = some (.agg [iv (j : Int), iv t])) (ha2 : ev (lk tsl) x2 = some (bv true)) (hH0 : aT hsl i0 = some (flat fD (dG m j (.own i1 0 m[j]!.stk.length 2)))) (hH1 : aT hsl i1 = some (flat cH m[j]!.stk)) (hdd : Go.AL.distinct [i0, i1] = true) (hmc : MC Tryz.prog 242 [.own 0 0 n 4, .agg [iv (j : Int), iv t], bv true] [(0, some (flat fD (dG m j (.own 1 0 m[j]!.stk.length 2)))), (1, some (flat cH m[j]!.stk))] 2 (fun _ : Unit => True) (fun _ => iv 0) (fun _ => [(0, some (flat fD (dG m j (.own 1 0 r.length 2)))), (1, some (flat cH r))])) (hM : Nat.ble (nidl + 0) aV = true) (hN : Nat.blt d N = true) {md' : Md} [hmd : MdA md (fK [x0, x1, x2] ++ [.inr i0, .inr i1]) (List.map Sum.inr (List.map Prod.fst ([(i0, some (flat fD (dG m j (.own i1 0 r.length 2)))), (i1, some (flat cH r))] : List (Nat × Option (List AV)))) ++ [.inl d]) md'] (kk : RW Tryz.prog N all Q md' rest ⟨(d, iv 0) :: tsl, gS hsl [(i0, some (flat fD (dG m j (.own i1 0 r.length 2)))), (i1, some (flat cH r))], nidl + 0, z0⟩) : RW Tryz.prog N all Q md (⟨some d, .call ⟨.value (.func 242), #[x0, x1, x2], tys⟩, ty, pos, af, none⟩ :: rest) ⟨tsl, hsl, nidl, z0⟩ := by
 refine aW [i0, i1] 2 [(i0, some (flat fD (dG m j (.own i1 0 r.length 2)))), (i1, some (flat cH r))] hmc (avs := [.own i0 0 n 4, .agg [iv (j : Int), iv t], bv true]) ?_ hdd ?_ rfl ?_ (by simpa using hM) ?_ ?_ ?_ hN (md' := md') (hmd := hmd) kk
 ·show evL (lk tsl) [x0, x1, x2] = _
  simp only [evL, ha0, ha1, ha2]
 ·exact ⟨⟨_, _, rfl, hH0, by (repeat' (exact kE rfl))⟩, ⟨⟨_, _, rfl, hH1, by (repeat' (exact RnL.purI inferInstance))⟩, trivial⟩⟩
 ·(repeat' (first|exact RnL.purI inferInstance|exact RnV.own rfl|refine RnL.cons ?_ ?_))
 ·(repeat' (exact RnV.purI inferInstance))
 ·simp [cE]
 ·(repeat' (first|exact trivial|(refine And.intro ⟨0, _, rfl, rfl, ?_⟩ ?_)|(refine And.intro ⟨1, _, rfl, rfl, ?_⟩ ?_)|exact RnL.purI inferInstance|exact kE rfl))
theorem HQ (m : List Cl) (j : Nat) (t : Int) (r : List Tg) (k n : Nat) (hm : OkM m) (hn : n = m.length) (hj : j < m.length) (hk : cM m[j]!.stk t = (k : Int)) (hal : m[j]!.alive = true) (hu : m[j]!.stk[k]!.uq = true) (hre : m[j]!.stk.take (k + 1) = r) (hrk : k + 1 = r.length) : MC Tryz.prog 242 [.own 0 0 n 4, .agg [iv (j : Int), iv t], bv true] [(0, some (flat fD (dG m j (.own 1 0 m[j]!.stk.length 2)))), (1, some (flat cH m[j]!.stk))] 2 (fun _ : Unit => True) (fun _ => iv 0) (fun _ => [(0, some (flat fD (dG m j (.own 1 0 r.length 2)))), (1, some (flat cH r))]) := by
 have h := tH m j t k n hm hn hj hk hal hu
 rw [hre, hrk] at h
 exact h
theorem KX (m : List Cl) (hm : OkM m) (j k : Nat) (t : Int) (r : List Tg) (hj : j < m.length) (hkk : cM m[j]!.stk t = (k : Int)) (hk : bF m ⟨(j : Int), t⟩ false = 0) (hr : r = gY m[j]!.stk k false) : PC Tryz.prog 200 [sl bO m, .agg [iv (j : Int), iv t], bv false] (fun z => z = .tup [sl bO (jX m m j false r), nB (jW m j r), iv (jY m j r)]) := by
 have hml := hm.l
 obtain ⟨h1, h2, h3, h4, hu⟩ := dR hk
 have hc := ((c8 m).1 hm).2 j hj
 have hb := fC m[j]!.stk t
 have hrl : r.length ≤ 200 := by rw [hr]; exact Nat.le_trans tchS_sub.length_le hc.l.2
 have hnx := hc.n
 obtain ⟨_, e2, _⟩ := wT hk (r := r) (by rw [hr]; show _ = gY m[j]!.stk (cM m[j]!.stk t).toNat false;rw [hkk]; rfl)
 have e2' : n3 m ⟨(j : Int), t⟩ false = jX m m j false r := e2
 have hok := hm.ln ⟨(j : Int), t⟩ false
 rw [e2'] at hok
 have hto := AI m j t r k m.length hm rfl hj hkk h3 hr
 have hog := iC (m := m) (j := j) (X := .own (0 + 1 + 1 + 3 + 3) 0 r.length 2) hj
 have hol := dB (m := m) (j := j) (X := .own (0 + 1 + 1 + 3 + 3) 0 r.length 2)
 have hol2 := dB (m := m) (j := j) (X := .own (0 + 1 + 1 + 3 + 4 + 1) 0 (r.length + 1) 2)
 have hm2 : (m.set j { m[j]! with next := m[j]!.next + 1 }).length = m.length := List.length_set
 refine aC Tryz.func200 Tryz.ntmps200 ?_
 repeat' (first|(apply aH;first|(apply p7 (j := j);rfl;exact uA m j hm hj;rfl;rfl)|(apply x8 (m := m) (j := j) (t := t) (r := r) (n := m.length);rfl;rfl;rfl;rfl;rfl;rfl;exact hto;rfl;rfl)|(with_reducible apply aX (d := 32)))|refine aE ?_|refine aF ?_|fail)
 refine bV ?_
 rw [hog]
 dsimp only
 by_cases hf : oH m j r
 ·have eM : jX m m j false r = m := by unfold jX; rw [if_pos hf]
  have eP : jW m j r = ⟨0, 0⟩ := by unfold jW;rw [if_pos hf]
  have eK : jY m j r = 4 := by unfold jY;rw [if_pos hf]
  rw [eM, eP, eK]
  unfold oH at hf
  repeat' (first|(apply aH;first|(apply iA;rfl;exact kK m hm;rfl;rfl)|(with_reducible apply aX (d := 44)))|refine aE ?_|refine aF ?_|(refine aL ?_ ?_ <;> intro hc hq <;> try (exfalso;omega))|(refine bS ?_ ?_ <;> intro hg hq <;> try (exfalso;omega))|fail)
  ·refine aR (Le.frzD (d := 6) (i := 10) rfl rfl) ?_
   exact aD (l := [sl bO m, .agg [iv 0, iv 0], iv 4]) rfl ⟨rfl, by exact Pur.pf⟩
  ·exfalso
   have h : ¬ (dG m j (.own (0 + 1 + 1 + 3 + 3) 0 r.length 2))[j]!.next = 1000 := by assumption
   rw [hog] at h
   dsimp only at h
   omega
  ·refine aR (Le.frzD (d := 6) (i := 10) rfl rfl) ?_
   exact aD (l := [sl bO m, .agg [iv 0, iv 0], iv 4]) rfl ⟨rfl, by exact Pur.pf⟩
 ·have eM : jX m m j false r = m.set j (psh { m[j]! with stk := r } false) := by unfold jX; rw [if_neg hf]
  have eP : jW m j r = ⟨j, m[j]!.next⟩ := by unfold jW;rw [if_neg hf]
  have eK : jY m j r = 0 := by unfold jY;rw [if_neg hf]
  rw [eM] at hok
  rw [eM, eP, eK]
  unfold oH at hf
  have hown := kK _ hok
  repeat' (first|(apply aH;first|(with_reducible apply aX (d := 41))|(with_reducible apply aX (d := 54)))|refine aE ?_|refine aF ?_|(refine aL ?_ ?_ <;> intro hc hq <;> try (exfalso;omega))|(refine bS ?_ ?_ <;> intro hg hq <;> try (exfalso;omega))|fail)
  ·exfalso
   have h : (dG m j (.own (0 + 1 + 1 + 3 + 3) 0 r.length 2))[j]!.next = 1000 := by assumption
   rw [hog] at h
   dsimp only at h
   omega
  ·refine bV ?_
   rw [hog]
   dsimp only
   repeat' (first|(apply aH;first|(apply bC;rfl;rfl;rfl;rfl;rfl;(rw [aJ, dB]; simp only [List.length_append, List.length_cons, List.length_nil]; omega);(first|exact vA hj|exact yB hj))|(apply bW;rfl;rfl;rfl;rfl;rfl;(rw [aJ]; omega);(rfl);omega;omega;(exact tC (by (omega)));rfl;rfl)|(apply aK (t := _);rfl;rfl;rfl;(exact (rfl:_=some [_, _]));rfl;rfl))|refine aE ?_|refine aF ?_|fail)
   refine AW.le ?_ (Le.cls (o := 3) (q := 0 + 1 + 1 + 3 + 4 + 1) (j := j) (k := r.length + 1) (m := m.set j { m[j]! with next := m[j]!.next + 1 }) (r := r ++ [⟨m[j]!.next, false⟩]) rfl rfl (by (rw [List.length_append]; rfl)) (by omega) (by decide))
   refine AW.le ?_ (Le.frzD (d := 9) (i := 3) rfl rfl)
   have e : (m.set j { m[j]! with next := m[j]!.next + 1 }).set j { (m.set j { m[j]! with next := m[j]!.next + 1 })[j]! with stk := r ++ [⟨m[j]!.next, false⟩] } = m.set j (psh { m[j]! with stk := r } false) := by
    rw [lO hj, set_set]; rfl
   rw [e, fA (f := bO) (xs := m.set j (psh { m[j]! with stk := r } false)) (by rw [List.length_set])]
   repeat' (first|(apply aH;(apply iA;rfl;exact hown;rfl;rfl))|refine aE ?_|refine aF ?_|refine bQ ?_|fail)
   refine aR (Le.frzD (d := 6) (i := 12) rfl rfl) ?_
   exact aD (l := [sl bO (m.set j (psh { m[j]! with stk := r } false)), .agg [iv (j : Int), iv m[j]!.next], iv 0]) rfl ⟨rfl, by exact Pur.pf⟩
  all_goals (exfalso;omega)
theorem Lk (m : List Cl) (hm : OkM m) (j k : Nat) (t : Int) (r : List Tg) (hj : j < m.length) (hkk : cM m[j]!.stk t = (k : Int)) (hk : bF m ⟨(j : Int), t⟩ true = 0) (hr : r = gY m[j]!.stk k true) : PC Tryz.prog 200 [sl bO m, .agg [iv (j : Int), iv t], bv true] (fun z => z = .tup [sl bO (jX m m j true r), nB (jW m j r), iv (jY m j r)]) := by
 have hml := hm.l
 obtain ⟨h1, h2, h3, h4, hu⟩ := dR hk
 have hc := ((c8 m).1 hm).2 j hj
 have hb := fC m[j]!.stk t
 have hrl : r.length ≤ 200 := by rw [hr]; exact Nat.le_trans tchS_sub.length_le hc.l.2
 have hnx := hc.n
 obtain ⟨_, e2, _⟩ := wT hk (r := r) (by rw [hr]; show _ = gY m[j]!.stk (cM m[j]!.stk t).toNat true;rw [hkk]; rfl)
 have e2' : n3 m ⟨(j : Int), t⟩ true = jX m m j true r := e2
 have hok := hm.ln ⟨(j : Int), t⟩ true
 rw [e2'] at hok
 have huk : m[j]!.stk[k]!.uq = true := by
  have h : m[j]!.stk[(cM m[j]!.stk t).toNat]!.uq = true := hu rfl
  rwa [hkk, Int.toNat_natCast] at h
 have hre : m[j]!.stk.take (k + 1) = r := by rw [hr]; unfold gY;rw [if_pos rfl]
 have hrk : k + 1 = r.length := by rw [← hre, List.length_take]; omega
 have hto := HQ m j t r k m.length hm rfl hj hkk h3 huk hre hrk
 clear hre hrk huk hu hr hkk
 have hog := iC (m := m) (j := j) (X := .own (0 + 1 + 1 + 2) 0 r.length 2) hj
 have hol := dB (m := m) (j := j) (X := .own (0 + 1 + 1 + 2) 0 r.length 2)
 have hol2 := dB (m := m) (j := j) (X := .own (0 + 1 + 1 + 3 + 0 + 1) 0 (r.length + 1) 2)
 have hm2 : (m.set j { m[j]! with next := m[j]!.next + 1 }).length = m.length := List.length_set
 refine aC Tryz.func200 Tryz.ntmps200 ?_
 repeat' (first|(apply aH;first|(apply p7 (j := j);rfl;exact uA m j hm hj;rfl;rfl)|(apply F1 (m := m) (j := j) (t := t) (r := r) (n := m.length);rfl;rfl;rfl;rfl;rfl;rfl;exact hto;rfl;rfl)|(with_reducible apply aX (d := 32)))|refine aE ?_|refine aF ?_|fail)
 refine bV ?_
 rw [hog]
 dsimp only
 by_cases hf : oH m j r
 ·have eM : jX m m j true r = m := by unfold jX; rw [if_pos hf]
  have eP : jW m j r = ⟨0, 0⟩ := by unfold jW;rw [if_pos hf]
  have eK : jY m j r = 4 := by unfold jY;rw [if_pos hf]
  rw [eM, eP, eK]
  unfold oH at hf
  repeat' (first|(apply aH;first|(apply iA;rfl;exact kK m hm;rfl;rfl)|(with_reducible apply aX (d := 44)))|refine aE ?_|refine aF ?_|(refine aL ?_ ?_ <;> intro hc hq <;> try (exfalso;omega))|(refine bS ?_ ?_ <;> intro hg hq <;> try (exfalso;omega))|fail)
  ·refine aR (Le.frzD (d := 6) (i := 6) rfl rfl) ?_
   exact aD (l := [sl bO m, .agg [iv 0, iv 0], iv 4]) rfl ⟨rfl, by exact Pur.pf⟩
  ·exfalso
   have h : ¬ (dG m j (.own (0 + 1 + 1 + 2) 0 r.length 2))[j]!.next = 1000 := by assumption
   rw [hog] at h
   dsimp only at h
   omega
  ·refine aR (Le.frzD (d := 6) (i := 6) rfl rfl) ?_
   exact aD (l := [sl bO m, .agg [iv 0, iv 0], iv 4]) rfl ⟨rfl, by exact Pur.pf⟩
 ·have eM : jX m m j true r = m.set j (psh { m[j]! with stk := r } true) := by unfold jX; rw [if_neg hf]
  have eP : jW m j r = ⟨j, m[j]!.next⟩ := by unfold jW;rw [if_neg hf]
  have eK : jY m j r = 0 := by unfold jY;rw [if_neg hf]
  rw [eM] at hok
  rw [eM, eP, eK]
  unfold oH at hf
  have hown := kK _ hok
  repeat' (first|(apply aH;first|(with_reducible apply aX (d := 41))|(with_reducible apply aX (d := 54)))|refine aE ?_|refine aF ?_|(refine aL ?_ ?_ <;> intro hc hq <;> try (exfalso;omega))|(refine bS ?_ ?_ <;> intro hg hq <;> try (exfalso;omega))|fail)
  ·exfalso
   have h : (dG m j (.own (0 + 1 + 1 + 2) 0 r.length 2))[j]!.next = 1000 := by assumption
   rw [hog] at h
   dsimp only at h
   omega
  ·refine bV ?_
   rw [hog]
   dsimp only
   repeat' (first|(apply aH;first|(apply bC;rfl;rfl;rfl;rfl;rfl;(rw [aJ, dB]; simp only [List.length_append, List.length_cons, List.length_nil]; omega);(first|exact vA hj|exact yB hj))|(apply bW;rfl;rfl;rfl;rfl;rfl;(rw [aJ]; omega);(rfl);omega;omega;(exact tC (by (omega)));rfl;rfl)|(apply aK (t := _);rfl;rfl;rfl;(exact (rfl:_=some [_, _]));rfl;rfl))|refine aE ?_|refine aF ?_|fail)
   refine AW.le ?_ (Le.cls (o := 3) (q := 0 + 1 + 1 + 3 + 0 + 1) (j := j) (k := r.length + 1) (m := m.set j { m[j]! with next := m[j]!.next + 1 }) (r := r ++ [⟨m[j]!.next, true⟩]) rfl rfl (by (rw [List.length_append]; rfl)) (by omega) (by decide))
   refine AW.le ?_ (Le.frzD (d := 9) (i := 3) rfl rfl)
   have e : (m.set j { m[j]! with next := m[j]!.next + 1 }).set j { (m.set j { m[j]! with next := m[j]!.next + 1 })[j]! with stk := r ++ [⟨m[j]!.next, true⟩] } = m.set j (psh { m[j]! with stk := r } true) := by
    rw [lO hj, set_set]; rfl
   rw [e, fA (f := bO) (xs := m.set j (psh { m[j]! with stk := r } true)) (by rw [List.length_set])]
   repeat' (first|(apply aH;(apply iA;rfl;exact hown;rfl;rfl))|refine aE ?_|refine aF ?_|refine bQ ?_|fail)
   refine aR (Le.frzD (d := 6) (i := 8) rfl rfl) ?_
   exact aD (l := [sl bO (m.set j (psh { m[j]! with stk := r } true)), .agg [iv (j : Int), iv m[j]!.next], iv 0]) rfl ⟨rfl, by exact Pur.pf⟩
  all_goals (exfalso;omega)
theorem Lx (m : List Cl) (hm : OkM m) (x : Pt) (u : Bool) : PC Tryz.prog 200 [sl bO m, nB x, bv u] (fun r => r = .tup [sl bO (n3 m x u), nB (sB m x u), iv (mD m x u)]) := by
 have hml := hm.l
 by_cases hk : bF m x u = 0
 ·obtain ⟨c, t⟩ := x
  obtain ⟨h1, h2, h3, h4, hu⟩ := dR hk
  obtain ⟨j, rfl⟩ := Int.eq_ofNat_of_zero_le (show 0 ≤ c from h1)
  have hj : j < m.length := by have : (j : Int) < m.length := h2;omega
  obtain ⟨k, hkk⟩ := Int.eq_ofNat_of_zero_le (show 0 ≤ cM m[j]!.stk t from h4)
  obtain ⟨r, hr⟩ : ∃ r, r = gY m[j]!.stk k u := ⟨_, rfl⟩
  obtain ⟨e1, e2, e3⟩ := wT hk (r := r) (by rw [hr]; show _ = gY m[j]!.stk (cM m[j]!.stk t).toNat u;rw [hkk]; rfl)
  rw [e1, e2, e3]
  cases u
  ·exact KX m hm j k t r hj hkk hk hr
  ·exact Lk m hm j k t r hj hkk hk hr
 ·obtain ⟨e1, e2, e3⟩ := H3 hk
  rw [e1, e2, e3]
  refine aC Tryz.func200 Tryz.ntmps200 ?_
  repeat' (first|(apply aH;first|(apply iA;rfl;exact kK m hm;rfl;rfl)|(apply nJ (m := m) (x := x) (wr := u) (n := m.length);rfl;rfl;rfl;rfl;exact oZ m x u _ hm rfl hk;rfl;rfl))|refine aE ?_|refine aF ?_|(refine aL ?_ ?_ <;> intro hc hq <;> try (exfalso;omega))|fail)
  refine aR (Le.frzD (d := 6) (i := 3) rfl rfl) ?_
  exact aD (l := [sl bO m, .agg [iv 0, iv 0], iv (bF m x u)]) rfl ⟨rfl, by exact Pur.pf⟩
abbrev mO (ts : List Int) (bd : List AL.Stmt) (pts : List Pnt) (i1 i2 : Nat) (s : Mc) : List AV := [aG ts bd pts, .own i1 0 ts.length 4, sl bO s.cells, .own i2 0 s.read.length 1]
theorem Bh {ts : List Int} {bd : List AL.Stmt} {pts : List Pnt} {s : Mc} {v : Nat} {N : Nat} {Q : Exit → AS → Prop} {all : Array Oper} {rest : List Oper} {tsl : List (Nat × AV)} {hsl : List (Nat × Option (List AV))} {nidl : Nat} {z0 : Lo} {md : Md} {d : Nat} {ty : TypeId} {pos : String} {af : Array Edge} {tys : Array TypeId} {x0 x1 : Operand} {i0 i1 i2 : Nat} (ha0 : ev (lk tsl) x0 = some (.optr i0 0)) (ha1 : ev (lk tsl) x1 = some (iv (v : Int))) (hH0 : aT hsl i0 = some (mO ts bd pts i1 i2 s)) (hH1 : aT hsl i1 = some (flat dH s.slots)) (hH2 : aT hsl i2 = some (flat cI s.read)) (hdd : Go.AL.distinct [i0, i1, i2] = true) (hmc : MC Tryz.prog 204 [.optr 0 0, iv (v : Int)] [(0, some (mO ts bd pts 1 2 s)), (1, some (flat dH s.slots)), (2, some (flat cI s.read))] 3 (fun _ : Unit => True) (fun _ => iv (oN (bF s.cells s.slots[v]!.ptr true))) (fun _ => [(0, some ([aG ts bd pts, .own 1 0 ts.length 4, sl bO (lV s.cells s.slots[v]!.ptr), .own 2 0 s.read.length 1])), (1, some (flat dH s.slots)), (2, some (flat cI s.read))])) (hM : Nat.ble (nidl + 0) aV = true) (hN : Nat.blt d N = true) {md' : Md} [hmd : MdA md (fK [x0, x1] ++ [.inr i0, .inr i1, .inr i2]) (List.map Sum.inr (List.map Prod.fst ([(i0, some ([aG ts bd pts, .own i1 0 ts.length 4, sl bO (lV s.cells s.slots[v]!.ptr), .own i2 0 s.read.length 1])), (i1, some (flat dH s.slots)), (i2, some (flat cI s.read))] : List (Nat × Option (List AV)))) ++ [.inl d]) md'] (kk : RW Tryz.prog N all Q md' rest ⟨(d, iv (oN (bF s.cells s.slots[v]!.ptr true))) :: tsl, gS hsl [(i0, some ([aG ts bd pts, .own i1 0 ts.length 4, sl bO (lV s.cells s.slots[v]!.ptr), .own i2 0 s.read.length 1])), (i1, some (flat dH s.slots)), (i2, some (flat cI s.read))], nidl + 0, z0⟩) : RW Tryz.prog N all Q md (⟨some d, .call ⟨.value (.func 204), #[x0, x1], tys⟩, ty, pos, af, none⟩ :: rest) ⟨tsl, hsl, nidl, z0⟩ := by
 refine aW [i0, i1, i2] 3 [(i0, some ([aG ts bd pts, .own i1 0 ts.length 4, sl bO (lV s.cells s.slots[v]!.ptr), .own i2 0 s.read.length 1])), (i1, some (flat dH s.slots)), (i2, some (flat cI s.read))] hmc (avs := [.optr i0 0, iv (v : Int)]) ?_ hdd ?_ rfl ?_ (by simpa using hM) ?_ ?_ ?_ hN (md' := md') (hmd := hmd) kk
 ·show evL (lk tsl) [x0, x1] = _
  simp only [evL, ha0, ha1]
 ·exact ⟨⟨_, _, rfl, hH0, by (repeat' (first|exact RnL.purI inferInstance|exact RnV.purI inferInstance|exact RnV.own rfl|refine RnL.cons ?_ ?_))⟩, ⟨⟨_, _, rfl, hH1, by (repeat' (exact RnL.purI inferInstance))⟩, ⟨⟨_, _, rfl, hH2, by (repeat' (exact RnL.purI inferInstance))⟩, trivial⟩⟩⟩
 ·(repeat' (first|exact RnL.purI inferInstance|exact RnV.optr rfl|refine RnL.cons ?_ ?_))
 ·(repeat' (exact RnV.purI inferInstance))
 ·simp [cE]
 ·(repeat' (first|exact trivial|(refine And.intro ⟨0, _, rfl, rfl, ?_⟩ ?_)|(refine And.intro ⟨1, _, rfl, rfl, ?_⟩ ?_)|(refine And.intro ⟨2, _, rfl, rfl, ?_⟩ ?_)|exact RnL.purI inferInstance|exact RnV.purI inferInstance|exact RnV.own rfl|refine RnL.cons ?_ ?_))
theorem zK (ts : List Int) (bd : List AL.Stmt) (pts : List Pnt) (s : Mc) (v : Nat) (hm : OkM s.cells) (hsl : s.slots.length = ts.length) (hv : v < ts.length) : MC Tryz.prog 204 [.optr 0 0, iv (v : Int)] [(0, some (mO ts bd pts 1 2 s)), (1, some (flat dH s.slots)), (2, some (flat cI s.read))] 3 (fun _ : Unit => True) (fun _ => iv (oN (bF s.cells s.slots[v]!.ptr true))) (fun _ => [(0, some ([aG ts bd pts, .own 1 0 ts.length 4, sl bO (lV s.cells s.slots[v]!.ptr), .own 2 0 s.read.length 1])), (1, some (flat dH s.slots)), (2, some (flat cI s.read))]) := by
 have hfc := Ca s.cells hm s.slots[v]!.ptr
 refine aU Tryz.func204 Tryz.ntmps204 ?_
 repeat' (first|(apply aH;first|(apply jA;(case hx|hH => rfl);(case hf|hg|hα => infer_instance);(case hk => omega);(case hj => decide);(case hc => exact (rfl:_=[_, _]));(case h0|hN => rfl))|(apply aA (k := 243);rfl;exact hfc;exact Pur.pf;rfl)|(apply aA (k := 201);rfl;(apply sT);(rfl);rfl))|refine aE ?_|refine aF ?_|(refine aL ?_ ?_ <;> intro hc hq <;> try (exfalso;omega))|refine bQ ?_|fail)
 ·have hk : ¬ bF s.cells s.slots[v]!.ptr true = 0 := by assumption
  (refine aD rfl ?_; refine aP () trivial ?_ ⟨.inr (Eq.trans (b := some _) rfl ?_), ⟨.inr (Eq.trans (b := some _) rfl ?_), ⟨.inr (Eq.trans (b := some _) rfl ?_), trivial⟩⟩⟩)
  ·show iv (fL _) = iv (oN _)
   unfold oN;rw [if_neg hk]
  ·rfl
  ·rfl
  ·rfl
 ·have hk : bF s.cells s.slots[v]!.ptr true = 0 := by assumption
  (refine aD rfl ?_; refine aP () trivial ?_ ⟨.inr (Eq.trans (b := some _) rfl ?_), ⟨.inr (Eq.trans (b := some _) rfl ?_), ⟨.inr (Eq.trans (b := some _) rfl ?_), trivial⟩⟩⟩)
  ·rw [hk]; rfl
  ·rfl
  ·rfl
  ·rfl
theorem MI (ts : List Int) (bd : List AL.Stmt) (pts : List Pnt) (s : Mc) (v : Nat) (y : Sl) (hm : OkM s.cells) (hsl : s.slots.length = ts.length) (hv : v < ts.length) : MC Tryz.prog 197 [.optr 0 0, iv (v : Int), Jz y] [(0, some (mO ts bd pts 1 2 s)), (1, some (flat dH s.slots)), (2, some (flat cI s.read))] 3 (fun _ : Unit => True) (fun _ => iv (cA ts s v y).2) (fun _ => [(0, some (mO ts bd pts 1 2 (cA ts s v y).1)), (1, some (flat dH (cA ts s v y).1.slots)), (2, some (flat cI (cA ts s v y).1.read))]) := by
 have hfr := zK ts bd pts s v hm hsl hv
 refine aU Tryz.func197 Tryz.ntmps197 ?_
 repeat' (first|(apply aH;first|(apply Bh (ts := ts) (bd := bd) (pts := pts) (s := s) (v := v);rfl;rfl;rfl;rfl;rfl;rfl;exact hfr;rfl;rfl)|(apply bC;rfl;rfl;rfl;rfl;rfl;(rw [aJ]; simp only [fX] <;> omega);(exact xL (by (omega)))))|refine aE ?_|refine aF ?_|(refine aL ?_ ?_ <;> intro hc hq <;> try (exfalso;omega))|(refine bS ?_ ?_ <;> intro hg hq <;> try (exfalso;omega))|refine bQ ?_|fail)
 ·have hp : cA ts s v y = (⟨s.slots.set v y, lV s.cells s.slots[v]!.ptr, s.read⟩, oN (bF s.cells s.slots[v]!.ptr true)) := if_pos ⟨by assumption, by assumption⟩
  rw [hp]
  (refine aD rfl ?_; refine aP () trivial ?_ ⟨.inr (Eq.trans (b := some _) rfl ?_), ⟨.inr (Eq.trans (b := some _) rfl ?_), ⟨.inr (Eq.trans (b := some _) rfl ?_), trivial⟩⟩⟩)
  ·rfl
  ·rfl
  ·rfl
  ·rfl
 all_goals (
  have hp : cA ts s v y = (⟨s.slots.set v y, s.cells, s.read⟩, -1) := if_neg (by
   rintro ⟨q1, q2⟩
   first|(exact (by assumption : ¬ ts[v]! = 2) q1)|(rw [(by assumption : s.slots[v]!.set = false)] at q2;exact absurd q2 (by decide)))
  rw [hp]
  (refine aD rfl ?_; refine aP () trivial ?_ ⟨.inr (Eq.trans (b := some _) rfl ?_), ⟨.inr (Eq.trans (b := some _) rfl ?_), ⟨.inr (Eq.trans (b := some _) rfl ?_), trivial⟩⟩⟩)
  ·rfl
  ·rfl
  ·rfl
  ·rfl)
theorem JN {ts : List Int} {bd : List AL.Stmt} {pts : List Pnt} {s : Mc} {N : Nat} {Q : Exit → AS → Prop} {all : Array Oper} {rest : List Oper} {tsl : List (Nat × AV)} {hsl : List (Nat × Option (List AV))} {nidl : Nat} {z0 : Lo} {md : Md} {d : Nat} {ty : TypeId} {pos : String} {af : Array Edge} {tys : Array TypeId} {x0 : Operand} {i0 i1 i2 : Nat} (ha0 : ev (lk tsl) x0 = some (.optr i0 0)) (hH0 : aT hsl i0 = some (mO ts bd pts i1 i2 s)) (hH1 : aT hsl i1 = some (flat dH s.slots)) (hH2 : aT hsl i2 = some (flat cI s.read)) (hdd : Go.AL.distinct [i0, i1, i2] = true) (hmc : MC Tryz.prog 205 [.optr 0 0] [(0, some (mO ts bd pts 1 2 s)), (1, some (flat dH s.slots)), (2, some (flat cI s.read))] 3 (fun _ : Unit => True) (fun _ => iv (c5 ts ts.length 0 s).2) (fun _ => [(0, some (mO ts bd pts 1 2 (c5 ts ts.length 0 s).1)), (1, some (flat dH (c5 ts ts.length 0 s).1.slots)), (2, some (flat cI (c5 ts ts.length 0 s).1.read))])) (hM : Nat.ble (nidl + 0) aV = true) (hN : Nat.blt d N = true) {md' : Md} [hmd : MdA md (fK [x0] ++ [.inr i0, .inr i1, .inr i2]) (List.map Sum.inr (List.map Prod.fst ([(i0, some (mO ts bd pts i1 i2 (c5 ts ts.length 0 s).1)), (i1, some (flat dH (c5 ts ts.length 0 s).1.slots)), (i2, some (flat cI (c5 ts ts.length 0 s).1.read))] : List (Nat × Option (List AV)))) ++ [.inl d]) md'] (kk : RW Tryz.prog N all Q md' rest ⟨(d, iv (c5 ts ts.length 0 s).2) :: tsl, gS hsl [(i0, some (mO ts bd pts i1 i2 (c5 ts ts.length 0 s).1)), (i1, some (flat dH (c5 ts ts.length 0 s).1.slots)), (i2, some (flat cI (c5 ts ts.length 0 s).1.read))], nidl + 0, z0⟩) : RW Tryz.prog N all Q md (⟨some d, .call ⟨.value (.func 205), #[x0], tys⟩, ty, pos, af, none⟩ :: rest) ⟨tsl, hsl, nidl, z0⟩ := by
 refine aW [i0, i1, i2] 3 [(i0, some (mO ts bd pts i1 i2 (c5 ts ts.length 0 s).1)), (i1, some (flat dH (c5 ts ts.length 0 s).1.slots)), (i2, some (flat cI (c5 ts ts.length 0 s).1.read))] hmc (avs := [.optr i0 0]) ?_ hdd ?_ rfl ?_ (by simpa using hM) ?_ ?_ ?_ hN (md' := md') (hmd := hmd) kk
 ·show evL (lk tsl) [x0] = _
  simp only [evL, ha0]
 ·exact ⟨⟨_, _, rfl, hH0, by (repeat' (first|exact RnL.purI inferInstance|exact RnV.purI inferInstance|exact RnV.own rfl|refine RnL.cons ?_ ?_))⟩, ⟨⟨_, _, rfl, hH1, by (repeat' (exact RnL.purI inferInstance))⟩, ⟨⟨_, _, rfl, hH2, by (repeat' (exact RnL.purI inferInstance))⟩, trivial⟩⟩⟩
 ·(repeat' (first|exact RnL.purI inferInstance|exact RnV.optr rfl|refine RnL.cons ?_ ?_))
 ·(repeat' (exact RnV.purI inferInstance))
 ·simp [cE]
 ·(repeat' (first|exact trivial|(refine And.intro ⟨0, _, rfl, rfl, ?_⟩ ?_)|(refine And.intro ⟨1, _, rfl, rfl, ?_⟩ ?_)|(refine And.intro ⟨2, _, rfl, rfl, ?_⟩ ?_)|exact RnL.purI inferInstance|exact RnV.purI inferInstance|exact RnV.own rfl|refine RnL.cons ?_ ?_))
theorem MW (ts : List Int) (bd : List AL.Stmt) (pts : List Pnt) (s : Mc) (hm : OkM s.cells) (hsl : s.slots.length = ts.length) (hl : ts.length ≤ 1000000) : MC Tryz.prog 205 [.optr 0 0] [(0, some (mO ts bd pts 1 2 s)), (1, some (flat dH s.slots)), (2, some (flat cI s.read))] 3 (fun _ : Unit => True) (fun _ => iv (c5 ts ts.length 0 s).2) (fun _ => [(0, some (mO ts bd pts 1 2 (c5 ts ts.length 0 s).1)), (1, some (flat dH (c5 ts ts.length 0 s).1.slots)), (2, some (flat cI (c5 ts ts.length 0 s).1.read))]) := by
 refine aU Tryz.func205 Tryz.ntmps205 ?_
 repeat' (first|refine aE ?_|refine aF ?_|fail)
 refine aI (σ := Nat × Mc) [0, 13, 14] [] (fun k => [(15, iv (k.1 : Int))]) (fun k => [(0, some (mO ts bd pts 1 2 k.2)), (1, some (flat dH k.2.slots)), (2, some (flat cI k.2.read))]) (fun k => k.1 ≤ ts.length ∧ c5 ts (ts.length - k.1) k.1 k.2 = c5 ts ts.length 0 s ∧ OkM k.2.cells ∧ k.2.slots.length = ts.length) (fun k => ts.length - k.1) (0, s) ⟨Nat.zero_le _, rfl, hm, hsl⟩ ?_
 rintro ⟨v, q⟩ ⟨hv, hf, hmq, hlq⟩
 dsimp only at hv hf hmq hlq ⊢
 by_cases hvn : v < ts.length
 ·have hfr := zK ts bd pts q v hmq hlq hvn
  repeat' (first|(apply aH;first|(apply Bh (ts := ts) (bd := bd) (pts := pts) (s := q) (v := v);rfl;rfl;rfl;rfl;rfl;rfl;exact hfr;rfl;rfl)|(apply bC;rfl;rfl;rfl;rfl;rfl;(rw [aJ]; simp only [fX] <;> omega);(exact xL (by (omega)))))|refine aE ?_|refine aF ?_|(refine aL ?_ ?_ <;> intro hc hq <;> try (exfalso;omega))|(refine bS ?_ ?_ <;> intro hg hq <;> try (exfalso;omega))|fail)
  ·(refine bB (v + 1, q) (Le.renA []) ?_ ?_)
   ·refine ⟨by omega, ?_, hmq, hlq⟩
    dsimp only
    rw [← hf, show ts.length - v = (ts.length - (v + 1)) + 1 by omega, z6 (fun h => by
     have h2 : q.slots[v]!.set = false := by assumption
     rw [h2] at h;exact absurd h.2 (by decide))]
   ·dsimp only;omega
  ·have hk : ¬ bF q.cells q.slots[v]!.ptr true = 0 := fun h => by
    have h2 : ¬ oN (bF q.cells q.slots[v]!.ptr true) = -1 := by assumption
    rw [h] at h2;exact h2 rfl
   have hq2 : c5 ts ts.length 0 s = (⟨q.slots, lV q.cells q.slots[v]!.ptr, q.read⟩, fL (bF q.cells q.slots[v]!.ptr true)) := by
    rw [← hf, show ts.length - v = (ts.length - (v + 1)) + 1 by omega, Jw ⟨by assumption, by assumption⟩ hk]
   rw [hq2]
   (refine aD rfl ?_; refine aP () trivial ?_ ⟨.inr (Eq.trans (b := some _) rfl ?_), ⟨.inr (Eq.trans (b := some _) rfl ?_), ⟨.inr (Eq.trans (b := some _) rfl ?_), trivial⟩⟩⟩)
   ·show iv (oN _) = iv (fL _)
    unfold oN;rw [if_neg hk]
   ·rfl
   ·rfl
   ·rfl
  ·have hk : bF q.cells q.slots[v]!.ptr true = 0 := by
    have h2 : oN (bF q.cells q.slots[v]!.ptr true) = -1 := by assumption
    unfold oN at h2
    by_cases h : bF q.cells q.slots[v]!.ptr true = 0
    ·exact h
    ·rw [if_neg h] at h2;unfold fL at h2;split at h2 <;> cases h2
   have hls : (q.slots.set v nA).length = q.slots.length := List.length_set
   (refine bB (v + 1, ⟨q.slots.set v nA, lV q.cells q.slots[v]!.ptr, q.read⟩) (Le.renA []) ?_ ?_)
   ·refine ⟨by dsimp only; omega, ?_, hmq.fr _, by show (q.slots.set v nA).length = _; rw [List.length_set]; exact hlq⟩
    dsimp only
    rw [← hf, show ts.length - v = (ts.length - (v + 1)) + 1 by omega, IJ ⟨by assumption, by assumption⟩ hk]
   ·dsimp only;omega
  ·(refine bB (v + 1, q) (Le.renA []) ?_ ?_)
   ·refine ⟨by omega, ?_, hmq, hlq⟩
    dsimp only
    rw [← hf, show ts.length - v = (ts.length - (v + 1)) + 1 by omega, z6 (fun h => by
     have h2 : ¬ ts[v]! = 2 := by assumption
     exact h2 h.1)]
   ·dsimp only;omega
 ·have hve : v = ts.length := by omega
  have hq2 : c5 ts ts.length 0 s = (q, 0) := by rw [← hf, hve, Nat.sub_self]; rfl
  repeat' (first|refine aE ?_|refine aF ?_|(refine aL ?_ ?_ <;> intro hc hq <;> try (exfalso;omega))|fail)
  rw [hq2]
  (refine aD rfl ?_; refine aP () trivial ?_ ⟨.inr (Eq.trans (b := some _) rfl ?_), ⟨.inr (Eq.trans (b := some _) rfl ?_), ⟨.inr (Eq.trans (b := some _) rfl ?_), trivial⟩⟩⟩)
  ·rfl
  ·rfl
  ·rfl
  ·rfl
def dY (ts : List Int) (s : Mc) (x : Pnt) : Mc × Int := if cZ ts s x = true then (s, 2) else dP ts s x
theorem vV {ts : List Int} {s : Mc} {x : Pnt} (h : cZ ts s x = true) : dY ts s x = (s, 2) := if_pos h
theorem r7 {ts : List Int} {s : Mc} {x : Pnt} (h : cZ ts s x = false) : dY ts s x = dP ts s x := if_neg (by rw [h]; decide)
theorem iB {ts : List Int} {x : Pnt} {v : Int} (h : v ∈ a7 (wS ts x [1, 2, 3])) : 0 ≤ v ∧ v < ts.length := by
 obtain ⟨v', h3, h4, rfl⟩ := b9.1 h
 rw [cK, Bool.and_eq_true, decide_eq_true_eq] at h4
 omega
theorem cO {ts : List Int} {s : Mc} {x : Pnt} (htl : ts.length ≤ 6) : cZ ts s x = true ↔ ∃ v ∈ a7 (wS ts x [1, 2, 3]), s.slots[v.toNat]!.set = false := by
 constructor
 ·intro h
  obtain ⟨v, hv, hne, hs⟩ := AR h
  refine ⟨(v : Int), b9.2 ⟨v, by omega, ?_, rfl⟩, hs⟩
  have hb := oM ts x v
  rw [cK, decide_eq_true hv, Bool.true_and, decide_eq_true_eq]
  simp only [List.mem_cons, List.not_mem_nil, or_false]; omega
 ·rintro ⟨v, hv, hs⟩
  obtain ⟨v', h3, h4, rfl⟩ := b9.1 hv
  rw [cK, Bool.and_eq_true, decide_eq_true_eq, decide_eq_true_eq] at h4
  unfold cZ
  refine List.any_eq_true.2 ⟨v', List.mem_range.2 h4.1, ?_⟩
  rw [Bool.and_eq_true, decide_eq_true_eq]
  refine ⟨fun e => ?_, by rw [show s.slots[v']!.set = false from hs]; rfl⟩
  have h5 := h4.2
  simp only [List.mem_cons, List.not_mem_nil, or_false] at h5;omega
theorem MB {ts : List Int} {bd : List AL.Stmt} {pts : List Pnt} {s : Mc} {x : Pnt} {N : Nat} {Q : Exit → AS → Prop} {all : Array Oper} {rest : List Oper} {tsl : List (Nat × AV)} {hsl : List (Nat × Option (List AV))} {nidl : Nat} {z0 : Lo} {md : Md} {d : Nat} {ty : TypeId} {pos : String} {af : Array Edge} {tys : Array TypeId} {x0 x1 : Operand} {i0 i1 i2 : Nat} (ha0 : ev (lk tsl) x0 = some (.optr i0 0)) (ha1 : ev (lk tsl) x1 = some (dW x)) (hH0 : aT hsl i0 = some (mO ts bd pts i1 i2 s)) (hH1 : aT hsl i1 = some (flat dH s.slots)) (hH2 : aT hsl i2 = some (flat cI s.read)) (hdd : Go.AL.distinct [i0, i1, i2] = true) (hmc : MC Tryz.prog 140 [.optr 0 0, dW x] [(0, some (mO ts bd pts 1 2 s)), (1, some (flat dH s.slots)), (2, some (flat cI s.read))] 3 (fun _ : Unit => True) (fun _ => iv (dY ts s x).2) (fun _ => [(0, some (mO ts bd pts 1 2 (dY ts s x).1)), (1, some (flat dH (dY ts s x).1.slots)), (2, some (flat cI (dY ts s x).1.read))])) (hM : Nat.ble (nidl + 0) aV = true) (hN : Nat.blt d N = true) {md' : Md} [hmd : MdA md (fK [x0, x1] ++ [.inr i0, .inr i1, .inr i2]) (List.map Sum.inr (List.map Prod.fst ([(i0, some (mO ts bd pts i1 i2 (dY ts s x).1)), (i1, some (flat dH (dY ts s x).1.slots)), (i2, some (flat cI (dY ts s x).1.read))] : List (Nat × Option (List AV)))) ++ [.inl d]) md'] (kk : RW Tryz.prog N all Q md' rest ⟨(d, iv (dY ts s x).2) :: tsl, gS hsl [(i0, some (mO ts bd pts i1 i2 (dY ts s x).1)), (i1, some (flat dH (dY ts s x).1.slots)), (i2, some (flat cI (dY ts s x).1.read))], nidl + 0, z0⟩) : RW Tryz.prog N all Q md (⟨some d, .call ⟨.value (.func 140), #[x0, x1], tys⟩, ty, pos, af, none⟩ :: rest) ⟨tsl, hsl, nidl, z0⟩ := by
 refine aW [i0, i1, i2] 3 [(i0, some (mO ts bd pts i1 i2 (dY ts s x).1)), (i1, some (flat dH (dY ts s x).1.slots)), (i2, some (flat cI (dY ts s x).1.read))] hmc (avs := [.optr i0 0, dW x]) ?_ hdd ?_ rfl ?_ (by simpa using hM) ?_ ?_ ?_ hN (md' := md') (hmd := hmd) kk
 ·show evL (lk tsl) [x0, x1] = _
  simp only [evL, ha0, ha1]
 ·exact ⟨⟨_, _, rfl, hH0, by (repeat' (first|exact RnL.purI inferInstance|exact RnV.purI inferInstance|exact RnV.own rfl|refine RnL.cons ?_ ?_))⟩, ⟨⟨_, _, rfl, hH1, by (repeat' (exact RnL.purI inferInstance))⟩, ⟨⟨_, _, rfl, hH2, by (repeat' (exact RnL.purI inferInstance))⟩, trivial⟩⟩⟩
 ·(repeat' (first|exact RnL.purI inferInstance|exact RnV.optr rfl|refine RnL.cons ?_ ?_))
 ·(repeat' (exact RnV.purI inferInstance))
 ·simp [cE]
 ·(repeat' (first|exact trivial|(refine And.intro ⟨0, _, rfl, rfl, ?_⟩ ?_)|(refine And.intro ⟨1, _, rfl, rfl, ?_⟩ ?_)|(refine And.intro ⟨2, _, rfl, rfl, ?_⟩ ?_)|exact RnL.purI inferInstance|exact RnV.purI inferInstance|exact RnV.own rfl|refine RnL.cons ?_ ?_))
theorem kZ {ts : List Int} {bd : List AL.Stmt} {pts : List Pnt} {s : Mc} {v : Int} {y : Sl} {N : Nat} {Q : Exit → AS → Prop} {all : Array Oper} {rest : List Oper} {tsl : List (Nat × AV)} {hsl : List (Nat × Option (List AV))} {nidl : Nat} {z0 : Lo} {md : Md} {d : Nat} {ty : TypeId} {pos : String} {af : Array Edge} {tys : Array TypeId} {x0 x1 x2 : Operand} {i0 i1 i2 : Nat} (ha0 : ev (lk tsl) x0 = some (.optr i0 0)) (ha1 : ev (lk tsl) x1 = some (iv v)) (ha2 : ev (lk tsl) x2 = some (Jz y)) (hH0 : aT hsl i0 = some (mO ts bd pts i1 i2 s)) (hH1 : aT hsl i1 = some (flat dH s.slots)) (hH2 : aT hsl i2 = some (flat cI s.read)) (hdd : Go.AL.distinct [i0, i1, i2] = true) (hmc : MC Tryz.prog 197 [.optr 0 0, iv v, Jz y] [(0, some (mO ts bd pts 1 2 s)), (1, some (flat dH s.slots)), (2, some (flat cI s.read))] 3 (fun _ : Unit => True) (fun _ => iv (cA ts s v.toNat y).2) (fun _ => [(0, some (mO ts bd pts 1 2 (cA ts s v.toNat y).1)), (1, some (flat dH (cA ts s v.toNat y).1.slots)), (2, some (flat cI (cA ts s v.toNat y).1.read))])) (hM : Nat.ble (nidl + 0) aV = true) (hN : Nat.blt d N = true) {md' : Md} [hmd : MdA md (fK [x0, x1, x2] ++ [.inr i0, .inr i1, .inr i2]) (List.map Sum.inr (List.map Prod.fst ([(i0, some (mO ts bd pts i1 i2 (cA ts s v.toNat y).1)), (i1, some (flat dH (cA ts s v.toNat y).1.slots)), (i2, some (flat cI (cA ts s v.toNat y).1.read))] : List (Nat × Option (List AV)))) ++ [.inl d]) md'] (kk : RW Tryz.prog N all Q md' rest ⟨(d, iv (cA ts s v.toNat y).2) :: tsl, gS hsl [(i0, some (mO ts bd pts i1 i2 (cA ts s v.toNat y).1)), (i1, some (flat dH (cA ts s v.toNat y).1.slots)), (i2, some (flat cI (cA ts s v.toNat y).1.read))], nidl + 0, z0⟩) : RW Tryz.prog N all Q md (⟨some d, .call ⟨.value (.func 197), #[x0, x1, x2], tys⟩, ty, pos, af, none⟩ :: rest) ⟨tsl, hsl, nidl, z0⟩ := by
 refine aW [i0, i1, i2] 3 [(i0, some (mO ts bd pts i1 i2 (cA ts s v.toNat y).1)), (i1, some (flat dH (cA ts s v.toNat y).1.slots)), (i2, some (flat cI (cA ts s v.toNat y).1.read))] hmc (avs := [.optr i0 0, iv v, Jz y]) ?_ hdd ?_ rfl ?_ (by simpa using hM) ?_ ?_ ?_ hN (md' := md') (hmd := hmd) kk
 ·show evL (lk tsl) [x0, x1, x2] = _
  simp only [evL, ha0, ha1, ha2]
 ·exact ⟨⟨_, _, rfl, hH0, by (repeat' (first|exact RnL.purI inferInstance|exact RnV.purI inferInstance|exact RnV.own rfl|refine RnL.cons ?_ ?_))⟩, ⟨⟨_, _, rfl, hH1, by (repeat' (exact RnL.purI inferInstance))⟩, ⟨⟨_, _, rfl, hH2, by (repeat' (exact RnL.purI inferInstance))⟩, trivial⟩⟩⟩
 ·(repeat' (first|exact RnL.purI inferInstance|exact RnV.optr rfl|refine RnL.cons ?_ ?_))
 ·(repeat' (exact RnV.purI inferInstance))
 ·simp [cE]
 ·(repeat' (first|exact trivial|(refine And.intro ⟨0, _, rfl, rfl, ?_⟩ ?_)|(refine And.intro ⟨1, _, rfl, rfl, ?_⟩ ?_)|(refine And.intro ⟨2, _, rfl, rfl, ?_⟩ ?_)|exact RnL.purI inferInstance|exact RnV.purI inferInstance|exact RnV.own rfl|refine RnL.cons ?_ ?_))
theorem nR (ts : List Int) (bd : List AL.Stmt) (pts : List Pnt) (s : Mc) (v : Int) (y : Sl) (hm : OkM s.cells) (hsl : s.slots.length = ts.length) (hv : 0 ≤ v ∧ v < ts.length) : MC Tryz.prog 197 [.optr 0 0, iv v, Jz y] [(0, some (mO ts bd pts 1 2 s)), (1, some (flat dH s.slots)), (2, some (flat cI s.read))] 3 (fun _ : Unit => True) (fun _ => iv (cA ts s v.toNat y).2) (fun _ => [(0, some (mO ts bd pts 1 2 (cA ts s v.toNat y).1)), (1, some (flat dH (cA ts s v.toNat y).1.slots)), (2, some (flat cI (cA ts s v.toNat y).1.read))]) := by
 have h := MI ts bd pts s v.toNat y hm hsl (by omega)
 rw [Int.toNat_of_nonneg hv.1] at h
 exact h
theorem Fi {ts : List Int} {bd : List AL.Stmt} {pts : List Pnt} {s : Mc} {v : Int} {N : Nat} {Q : Exit → AS → Prop} {all : Array Oper} {rest : List Oper} {tsl : List (Nat × AV)} {hsl : List (Nat × Option (List AV))} {nidl : Nat} {z0 : Lo} {md : Md} {d : Nat} {ty : TypeId} {pos : String} {af : Array Edge} {tys : Array TypeId} {x0 x1 : Operand} {i0 i1 i2 : Nat} (ha0 : ev (lk tsl) x0 = some (.optr i0 0)) (ha1 : ev (lk tsl) x1 = some (iv v)) (hH0 : aT hsl i0 = some (mO ts bd pts i1 i2 s)) (hH1 : aT hsl i1 = some (flat dH s.slots)) (hH2 : aT hsl i2 = some (flat cI s.read)) (hdd : Go.AL.distinct [i0, i1, i2] = true) (hmc : MC Tryz.prog 204 [.optr 0 0, iv v] [(0, some (mO ts bd pts 1 2 s)), (1, some (flat dH s.slots)), (2, some (flat cI s.read))] 3 (fun _ : Unit => True) (fun _ => iv (oN (bF s.cells s.slots[v.toNat]!.ptr true))) (fun _ => [(0, some ([aG ts bd pts, .own 1 0 ts.length 4, sl bO (lV s.cells s.slots[v.toNat]!.ptr), .own 2 0 s.read.length 1])), (1, some (flat dH s.slots)), (2, some (flat cI s.read))])) (hM : Nat.ble (nidl + 0) aV = true) (hN : Nat.blt d N = true) {md' : Md} [hmd : MdA md (fK [x0, x1] ++ [.inr i0, .inr i1, .inr i2]) (List.map Sum.inr (List.map Prod.fst ([(i0, some ([aG ts bd pts, .own i1 0 ts.length 4, sl bO (lV s.cells s.slots[v.toNat]!.ptr), .own i2 0 s.read.length 1])), (i1, some (flat dH s.slots)), (i2, some (flat cI s.read))] : List (Nat × Option (List AV)))) ++ [.inl d]) md'] (kk : RW Tryz.prog N all Q md' rest ⟨(d, iv (oN (bF s.cells s.slots[v.toNat]!.ptr true))) :: tsl, gS hsl [(i0, some ([aG ts bd pts, .own i1 0 ts.length 4, sl bO (lV s.cells s.slots[v.toNat]!.ptr), .own i2 0 s.read.length 1])), (i1, some (flat dH s.slots)), (i2, some (flat cI s.read))], nidl + 0, z0⟩) : RW Tryz.prog N all Q md (⟨some d, .call ⟨.value (.func 204), #[x0, x1], tys⟩, ty, pos, af, none⟩ :: rest) ⟨tsl, hsl, nidl, z0⟩ := by
 refine aW [i0, i1, i2] 3 [(i0, some ([aG ts bd pts, .own i1 0 ts.length 4, sl bO (lV s.cells s.slots[v.toNat]!.ptr), .own i2 0 s.read.length 1])), (i1, some (flat dH s.slots)), (i2, some (flat cI s.read))] hmc (avs := [.optr i0 0, iv v]) ?_ hdd ?_ rfl ?_ (by simpa using hM) ?_ ?_ ?_ hN (md' := md') (hmd := hmd) kk
 ·show evL (lk tsl) [x0, x1] = _
  simp only [evL, ha0, ha1]
 ·exact ⟨⟨_, _, rfl, hH0, by (repeat' (first|exact RnL.purI inferInstance|exact RnV.purI inferInstance|exact RnV.own rfl|refine RnL.cons ?_ ?_))⟩, ⟨⟨_, _, rfl, hH1, by (repeat' (exact RnL.purI inferInstance))⟩, ⟨⟨_, _, rfl, hH2, by (repeat' (exact RnL.purI inferInstance))⟩, trivial⟩⟩⟩
 ·(repeat' (first|exact RnL.purI inferInstance|exact RnV.optr rfl|refine RnL.cons ?_ ?_))
 ·(repeat' (exact RnV.purI inferInstance))
 ·simp [cE]
 ·(repeat' (first|exact trivial|(refine And.intro ⟨0, _, rfl, rfl, ?_⟩ ?_)|(refine And.intro ⟨1, _, rfl, rfl, ?_⟩ ?_)|(refine And.intro ⟨2, _, rfl, rfl, ?_⟩ ?_)|exact RnL.purI inferInstance|exact RnV.purI inferInstance|exact RnV.own rfl|refine RnL.cons ?_ ?_))
theorem G6 (ts : List Int) (bd : List AL.Stmt) (pts : List Pnt) (s : Mc) (v : Int) (hm : OkM s.cells) (hsl : s.slots.length = ts.length) (hv : 0 ≤ v ∧ v < ts.length) : MC Tryz.prog 204 [.optr 0 0, iv v] [(0, some (mO ts bd pts 1 2 s)), (1, some (flat dH s.slots)), (2, some (flat cI s.read))] 3 (fun _ : Unit => True) (fun _ => iv (oN (bF s.cells s.slots[v.toNat]!.ptr true))) (fun _ => [(0, some ([aG ts bd pts, .own 1 0 ts.length 4, sl bO (lV s.cells s.slots[v.toNat]!.ptr), .own 2 0 s.read.length 1])), (1, some (flat dH s.slots)), (2, some (flat cI s.read))]) := by
 have h := zK ts bd pts s v.toNat hm hsl (by omega)
 rw [Int.toNat_of_nonneg hv.1] at h
 exact h
theorem Pf (ts : List Int) (bd : List AL.Stmt) (pts : List Pnt) (s : Mc) (x : Pnt) (htl : ts.length ≤ 6) (hm : OkM s.cells) (hsl : s.slots.length = ts.length) (ho : x.op = 1) (hx : 0 ≤ x.x ∧ x.x < ts.length) : MC Tryz.prog 140 [.optr 0 0, dW x] [(0, some (mO ts bd pts 1 2 s)), (1, some (flat dH s.slots)), (2, some (flat cI s.read))] 3 (fun _ : Unit => True) (fun _ => iv (dY ts s x).2) (fun _ => [(0, some (mO ts bd pts 1 2 (dY ts s x).1)), (1, some (flat dH (dY ts s x).1.slots)), (2, some (flat cI (dY ts s x).1.read))]) := by
 have hus := gV ts bd pts x htl
 have hsm : Sm (wS ts x [1, 2, 3]) := bU (by omega)
 obtain ⟨L, hL⟩ : ∃ L, L = a7 (wS ts x [1, 2, 3]) := ⟨_, rfl⟩
 have hLl : L.length ≤ 62 := by rw [hL]; exact cF _
 have hmem : ∀ k, k < L.length → 0 ≤ L[k]! ∧ L[k]! < s.slots.length := fun k hk => by
  rw [hsl]; exact iB (by rw [← hL]; exact aY _ _ hk)
 refine aU Tryz.func140 Tryz.ntmps140 ?_
 repeat' (first|(apply aH;first|(apply aA (k := 158);rfl;exact hus;exact Pur.pf;rfl)|(apply aA (k := 120);rfl;(apply fY <;> (assumption));(rfl);rfl))|refine aE ?_|refine aF ?_|refine bQ ?_|fail)
 rw [← hL]
 refine aI (σ := Nat) [0, 3, 26, 27] [0, 1, 2, 3] (fun k => [(28, iv (k : Int))]) (fun k => []) (fun k => k ≤ L.length ∧ ∀ j, j < k → s.slots[(L[j]!).toNat]!.set = true) (fun k => L.length - k) (0) ⟨Nat.zero_le _, fun j h => absurd h (by omega)⟩ ?_
 rintro k ⟨hk, hall⟩
 by_cases hkn : k < L.length
 ·have hmk := hmem k hkn
  repeat' (first|refine aE ?_|refine aF ?_|(refine aL ?_ ?_ <;> intro hc hq <;> try (exfalso;omega))|fail)
  ·have hu : cZ ts s x = true := (cO htl).2 ⟨L[k]!, by rw [← hL]; exact aY _ _ hkn, by assumption⟩
   rw [vV hu]
   (refine aD rfl ?_; refine aP () trivial ?_ ⟨.inr (Eq.trans (b := some _) rfl ?_), ⟨.inr (Eq.trans (b := some _) rfl ?_), ⟨.inr (Eq.trans (b := some _) rfl ?_), trivial⟩⟩⟩)
   ·rfl
   ·rfl
   ·rfl
   ·rfl
  ·(refine bB (k + 1) (Le.renA [(3, 3)]) ?_ ?_)
   ·refine ⟨by omega, fun j hj => ?_⟩
    rcases Nat.lt_or_ge j k with h|h
    ·exact hall j h
    ·rw [show j = k by omega]; assumption
   ·omega
 ·have hu : cZ ts s x = false := by
   cases q : cZ ts s x with
   | false => rfl
   | true =>
    obtain ⟨v, hv, hs⟩ := (cO htl).1 q
    rw [← hL] at hv
    obtain ⟨j, hj, e⟩ := List.getElem_of_mem hv
    have h1 := hall j (by omega)
    rw [bE _ _ hj, e, hs] at h1;cases h1
  rw [r7 hu]
  have hd : dP ts s x = cA ts s x.x.toNat ⟨true, x.n, ⟨0, 0⟩⟩ := by unfold dP;rw [if_pos ho]
  rw [hd]
  have hp := nR ts bd pts s x.x ⟨true, x.n, ⟨0, 0⟩⟩ hm hsl hx
  repeat' (first|(apply aH;(apply kZ (ts := ts) (bd := bd) (pts := pts) (s := s) (v := x.x) (y := ⟨true, x.n, ⟨0, 0⟩⟩);rfl;rfl;rfl;rfl;rfl;rfl;rfl;exact hp;rfl;rfl))|refine aE ?_|refine aF ?_|(refine aL ?_ ?_ <;> intro hc hq <;> try (exfalso;omega))|fail)
  (refine aD rfl ?_; refine aP () trivial ?_ ⟨.inr (Eq.trans (b := some _) rfl ?_), ⟨.inr (Eq.trans (b := some _) rfl ?_), ⟨.inr (Eq.trans (b := some _) rfl ?_), trivial⟩⟩⟩)
  ·rfl
  ·rfl
  ·rfl
  ·rfl
theorem Pr (ts : List Int) (bd : List AL.Stmt) (pts : List Pnt) (s : Mc) (x : Pnt) (htl : ts.length ≤ 6) (hm : OkM s.cells) (hsl : s.slots.length = ts.length) (ho : x.op = 2) (hn : 0 ≤ x.n ∧ x.n ≤ 9) (hx : 0 ≤ x.x ∧ x.x < ts.length) : MC Tryz.prog 140 [.optr 0 0, dW x] [(0, some (mO ts bd pts 1 2 s)), (1, some (flat dH s.slots)), (2, some (flat cI s.read))] 3 (fun _ : Unit => True) (fun _ => iv (dY ts s x).2) (fun _ => [(0, some (mO ts bd pts 1 2 (dY ts s x).1)), (1, some (flat dH (dY ts s x).1.slots)), (2, some (flat cI (dY ts s x).1.read))]) := by
 have hus := gV ts bd pts x htl
 have hsm : Sm (wS ts x [1, 2, 3]) := bU (by omega)
 obtain ⟨L, hL⟩ : ∃ L, L = a7 (wS ts x [1, 2, 3]) := ⟨_, rfl⟩
 have hLl : L.length ≤ 62 := by rw [hL]; exact cF _
 have hmem : ∀ k, k < L.length → 0 ≤ L[k]! ∧ L[k]! < s.slots.length := fun k hk => by
  rw [hsl]; exact iB (by rw [← hL]; exact aY _ _ hk)
 refine aU Tryz.func140 Tryz.ntmps140 ?_
 repeat' (first|(apply aH;first|(apply aA (k := 158);rfl;exact hus;exact Pur.pf;rfl)|(apply aA (k := 120);rfl;(apply fY <;> (assumption));(rfl);rfl))|refine aE ?_|refine aF ?_|refine bQ ?_|fail)
 rw [← hL]
 refine aI (σ := Nat) [0, 3, 26, 27] [0, 1, 2, 3] (fun k => [(28, iv (k : Int))]) (fun k => []) (fun k => k ≤ L.length ∧ ∀ j, j < k → s.slots[(L[j]!).toNat]!.set = true) (fun k => L.length - k) (0) ⟨Nat.zero_le _, fun j h => absurd h (by omega)⟩ ?_
 rintro k ⟨hk, hall⟩
 by_cases hkn : k < L.length
 ·have hmk := hmem k hkn
  repeat' (first|refine aE ?_|refine aF ?_|(refine aL ?_ ?_ <;> intro hc hq <;> try (exfalso;omega))|fail)
  ·have hu : cZ ts s x = true := (cO htl).2 ⟨L[k]!, by rw [← hL]; exact aY _ _ hkn, by assumption⟩
   rw [vV hu]
   (refine aD rfl ?_; refine aP () trivial ?_ ⟨.inr (Eq.trans (b := some _) rfl ?_), ⟨.inr (Eq.trans (b := some _) rfl ?_), ⟨.inr (Eq.trans (b := some _) rfl ?_), trivial⟩⟩⟩)
   ·rfl
   ·rfl
   ·rfl
   ·rfl
  ·(refine bB (k + 1) (Le.renA [(3, 3)]) ?_ ?_)
   ·refine ⟨by omega, fun j hj => ?_⟩
    rcases Nat.lt_or_ge j k with h|h
    ·exact hall j h
    ·rw [show j = k by omega]; assumption
   ·omega
 ·have hu : cZ ts s x = false := by
   cases q : cZ ts s x with
   | false => rfl
   | true =>
    obtain ⟨v, hv, hs⟩ := (cO htl).1 q
    rw [← hL] at hv
    obtain ⟨j, hj, e⟩ := List.getElem_of_mem hv
    have h1 := hall j (by omega)
    rw [bE _ _ hj, e, hs] at h1;cases h1
  rw [r7 hu]
  have hml := hm.l
  have hnc := DE s.cells hm x.n
  by_cases h2 : s.cells.length = 200
  ·rw [if_neg (by omega)] at hnc
   have hd : dP ts s x = (s, 1) := by unfold dP;rw [if_neg (show ¬ x.op = 1 by omega), if_pos ho, if_pos h2]
   rw [hd]
   repeat' (first|(apply aH;(apply aA (k := 198);rfl;exact hnc;exact Pur.pf;rfl))|refine aE ?_|refine aF ?_|(refine aL ?_ ?_ <;> intro hc hq <;> try (exfalso;omega))|refine bQ ?_|fail)
   (refine aD rfl ?_; refine aP () trivial ?_ ⟨.inr (Eq.trans (b := some _) rfl ?_), ⟨.inr (Eq.trans (b := some _) rfl ?_), ⟨.inr (Eq.trans (b := some _) rfl ?_), trivial⟩⟩⟩)
   ·rfl
   ·rfl
   ·rfl
   ·rfl
  ·rw [if_pos (by omega)] at hnc
   have hp := nR ts bd pts ⟨s.slots, s.cells ++ [vY x.n], s.read⟩ x.x ⟨true, 0, ⟨s.cells.length, 0⟩⟩ (hm.nw hn (by omega)) hsl hx
   have hd : dP ts s x = cA ts ⟨s.slots, s.cells ++ [vY x.n], s.read⟩ x.x.toNat ⟨true, 0, ⟨s.cells.length, 0⟩⟩ := by unfold dP;rw [if_neg (show ¬ x.op = 1 by omega), if_pos ho, if_neg h2]
   rw [hd]
   repeat' (first|(apply aH;first|(apply aA (k := 198);rfl;exact hnc;exact Pur.pf;rfl)|(apply kZ (ts := ts) (bd := bd) (pts := pts) (s := ⟨s.slots, s.cells ++ [vY x.n], s.read⟩) (v := x.x) (y := ⟨true, 0, ⟨s.cells.length, 0⟩⟩);rfl;rfl;rfl;rfl;rfl;rfl;rfl;exact hp;rfl;rfl))|refine aE ?_|refine aF ?_|(refine aL ?_ ?_ <;> intro hc hq <;> try (exfalso;omega))|refine bQ ?_|fail)
   (refine aD rfl ?_; refine aP () trivial ?_ ⟨.inr (Eq.trans (b := some _) rfl ?_), ⟨.inr (Eq.trans (b := some _) rfl ?_), ⟨.inr (Eq.trans (b := some _) rfl ?_), trivial⟩⟩⟩)
   ·rfl
   ·rfl
   ·rfl
   ·rfl
theorem PE (ts : List Int) (bd : List AL.Stmt) (pts : List Pnt) (s : Mc) (x : Pnt) (htl : ts.length ≤ 6) (hm : OkM s.cells) (hsl : s.slots.length = ts.length) (ho : x.op = 3) (hx : 0 ≤ x.x ∧ x.x < ts.length) (hy : 0 ≤ x.y ∧ x.y < ts.length) : MC Tryz.prog 140 [.optr 0 0, dW x] [(0, some (mO ts bd pts 1 2 s)), (1, some (flat dH s.slots)), (2, some (flat cI s.read))] 3 (fun _ : Unit => True) (fun _ => iv (dY ts s x).2) (fun _ => [(0, some (mO ts bd pts 1 2 (dY ts s x).1)), (1, some (flat dH (dY ts s x).1.slots)), (2, some (flat cI (dY ts s x).1.read))]) := by
 have hus := gV ts bd pts x htl
 have hsm : Sm (wS ts x [1, 2, 3]) := bU (by omega)
 obtain ⟨L, hL⟩ : ∃ L, L = a7 (wS ts x [1, 2, 3]) := ⟨_, rfl⟩
 have hLl : L.length ≤ 62 := by rw [hL]; exact cF _
 have hmem : ∀ k, k < L.length → 0 ≤ L[k]! ∧ L[k]! < s.slots.length := fun k hk => by
  rw [hsl]; exact iB (by rw [← hL]; exact aY _ _ hk)
 refine aU Tryz.func140 Tryz.ntmps140 ?_
 repeat' (first|(apply aH;first|(apply aA (k := 158);rfl;exact hus;exact Pur.pf;rfl)|(apply aA (k := 120);rfl;(apply fY <;> (assumption));(rfl);rfl))|refine aE ?_|refine aF ?_|refine bQ ?_|fail)
 rw [← hL]
 refine aI (σ := Nat) [0, 3, 26, 27] [0, 1, 2, 3] (fun k => [(28, iv (k : Int))]) (fun k => []) (fun k => k ≤ L.length ∧ ∀ j, j < k → s.slots[(L[j]!).toNat]!.set = true) (fun k => L.length - k) (0) ⟨Nat.zero_le _, fun j h => absurd h (by omega)⟩ ?_
 rintro k ⟨hk, hall⟩
 by_cases hkn : k < L.length
 ·have hmk := hmem k hkn
  repeat' (first|refine aE ?_|refine aF ?_|(refine aL ?_ ?_ <;> intro hc hq <;> try (exfalso;omega))|fail)
  ·have hu : cZ ts s x = true := (cO htl).2 ⟨L[k]!, by rw [← hL]; exact aY _ _ hkn, by assumption⟩
   rw [vV hu]
   (refine aD rfl ?_; refine aP () trivial ?_ ⟨.inr (Eq.trans (b := some _) rfl ?_), ⟨.inr (Eq.trans (b := some _) rfl ?_), ⟨.inr (Eq.trans (b := some _) rfl ?_), trivial⟩⟩⟩)
   ·rfl
   ·rfl
   ·rfl
   ·rfl
  ·(refine bB (k + 1) (Le.renA [(3, 3)]) ?_ ?_)
   ·refine ⟨by omega, fun j hj => ?_⟩
    rcases Nat.lt_or_ge j k with h|h
    ·exact hall j h
    ·rw [show j = k by omega]; assumption
   ·omega
 ·have hu : cZ ts s x = false := by
   cases q : cZ ts s x with
   | false => rfl
   | true =>
    obtain ⟨v, hv, hs⟩ := (cO htl).1 q
    rw [← hL] at hv
    obtain ⟨j, hj, e⟩ := List.getElem_of_mem hv
    have h1 := hall j (by omega)
    rw [bE _ _ hj, e, hs] at h1;cases h1
  rw [r7 hu]
  have hd : dP ts s x = cA ts (if Au ts[x.y.toNat]! = true then ⟨s.slots.set x.y.toNat nA, s.cells, s.read⟩ else s) x.x.toNat s.slots[x.y.toNat]! := by unfold dP;rw [if_neg (show ¬ x.op = 1 by omega), if_neg (show ¬ x.op = 2 by omega), if_pos ho]
  rw [hd]
  have htk := yQ ts bd pts x.y hy
  by_cases hk : Au ts[x.y.toNat]! = true
  ·rw [hk] at htk
   rw [if_pos hk]
   have hp := nR ts bd pts ⟨s.slots.set x.y.toNat nA, s.cells, s.read⟩ x.x s.slots[x.y.toNat]! hm (by show (s.slots.set _ _).length = _; rw [List.length_set]; exact hsl) hx
   repeat' (first|(apply aH;first|(apply aA (k := 199);rfl;exact htk;exact Pur.pf;rfl)|(apply kZ (ts := ts) (bd := bd) (pts := pts) (s := ⟨s.slots.set x.y.toNat nA, s.cells, s.read⟩) (v := x.x) (y := s.slots[x.y.toNat]!);rfl;rfl;rfl;rfl;rfl;rfl;rfl;exact hp;rfl;rfl)|(apply bC;rfl;rfl;rfl;rfl;rfl;(case hl => (first|(rw [aJ]; simp only [fX] <;> omega)|(simp;done)));(exact xL (by (omega)))))|refine aE ?_|refine aF ?_|(refine aL ?_ ?_ <;> intro hc hq <;> try (exfalso;omega))|refine bQ ?_|fail)
   (refine aD rfl ?_; refine aP () trivial ?_ ⟨.inr (Eq.trans (b := some _) rfl ?_), ⟨.inr (Eq.trans (b := some _) rfl ?_), ⟨.inr (Eq.trans (b := some _) rfl ?_), trivial⟩⟩⟩)
   ·rfl
   ·rfl
   ·rfl
   ·rfl
  ·have hk2 : Au ts[x.y.toNat]! = false := by simpa using hk
   rw [hk2] at htk
   rw [if_neg hk]
   have hp := nR ts bd pts s x.x s.slots[x.y.toNat]! hm hsl hx
   repeat' (first|(apply aH;first|(apply aA (k := 199);rfl;exact htk;exact Pur.pf;rfl)|(apply kZ (ts := ts) (bd := bd) (pts := pts) (s := s) (v := x.x) (y := s.slots[x.y.toNat]!);rfl;rfl;rfl;rfl;rfl;rfl;rfl;exact hp;rfl;rfl))|refine aE ?_|refine aF ?_|(refine aL ?_ ?_ <;> intro hc hq <;> try (exfalso;omega))|refine bQ ?_|fail)
   (refine aD rfl ?_; refine aP () trivial ?_ ⟨.inr (Eq.trans (b := some _) rfl ?_), ⟨.inr (Eq.trans (b := some _) rfl ?_), ⟨.inr (Eq.trans (b := some _) rfl ?_), trivial⟩⟩⟩)
   ·rfl
   ·rfl
   ·rfl
   ·rfl
theorem Oy (ts : List Int) (bd : List AL.Stmt) (pts : List Pnt) (s : Mc) (x : Pnt) (htl : ts.length ≤ 6) (hm : OkM s.cells) (hsl : s.slots.length = ts.length) (ho : x.op = 4 ∨ x.op = 5) (hx : 0 ≤ x.x ∧ x.x < ts.length) (hy : 0 ≤ x.y ∧ x.y < ts.length) : MC Tryz.prog 140 [.optr 0 0, dW x] [(0, some (mO ts bd pts 1 2 s)), (1, some (flat dH s.slots)), (2, some (flat cI s.read))] 3 (fun _ : Unit => True) (fun _ => iv (dY ts s x).2) (fun _ => [(0, some (mO ts bd pts 1 2 (dY ts s x).1)), (1, some (flat dH (dY ts s x).1.slots)), (2, some (flat cI (dY ts s x).1.read))]) := by
 have hus := gV ts bd pts x htl
 have hsm : Sm (wS ts x [1, 2, 3]) := bU (by omega)
 obtain ⟨L, hL⟩ : ∃ L, L = a7 (wS ts x [1, 2, 3]) := ⟨_, rfl⟩
 have hLl : L.length ≤ 62 := by rw [hL]; exact cF _
 have hmem : ∀ k, k < L.length → 0 ≤ L[k]! ∧ L[k]! < s.slots.length := fun k hk => by
  rw [hsl]; exact iB (by rw [← hL]; exact aY _ _ hk)
 refine aU Tryz.func140 Tryz.ntmps140 ?_
 repeat' (first|(apply aH;first|(apply aA (k := 158);rfl;exact hus;exact Pur.pf;rfl)|(apply aA (k := 120);rfl;(apply fY <;> (assumption));(rfl);rfl))|refine aE ?_|refine aF ?_|refine bQ ?_|fail)
 rw [← hL]
 refine aI (σ := Nat) [0, 3, 26, 27] [0, 1, 2, 3] (fun k => [(28, iv (k : Int))]) (fun k => []) (fun k => k ≤ L.length ∧ ∀ j, j < k → s.slots[(L[j]!).toNat]!.set = true) (fun k => L.length - k) (0) ⟨Nat.zero_le _, fun j h => absurd h (by omega)⟩ ?_
 rintro k ⟨hk, hall⟩
 by_cases hkn : k < L.length
 ·have hmk := hmem k hkn
  repeat' (first|refine aE ?_|refine aF ?_|(refine aL ?_ ?_ <;> intro hc hq <;> try (exfalso;omega))|fail)
  ·have hu : cZ ts s x = true := (cO htl).2 ⟨L[k]!, by rw [← hL]; exact aY _ _ hkn, by assumption⟩
   rw [vV hu]
   (refine aD rfl ?_; refine aP () trivial ?_ ⟨.inr (Eq.trans (b := some _) rfl ?_), ⟨.inr (Eq.trans (b := some _) rfl ?_), ⟨.inr (Eq.trans (b := some _) rfl ?_), trivial⟩⟩⟩)
   ·rfl
   ·rfl
   ·rfl
   ·rfl
  ·(refine bB (k + 1) (Le.renA [(3, 3)]) ?_ ?_)
   ·refine ⟨by omega, fun j hj => ?_⟩
    rcases Nat.lt_or_ge j k with h|h
    ·exact hall j h
    ·rw [show j = k by omega]; assumption
   ·omega
 ·have hu : cZ ts s x = false := by
   cases q : cZ ts s x with
   | false => rfl
   | true =>
    obtain ⟨v, hv, hs⟩ := (cO htl).1 q
    rw [← hL] at hv
    obtain ⟨j, hj, e⟩ := List.getElem_of_mem hv
    have h1 := hall j (by omega)
    rw [bE _ _ hj, e, hs] at h1;cases h1
  rw [r7 hu]
  have hle := Lx s.cells hm s.slots[x.y.toNat]!.ptr (decide (x.op = 5))
  by_cases hk : mD s.cells s.slots[x.y.toNat]!.ptr (decide (x.op = 5)) = 0
  ·have hp := nR ts bd pts ⟨s.slots, n3 s.cells s.slots[x.y.toNat]!.ptr (decide (x.op = 5)), s.read⟩ x.x ⟨true, 0, sB s.cells s.slots[x.y.toNat]!.ptr (decide (x.op = 5))⟩ (hm.ln _ _) hsl hx
   have hd : dP ts s x = cA ts ⟨s.slots, n3 s.cells s.slots[x.y.toNat]!.ptr (decide (x.op = 5)), s.read⟩ x.x.toNat ⟨true, 0, sB s.cells s.slots[x.y.toNat]!.ptr (decide (x.op = 5))⟩ := by unfold dP;rw [if_neg (show ¬ x.op = 1 by omega), if_neg (show ¬ x.op = 2 by omega), if_neg (show ¬ x.op = 3 by omega), if_pos ho, if_pos hk]
   rw [hd]
   rw [hk] at hle
   repeat' (first|(apply aH;first|(apply jA;(case hx|hH => rfl);(case hf|hg|hα => infer_instance);(case hk => omega);(case hj => decide);(case hc => exact (rfl:_=[_, _]));(case h0|hN => rfl))|(apply aA (k := 200);rfl;exact hle;exact Pur.pf;rfl)|(apply kZ (ts := ts) (bd := bd) (pts := pts) (s := ⟨s.slots, n3 s.cells s.slots[x.y.toNat]!.ptr (decide (x.op = 5)), s.read⟩) (v := x.x) (y := ⟨true, 0, sB s.cells s.slots[x.y.toNat]!.ptr (decide (x.op = 5))⟩);(case ha0|ha1|ha2|hH0|hH1|hH2|hdd => rfl);(case hmc => exact hp);(case hM|hN => rfl)))|refine aE ?_|refine aF ?_|(refine aL ?_ ?_ <;> intro hc hq <;> try (exfalso;omega))|refine bQ ?_|fail)
   all_goals (
    (refine aD rfl ?_; refine aP () trivial ?_ ⟨.inr (Eq.trans (b := some _) rfl ?_), ⟨.inr (Eq.trans (b := some _) rfl ?_), ⟨.inr (Eq.trans (b := some _) rfl ?_), trivial⟩⟩⟩)
    ·rfl
    ·rfl
    ·rfl
    ·rfl)
  ·have hd : dP ts s x = (s, fL (mD s.cells s.slots[x.y.toNat]!.ptr (decide (x.op = 5)))) := by unfold dP; rw [if_neg (show ¬ x.op = 1 by omega), if_neg (show ¬ x.op = 2 by omega), if_neg (show ¬ x.op = 3 by omega), if_pos ho, if_neg hk]
   rw [hd]
   repeat' (first|(apply aH;first|(apply jA;(case hx|hH => rfl);(case hf|hg|hα => infer_instance);(case hk => omega);(case hj => decide);(case hc => exact (rfl:_=[_, _]));(case h0|hN => rfl))|(apply aA (k := 200);rfl;exact hle;exact Pur.pf;rfl)|(apply aA (k := 201);rfl;(apply sT);(rfl);rfl))|refine aE ?_|refine aF ?_|(refine aL ?_ ?_ <;> intro hc hq <;> try (exfalso;omega))|refine bQ ?_|fail)
   all_goals (
    (refine aD rfl ?_; refine aP () trivial ?_ ⟨.inr (Eq.trans (b := some _) rfl ?_), ⟨.inr (Eq.trans (b := some _) rfl ?_), ⟨.inr (Eq.trans (b := some _) rfl ?_), trivial⟩⟩⟩)
    ·rfl
    ·rfl
    ·rfl
    ·rfl)
theorem O2 (ts : List Int) (bd : List AL.Stmt) (pts : List Pnt) (s : Mc) (x : Pnt) (htl : ts.length ≤ 6) (hm : OkM s.cells) (hsl : s.slots.length = ts.length) (ho : x.op = 6) (hrl : s.read.length ≤ 1000) (hx : 0 ≤ x.x ∧ x.x < ts.length) (hy : 0 ≤ x.y ∧ x.y < ts.length) (hz : ¬ bF s.cells s.slots[x.y.toNat]!.ptr false = 0) : MC Tryz.prog 140 [.optr 0 0, dW x] [(0, some (mO ts bd pts 1 2 s)), (1, some (flat dH s.slots)), (2, some (flat cI s.read))] 3 (fun _ : Unit => True) (fun _ => iv (dY ts s x).2) (fun _ => [(0, some (mO ts bd pts 1 2 (dY ts s x).1)), (1, some (flat dH (dY ts s x).1.slots)), (2, some (flat cI (dY ts s x).1.read))]) := by
 have hus := gV ts bd pts x htl
 have hsm : Sm (wS ts x [1, 2, 3]) := bU (by omega)
 obtain ⟨L, hL⟩ : ∃ L, L = a7 (wS ts x [1, 2, 3]) := ⟨_, rfl⟩
 have hLl : L.length ≤ 62 := by rw [hL]; exact cF _
 have hmem : ∀ k, k < L.length → 0 ≤ L[k]! ∧ L[k]! < s.slots.length := fun k hk => by
  rw [hsl]; exact iB (by rw [← hL]; exact aY _ _ hk)
 refine aU Tryz.func140 Tryz.ntmps140 ?_
 repeat' (first|(apply aH;first|(apply aA (k := 158);rfl;exact hus;exact Pur.pf;rfl)|(apply aA (k := 120);rfl;(apply fY <;> (assumption));(rfl);rfl))|refine aE ?_|refine aF ?_|refine bQ ?_|fail)
 rw [← hL]
 refine aI (σ := Nat) [0, 3, 26, 27] [0, 1, 2, 3] (fun k => [(28, iv (k : Int))]) (fun k => []) (fun k => k ≤ L.length ∧ ∀ j, j < k → s.slots[(L[j]!).toNat]!.set = true) (fun k => L.length - k) (0) ⟨Nat.zero_le _, fun j h => absurd h (by omega)⟩ ?_
 rintro k ⟨hk, hall⟩
 by_cases hkn : k < L.length
 ·have hmk := hmem k hkn
  repeat' (first|refine aE ?_|refine aF ?_|(refine aL ?_ ?_ <;> intro hc hq <;> try (exfalso;omega))|fail)
  ·have hu : cZ ts s x = true := (cO htl).2 ⟨L[k]!, by rw [← hL]; exact aY _ _ hkn, by assumption⟩
   rw [vV hu]
   (refine aD rfl ?_; refine aP () trivial ?_ ⟨.inr (Eq.trans (b := some _) rfl ?_), ⟨.inr (Eq.trans (b := some _) rfl ?_), ⟨.inr (Eq.trans (b := some _) rfl ?_), trivial⟩⟩⟩)
   ·rfl
   ·rfl
   ·rfl
   ·rfl
  ·(refine bB (k + 1) (Le.renA [(3, 3)]) ?_ ?_)
   ·refine ⟨by omega, fun j hj => ?_⟩
    rcases Nat.lt_or_ge j k with h|h
    ·exact hall j h
    ·rw [show j = k by omega]; assumption
   ·omega
 ·have hu : cZ ts s x = false := by
   cases q : cZ ts s x with
   | false => rfl
   | true =>
    obtain ⟨v, hv, hs⟩ := (cO htl).1 q
    rw [← hL] at hv
    obtain ⟨j, hj, e⟩ := List.getElem_of_mem hv
    have h1 := hall j (by omega)
    rw [bE _ _ hj, e, hs] at h1;cases h1
  rw [r7 hu]
  have hrc := rI s.cells hm s.slots[x.y.toNat]!.ptr
  have hd : dP ts s x = (s, fL (bF s.cells s.slots[x.y.toNat]!.ptr false)) := by unfold dP;rw [if_neg (show ¬ x.op = 1 by omega), if_neg (show ¬ x.op = 2 by omega), if_neg (show ¬ x.op = 3 by omega), if_neg (show ¬ (x.op = 4 ∨ x.op = 5) by omega), if_pos ho, if_neg hz]
  rw [hd]
  repeat' (first|(apply aH;first|(apply jA;(case hx|hH => rfl);(case hf|hg|hα => infer_instance);(case hk => omega);(case hj => decide);(case hc => exact (rfl:_=[_, _]));(case h0|hN => rfl))|(apply aA (k := 202);rfl;exact hrc;exact Pur.pf;rfl)|(apply aA (k := 201);rfl;(apply sT);(rfl);rfl))|refine aE ?_|refine aF ?_|(refine aL ?_ ?_ <;> intro hc hq <;> try (exfalso;omega))|refine bQ ?_|fail)
  (refine aD rfl ?_; refine aP () trivial ?_ ⟨.inr (Eq.trans (b := some _) rfl ?_), ⟨.inr (Eq.trans (b := some _) rfl ?_), ⟨.inr (Eq.trans (b := some _) rfl ?_), trivial⟩⟩⟩)
  ·rfl
  ·rfl
  ·rfl
  ·rfl
theorem OY (ts : List Int) (bd : List AL.Stmt) (pts : List Pnt) (s : Mc) (x : Pnt) (htl : ts.length ≤ 6) (hm : OkM s.cells) (hsl : s.slots.length = ts.length) (ho : x.op = 7) (hx : 0 ≤ x.x ∧ x.x < ts.length) (hy : 0 ≤ x.y ∧ x.y < ts.length) : MC Tryz.prog 140 [.optr 0 0, dW x] [(0, some (mO ts bd pts 1 2 s)), (1, some (flat dH s.slots)), (2, some (flat cI s.read))] 3 (fun _ : Unit => True) (fun _ => iv (dY ts s x).2) (fun _ => [(0, some (mO ts bd pts 1 2 (dY ts s x).1)), (1, some (flat dH (dY ts s x).1.slots)), (2, some (flat cI (dY ts s x).1.read))]) := by
 have hus := gV ts bd pts x htl
 have hsm : Sm (wS ts x [1, 2, 3]) := bU (by omega)
 obtain ⟨L, hL⟩ : ∃ L, L = a7 (wS ts x [1, 2, 3]) := ⟨_, rfl⟩
 have hLl : L.length ≤ 62 := by rw [hL]; exact cF _
 have hmem : ∀ k, k < L.length → 0 ≤ L[k]! ∧ L[k]! < s.slots.length := fun k hk => by
  rw [hsl]; exact iB (by rw [← hL]; exact aY _ _ hk)
 refine aU Tryz.func140 Tryz.ntmps140 ?_
 repeat' (first|(apply aH;first|(apply aA (k := 158);rfl;exact hus;exact Pur.pf;rfl)|(apply aA (k := 120);rfl;(apply fY <;> (assumption));(rfl);rfl))|refine aE ?_|refine aF ?_|refine bQ ?_|fail)
 rw [← hL]
 refine aI (σ := Nat) [0, 3, 26, 27] [0, 1, 2, 3] (fun k => [(28, iv (k : Int))]) (fun k => []) (fun k => k ≤ L.length ∧ ∀ j, j < k → s.slots[(L[j]!).toNat]!.set = true) (fun k => L.length - k) (0) ⟨Nat.zero_le _, fun j h => absurd h (by omega)⟩ ?_
 rintro k ⟨hk, hall⟩
 by_cases hkn : k < L.length
 ·have hmk := hmem k hkn
  repeat' (first|refine aE ?_|refine aF ?_|(refine aL ?_ ?_ <;> intro hc hq <;> try (exfalso;omega))|fail)
  ·have hu : cZ ts s x = true := (cO htl).2 ⟨L[k]!, by rw [← hL]; exact aY _ _ hkn, by assumption⟩
   rw [vV hu]
   (refine aD rfl ?_; refine aP () trivial ?_ ⟨.inr (Eq.trans (b := some _) rfl ?_), ⟨.inr (Eq.trans (b := some _) rfl ?_), ⟨.inr (Eq.trans (b := some _) rfl ?_), trivial⟩⟩⟩)
   ·rfl
   ·rfl
   ·rfl
   ·rfl
  ·(refine bB (k + 1) (Le.renA [(3, 3)]) ?_ ?_)
   ·refine ⟨by omega, fun j hj => ?_⟩
    rcases Nat.lt_or_ge j k with h|h
    ·exact hall j h
    ·rw [show j = k by omega]; assumption
   ·omega
 ·have hu : cZ ts s x = false := by
   cases q : cZ ts s x with
   | false => rfl
   | true =>
    obtain ⟨v, hv, hs⟩ := (cO htl).1 q
    rw [← hL] at hv
    obtain ⟨j, hj, e⟩ := List.getElem_of_mem hv
    have h1 := hall j (by omega)
    rw [bE _ _ hj, e, hs] at h1;cases h1
  rw [r7 hu]
  have hwr := zX s.cells hm s.slots[x.x.toNat]!.ptr s.slots[x.y.toNat]!.num
  have hd : dP ts s x = (⟨s.slots, Ax s.cells s.slots[x.x.toNat]!.ptr s.slots[x.y.toNat]!.num, s.read⟩, oN (x6 s.cells s.slots[x.x.toNat]!.ptr s.slots[x.y.toNat]!.num)) := by unfold dP;rw [if_neg (show ¬ x.op = 1 by omega), if_neg (show ¬ x.op = 2 by omega), if_neg (show ¬ x.op = 3 by omega), if_neg (show ¬ (x.op = 4 ∨ x.op = 5) by omega), if_neg (show ¬ x.op = 6 by omega), if_pos ho]
  rw [hd]
  repeat' (first|(apply aH;first|(apply jA;(case hx|hH => rfl);(case hf|hg|hα => infer_instance);(case hk => omega);(case hj => decide);(case hc => exact (rfl:_=[_, _]));(case h0|hN => rfl))|(apply aA (k := 203);rfl;exact hwr;exact Pur.pf;rfl)|(apply aA (k := 201);rfl;(apply sT);(rfl);rfl))|refine aE ?_|refine aF ?_|(refine aL ?_ ?_ <;> intro hc hq <;> try (exfalso;omega))|refine bQ ?_|fail)
  ·have hk : ¬ x6 s.cells s.slots[x.x.toNat]!.ptr s.slots[x.y.toNat]!.num = 0 := by assumption
   (refine aD rfl ?_; refine aP () trivial ?_ ⟨.inr (Eq.trans (b := some _) rfl ?_), ⟨.inr (Eq.trans (b := some _) rfl ?_), ⟨.inr (Eq.trans (b := some _) rfl ?_), trivial⟩⟩⟩)
   ·show iv (fL _) = iv (oN _)
    unfold oN;rw [if_neg hk]
   ·rfl
   ·rfl
   ·rfl
  ·have hk : x6 s.cells s.slots[x.x.toNat]!.ptr s.slots[x.y.toNat]!.num = 0 := by assumption
   (refine aD rfl ?_; refine aP () trivial ?_ ⟨.inr (Eq.trans (b := some _) rfl ?_), ⟨.inr (Eq.trans (b := some _) rfl ?_), ⟨.inr (Eq.trans (b := some _) rfl ?_), trivial⟩⟩⟩)
   ·rw [hk]; rfl
   ·rfl
   ·rfl
   ·rfl
theorem O1 (ts : List Int) (bd : List AL.Stmt) (pts : List Pnt) (s : Mc) (x : Pnt) (htl : ts.length ≤ 6) (hm : OkM s.cells) (hsl : s.slots.length = ts.length) (ho : x.op = 8) (hx : 0 ≤ x.x ∧ x.x < ts.length) : MC Tryz.prog 140 [.optr 0 0, dW x] [(0, some (mO ts bd pts 1 2 s)), (1, some (flat dH s.slots)), (2, some (flat cI s.read))] 3 (fun _ : Unit => True) (fun _ => iv (dY ts s x).2) (fun _ => [(0, some (mO ts bd pts 1 2 (dY ts s x).1)), (1, some (flat dH (dY ts s x).1.slots)), (2, some (flat cI (dY ts s x).1.read))]) := by
 have hus := gV ts bd pts x htl
 have hsm : Sm (wS ts x [1, 2, 3]) := bU (by omega)
 obtain ⟨L, hL⟩ : ∃ L, L = a7 (wS ts x [1, 2, 3]) := ⟨_, rfl⟩
 have hLl : L.length ≤ 62 := by rw [hL]; exact cF _
 have hmem : ∀ k, k < L.length → 0 ≤ L[k]! ∧ L[k]! < s.slots.length := fun k hk => by
  rw [hsl]; exact iB (by rw [← hL]; exact aY _ _ hk)
 refine aU Tryz.func140 Tryz.ntmps140 ?_
 repeat' (first|(apply aH;first|(apply aA (k := 158);rfl;exact hus;exact Pur.pf;rfl)|(apply aA (k := 120);rfl;(apply fY <;> (assumption));(rfl);rfl))|refine aE ?_|refine aF ?_|refine bQ ?_|fail)
 rw [← hL]
 refine aI (σ := Nat) [0, 3, 26, 27] [0, 1, 2, 3] (fun k => [(28, iv (k : Int))]) (fun k => []) (fun k => k ≤ L.length ∧ ∀ j, j < k → s.slots[(L[j]!).toNat]!.set = true) (fun k => L.length - k) (0) ⟨Nat.zero_le _, fun j h => absurd h (by omega)⟩ ?_
 rintro k ⟨hk, hall⟩
 by_cases hkn : k < L.length
 ·have hmk := hmem k hkn
  repeat' (first|refine aE ?_|refine aF ?_|(refine aL ?_ ?_ <;> intro hc hq <;> try (exfalso;omega))|fail)
  ·have hu : cZ ts s x = true := (cO htl).2 ⟨L[k]!, by rw [← hL]; exact aY _ _ hkn, by assumption⟩
   rw [vV hu]
   (refine aD rfl ?_; refine aP () trivial ?_ ⟨.inr (Eq.trans (b := some _) rfl ?_), ⟨.inr (Eq.trans (b := some _) rfl ?_), ⟨.inr (Eq.trans (b := some _) rfl ?_), trivial⟩⟩⟩)
   ·rfl
   ·rfl
   ·rfl
   ·rfl
  ·(refine bB (k + 1) (Le.renA [(3, 3)]) ?_ ?_)
   ·refine ⟨by omega, fun j hj => ?_⟩
    rcases Nat.lt_or_ge j k with h|h
    ·exact hall j h
    ·rw [show j = k by omega]; assumption
   ·omega
 ·have hu : cZ ts s x = false := by
   cases q : cZ ts s x with
   | false => rfl
   | true =>
    obtain ⟨v, hv, hs⟩ := (cO htl).1 q
    rw [← hL] at hv
    obtain ⟨j, hj, e⟩ := List.getElem_of_mem hv
    have h1 := hall j (by omega)
    rw [bE _ _ hj, e, hs] at h1;cases h1
  rw [r7 hu]
  have hfr := G6 ts bd pts s x.x hm hsl hx
  have hd : dP ts s x = (⟨s.slots.set x.x.toNat nA, lV s.cells s.slots[x.x.toNat]!.ptr, s.read⟩, oN (bF s.cells s.slots[x.x.toNat]!.ptr true)) := by unfold dP;rw [if_neg (show ¬ x.op = 1 by omega), if_neg (show ¬ x.op = 2 by omega), if_neg (show ¬ x.op = 3 by omega), if_neg (show ¬ (x.op = 4 ∨ x.op = 5) by omega), if_neg (show ¬ x.op = 6 by omega), if_neg (show ¬ x.op = 7 by omega), if_pos ho]
  rw [hd]
  repeat' (first|(apply aH;first|(apply Fi (ts := ts) (bd := bd) (pts := pts) (s := s) (v := x.x);rfl;rfl;rfl;rfl;rfl;rfl;exact hfr;rfl;rfl)|(apply bC;rfl;rfl;rfl;rfl;rfl;(rw [aJ]; simp only [fX] <;> omega);(exact xL (by (omega)))))|refine aE ?_|refine aF ?_|(refine aL ?_ ?_ <;> intro hc hq <;> try (exfalso;omega))|refine bQ ?_|fail)
  (refine aD rfl ?_; refine aP () trivial ?_ ⟨.inr (Eq.trans (b := some _) rfl ?_), ⟨.inr (Eq.trans (b := some _) rfl ?_), ⟨.inr (Eq.trans (b := some _) rfl ?_), trivial⟩⟩⟩)
  ·rfl
  ·rfl
  ·rfl
  ·rfl
theorem OU (ts : List Int) (bd : List AL.Stmt) (pts : List Pnt) (s : Mc) (x : Pnt) (htl : ts.length ≤ 6) (hm : OkM s.cells) (hsl : s.slots.length = ts.length) (ho : x.op = 9 ∨ x.op = 10 ∨ x.op = 11) : MC Tryz.prog 140 [.optr 0 0, dW x] [(0, some (mO ts bd pts 1 2 s)), (1, some (flat dH s.slots)), (2, some (flat cI s.read))] 3 (fun _ : Unit => True) (fun _ => iv (dY ts s x).2) (fun _ => [(0, some (mO ts bd pts 1 2 (dY ts s x).1)), (1, some (flat dH (dY ts s x).1.slots)), (2, some (flat cI (dY ts s x).1.read))]) := by
 have hus := gV ts bd pts x htl
 have hsm : Sm (wS ts x [1, 2, 3]) := bU (by omega)
 obtain ⟨L, hL⟩ : ∃ L, L = a7 (wS ts x [1, 2, 3]) := ⟨_, rfl⟩
 have hLl : L.length ≤ 62 := by rw [hL]; exact cF _
 have hmem : ∀ k, k < L.length → 0 ≤ L[k]! ∧ L[k]! < s.slots.length := fun k hk => by
  rw [hsl]; exact iB (by rw [← hL]; exact aY _ _ hk)
 refine aU Tryz.func140 Tryz.ntmps140 ?_
 repeat' (first|(apply aH;first|(apply aA (k := 158);rfl;exact hus;exact Pur.pf;rfl)|(apply aA (k := 120);rfl;(apply fY <;> (assumption));(rfl);rfl))|refine aE ?_|refine aF ?_|refine bQ ?_|fail)
 rw [← hL]
 refine aI (σ := Nat) [0, 3, 26, 27] [0, 1, 2, 3] (fun k => [(28, iv (k : Int))]) (fun k => []) (fun k => k ≤ L.length ∧ ∀ j, j < k → s.slots[(L[j]!).toNat]!.set = true) (fun k => L.length - k) (0) ⟨Nat.zero_le _, fun j h => absurd h (by omega)⟩ ?_
 rintro k ⟨hk, hall⟩
 by_cases hkn : k < L.length
 ·have hmk := hmem k hkn
  repeat' (first|refine aE ?_|refine aF ?_|(refine aL ?_ ?_ <;> intro hc hq <;> try (exfalso;omega))|fail)
  ·have hu : cZ ts s x = true := (cO htl).2 ⟨L[k]!, by rw [← hL]; exact aY _ _ hkn, by assumption⟩
   rw [vV hu]
   (refine aD rfl ?_; refine aP () trivial ?_ ⟨.inr (Eq.trans (b := some _) rfl ?_), ⟨.inr (Eq.trans (b := some _) rfl ?_), ⟨.inr (Eq.trans (b := some _) rfl ?_), trivial⟩⟩⟩)
   ·rfl
   ·rfl
   ·rfl
   ·rfl
  ·(refine bB (k + 1) (Le.renA [(3, 3)]) ?_ ?_)
   ·refine ⟨by omega, fun j hj => ?_⟩
    rcases Nat.lt_or_ge j k with h|h
    ·exact hall j h
    ·rw [show j = k by omega]; assumption
   ·omega
 ·have hu : cZ ts s x = false := by
   cases q : cZ ts s x with
   | false => rfl
   | true =>
    obtain ⟨v, hv, hs⟩ := (cO htl).1 q
    rw [← hL] at hv
    obtain ⟨j, hj, e⟩ := List.getElem_of_mem hv
    have h1 := hall j (by omega)
    rw [bE _ _ hj, e, hs] at h1;cases h1
  rw [r7 hu]
  by_cases h11 : x.op = 11
  ·have hd : dP ts s x = c5 ts ts.length 0 s := Iv h11
   rw [hd]
   have hfi := MW ts bd pts s hm hsl (by omega)
   repeat' (first|(apply aH;(apply JN (ts := ts) (bd := bd) (pts := pts) (s := s);rfl;rfl;rfl;rfl;rfl;exact hfi;rfl;rfl))|refine aE ?_|refine aF ?_|(refine aL ?_ ?_ <;> intro hc hq <;> try (exfalso;omega))|fail)
   (refine aD rfl ?_; refine aP () trivial ?_ ⟨.inr (Eq.trans (b := some _) rfl ?_), ⟨.inr (Eq.trans (b := some _) rfl ?_), ⟨.inr (Eq.trans (b := some _) rfl ?_), trivial⟩⟩⟩)
   ·rfl
   ·rfl
   ·rfl
   ·rfl
  ·have hd : dP ts s x = (s, -1) := by unfold dP; rw [if_neg (show ¬ x.op = 1 by omega), if_neg (show ¬ x.op = 2 by omega), if_neg (show ¬ x.op = 3 by omega), if_neg (show ¬ (x.op = 4 ∨ x.op = 5) by omega), if_neg (show ¬ x.op = 6 by omega), if_neg (show ¬ x.op = 7 by omega), if_neg (show ¬ x.op = 8 by omega), if_neg (show ¬ x.op = 11 by omega)]
   rw [hd]
   repeat' (first|refine aE ?_|refine aF ?_|(refine aL ?_ ?_ <;> intro hc hq <;> try (exfalso;omega))|fail)
   (refine aD rfl ?_; refine aP () trivial ?_ ⟨.inr (Eq.trans (b := some _) rfl ?_), ⟨.inr (Eq.trans (b := some _) rfl ?_), ⟨.inr (Eq.trans (b := some _) rfl ?_), trivial⟩⟩⟩)
   ·rfl
   ·rfl
   ·rfl
   ·rfl
theorem Ot (ts : List Int) (bd : List AL.Stmt) (pts : List Pnt) (s : Mc) (x : Pnt) (htl : ts.length ≤ 6) (hm : OkM s.cells) (hsl : s.slots.length = ts.length) (ho : x.op = 6) (hrl : s.read.length ≤ 1000) (hx : 0 ≤ x.x ∧ x.x < ts.length) (hy : 0 ≤ x.y ∧ x.y < ts.length) (hz : bF s.cells s.slots[x.y.toNat]!.ptr false = 0) (hun : cZ ts s x = false) : MC Tryz.prog 140 [.optr 0 0, dW x] [(0, some (mO ts bd pts 1 2 s)), (1, some (flat dH s.slots)), (2, some (flat cI s.read))] 3 (fun _ : Unit => True) (fun _ => iv (dY ts s x).2) (fun _ => [(0, some (mO ts bd pts 1 5 (dY ts s x).1)), (1, some (flat dH (dY ts s x).1.slots)), (5, some (flat cI (dY ts s x).1.read))]) := by
 have hus := gV ts bd pts x htl
 have hsm : Sm (wS ts x [1, 2, 3]) := bU (by omega)
 obtain ⟨L, hL⟩ : ∃ L, L = a7 (wS ts x [1, 2, 3]) := ⟨_, rfl⟩
 have hLl : L.length ≤ 62 := by rw [hL]; exact cF _
 have hmem : ∀ k, k < L.length → 0 ≤ L[k]! ∧ L[k]! < s.slots.length := fun k hk => by
  rw [hsl]; exact iB (by rw [← hL]; exact aY _ _ hk)
 refine aU Tryz.func140 Tryz.ntmps140 ?_
 repeat' (first|(apply aH;first|(apply aA (k := 158);rfl;exact hus;exact Pur.pf;rfl)|(apply aA (k := 120);rfl;(apply fY <;> (assumption));(rfl);rfl))|refine aE ?_|refine aF ?_|refine bQ ?_|fail)
 rw [← hL]
 refine aI (σ := Nat) [0, 3, 26, 27] [0, 1, 2, 3] (fun k => [(28, iv (k : Int))]) (fun k => []) (fun k => k ≤ L.length ∧ ∀ j, j < k → s.slots[(L[j]!).toNat]!.set = true) (fun k => L.length - k) (0) ⟨Nat.zero_le _, fun j h => absurd h (by omega)⟩ ?_
 rintro k ⟨hk, hall⟩
 by_cases hkn : k < L.length
 ·have hmk := hmem k hkn
  repeat' (first|refine aE ?_|refine aF ?_|(refine aL ?_ ?_ <;> intro hc hq <;> try (exfalso;omega))|fail)
  ·exfalso
   have hu : cZ ts s x = true := (cO htl).2 ⟨L[k]!, by rw [← hL]; exact aY _ _ hkn, by assumption⟩
   rw [hun] at hu;cases hu
  ·(refine bB (k + 1) (Le.renA [(3, 3)]) ?_ ?_)
   ·refine ⟨by omega, fun j hj => ?_⟩
    rcases Nat.lt_or_ge j k with h|h
    ·exact hall j h
    ·rw [show j = k by omega]; assumption
   ·omega
 ·have hu : cZ ts s x = false := by
   cases q : cZ ts s x with
   | false => rfl
   | true =>
    obtain ⟨v, hv, hs⟩ := (cO htl).1 q
    rw [← hL] at hv
    obtain ⟨j, hj, e⟩ := List.getElem_of_mem hv
    have h1 := hall j (by omega)
    rw [bE _ _ hj, e, hs] at h1;cases h1
  rw [r7 hu]
  have hrc := rI s.cells hm s.slots[x.y.toNat]!.ptr
  have hp := nR ts bd pts ⟨s.slots, dZ s.cells s.slots[x.y.toNat]!.ptr false, s.read ++ [pP s.cells s.slots[x.y.toNat]!.ptr]⟩ x.x ⟨true, pP s.cells s.slots[x.y.toNat]!.ptr, ⟨0, 0⟩⟩ (hm.tch _ _) hsl hx
  have hd : dP ts s x = cA ts ⟨s.slots, dZ s.cells s.slots[x.y.toNat]!.ptr false, s.read ++ [pP s.cells s.slots[x.y.toNat]!.ptr]⟩ x.x.toNat ⟨true, pP s.cells s.slots[x.y.toNat]!.ptr, ⟨0, 0⟩⟩ := by unfold dP;rw [if_neg (show ¬ x.op = 1 by omega), if_neg (show ¬ x.op = 2 by omega), if_neg (show ¬ x.op = 3 by omega), if_neg (show ¬ (x.op = 4 ∨ x.op = 5) by omega), if_pos ho, if_pos hz]
  rw [hd]
  rw [hz] at hrc
  repeat' (first|(apply aH;first|(apply jA;(case hx|hH => rfl);(case hf|hg|hα => infer_instance);(case hk => omega);(case hj => decide);(case hc => exact (rfl:_=[_, _]));(case h0|hN => rfl))|(apply aA (k := 202);rfl;exact hrc;exact Pur.pf;rfl)|(with_reducible apply aX (d := 184))|(apply aK (t := _);rfl;rfl;rfl;exact (rfl:_=some [_]);rfl;rfl))|refine aE ?_|refine aF ?_|(refine aL ?_ ?_ <;> intro hc hq <;> try (exfalso;omega))|refine bQ ?_|fail)
  refine bV ?_
  rw [show s.read.length + 1 = (s.read ++ [pP s.cells s.slots[x.y.toNat]!.ptr]).length from by rw [List.length_append]; rfl]
  repeat' (first|(apply aH;(apply kZ (ts := ts) (bd := bd) (pts := pts) (s := ⟨s.slots, dZ s.cells s.slots[x.y.toNat]!.ptr false, s.read ++ [pP s.cells s.slots[x.y.toNat]!.ptr]⟩) (v := x.x) (y := ⟨true, pP s.cells s.slots[x.y.toNat]!.ptr, ⟨0, 0⟩⟩);rfl;rfl;rfl;rfl;rfl;rfl;rfl;exact hp;rfl;rfl))|refine aE ?_|refine aF ?_|fail)
  (refine aD rfl ?_; refine aP () trivial ?_ ⟨.inr (Eq.trans (b := some _) rfl ?_), ⟨.inr (Eq.trans (b := some _) rfl ?_), ⟨.inr (Eq.trans (b := some _) rfl ?_), trivial⟩⟩⟩)
  ·rfl
  ·rfl
  ·rfl
  ·rfl
theorem Po (ts : List Int) (bd : List AL.Stmt) (pts : List Pnt) (s : Mc) (x : Pnt) (htl : ts.length ≤ 6) (hm : OkM s.cells) (hsl : s.slots.length = ts.length) (hun : cZ ts s x = true) : MC Tryz.prog 140 [.optr 0 0, dW x] [(0, some (mO ts bd pts 1 2 s)), (1, some (flat dH s.slots)), (2, some (flat cI s.read))] 3 (fun _ : Unit => True) (fun _ => iv (dY ts s x).2) (fun _ => [(0, some (mO ts bd pts 1 2 (dY ts s x).1)), (1, some (flat dH (dY ts s x).1.slots)), (2, some (flat cI (dY ts s x).1.read))]) := by
 have hus := gV ts bd pts x htl
 have hsm : Sm (wS ts x [1, 2, 3]) := bU (by omega)
 obtain ⟨L, hL⟩ : ∃ L, L = a7 (wS ts x [1, 2, 3]) := ⟨_, rfl⟩
 have hLl : L.length ≤ 62 := by rw [hL]; exact cF _
 have hmem : ∀ k, k < L.length → 0 ≤ L[k]! ∧ L[k]! < s.slots.length := fun k hk => by
  rw [hsl]; exact iB (by rw [← hL]; exact aY _ _ hk)
 refine aU Tryz.func140 Tryz.ntmps140 ?_
 repeat' (first|(apply aH;first|(apply aA (k := 158);rfl;exact hus;exact Pur.pf;rfl)|(apply aA (k := 120);rfl;(apply fY <;> (assumption));(rfl);rfl))|refine aE ?_|refine aF ?_|refine bQ ?_|fail)
 rw [← hL]
 refine aI (σ := Nat) [0, 3, 26, 27] [0, 1, 2, 3] (fun k => [(28, iv (k : Int))]) (fun k => []) (fun k => k ≤ L.length ∧ ∀ j, j < k → s.slots[(L[j]!).toNat]!.set = true) (fun k => L.length - k) (0) ⟨Nat.zero_le _, fun j h => absurd h (by omega)⟩ ?_
 rintro k ⟨hk, hall⟩
 by_cases hkn : k < L.length
 ·have hmk := hmem k hkn
  repeat' (first|refine aE ?_|refine aF ?_|(refine aL ?_ ?_ <;> intro hc hq <;> try (exfalso;omega))|fail)
  ·have hu : cZ ts s x = true := (cO htl).2 ⟨L[k]!, by rw [← hL]; exact aY _ _ hkn, by assumption⟩
   rw [vV hu]
   (refine aD rfl ?_; refine aP () trivial ?_ ⟨.inr (Eq.trans (b := some _) rfl ?_), ⟨.inr (Eq.trans (b := some _) rfl ?_), ⟨.inr (Eq.trans (b := some _) rfl ?_), trivial⟩⟩⟩)
   ·rfl
   ·rfl
   ·rfl
   ·rfl
  ·(refine bB (k + 1) (Le.renA [(3, 3)]) ?_ ?_)
   ·refine ⟨by omega, fun j hj => ?_⟩
    rcases Nat.lt_or_ge j k with h|h
    ·exact hall j h
    ·rw [show j = k by omega]; assumption
   ·omega
 ·have hu : cZ ts s x = false := by
   cases q : cZ ts s x with
   | false => rfl
   | true =>
    obtain ⟨v, hv, hs⟩ := (cO htl).1 q
    rw [← hL] at hv
    obtain ⟨j, hj, e⟩ := List.getElem_of_mem hv
    have h1 := hall j (by omega)
    rw [bE _ _ hj, e, hs] at h1;cases h1
  rw [r7 hu]
  rw [hun] at hu;cases hu
end Go.Proofs.YtahdccneecdmmaaGreat
