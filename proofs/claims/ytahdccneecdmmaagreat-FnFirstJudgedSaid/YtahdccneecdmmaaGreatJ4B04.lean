/-
 A part of the proofs over this program: rules and contracts of its functions (the contracts).
-/
import Derived.Test.YtahdccneecdmmaaGreatJ4B03
set_option linter.unusedVariables false
set_option linter.unusedSimpArgs false
set_option maxHeartbeats 8000000
set_option maxRecDepth 4000
attribute [local irreducible] Go.AL.RW Go.AL.AW Go.AL.Stop
namespace Go.Proofs.YtahdccneecdmmaaGreat
open Go.AL Go.RowKit
theorem Bz {m : List Cl} {x : Pt} {wr : Bool} (h : x.cell < 0 ∨ (m.length : Int) ≤ x.cell) : bD m x wr = 4 := by
 unfold bD;rw [if_pos (by omega)]
theorem Gv {m : List Cl} {x : Pt} {wr : Bool} (h : 0 ≤ x.cell) (h2 : x.cell < m.length) (h3 : m[x.cell.toNat]!.alive = false) : bD m x wr = 1 := by
 unfold bD;rw [if_neg (by omega), if_pos h3]
theorem G2 {m : List Cl} {x : Pt} {wr : Bool} (h : 0 ≤ x.cell) (h2 : x.cell < m.length) (h3 : m[x.cell.toNat]!.alive = true) (h4 : cE m[x.cell.toNat]!.stk x.tag < 0) : bD m x wr = 2 := by
 unfold bD;rw [if_neg (by omega), if_neg (by rw [h3]; decide), if_pos h4]
theorem rE {m : List Cl} {x : Pt} (h : 0 ≤ x.cell) (h2 : x.cell < m.length) (h3 : m[x.cell.toNat]!.alive = true) (h4 : 0 ≤ cE m[x.cell.toNat]!.stk x.tag) : bD m x false = 0 := by
 unfold bD;rw [if_neg (by omega), if_neg (by rw [h3]; decide), if_neg (by omega), if_neg (by intro q;exact absurd q.1 (by decide))]
theorem wR {m : List Cl} {x : Pt} : bD m x true = if bD m x false = 0 then (if m[x.cell.toNat]!.stk[(cE m[x.cell.toNat]!.stk x.tag).toNat]!.uq = false then 3 else 0) else bD m x false := by
 unfold bD
 split
 ·rw [if_neg (by decide)]
 ·split
  ·rw [if_neg (by decide)]
  ·split
   ·rw [if_neg (by decide)]
   ·rw [if_neg (c := false = true ∧ _) (by intro q; exact absurd q.1 (by decide)), if_pos rfl]
    simp only [true_and]
theorem dI {m : List Cl} {x : Pt} {wr : Bool} (h : bD m x wr = 0) : 0 ≤ x.cell ∧ x.cell < m.length ∧ m[x.cell.toNat]!.alive = true ∧ 0 ≤ cE m[x.cell.toNat]!.stk x.tag ∧ (wr = true → m[x.cell.toNat]!.stk[(cE m[x.cell.toNat]!.stk x.tag).toNat]!.uq = true) := by
 unfold bD at h
 split at h
 ·omega
 ·split at h
  ·omega
  ·split at h
   ·omega
   ·split at h
    ·omega
    ·rename_i a b c d
     refine ⟨by omega, by omega, by simpa using b, by omega, fun hw => ?_⟩
     by_cases q : m[x.cell.toNat]!.stk[(cE m[x.cell.toNat]!.stk x.tag).toNat]!.uq = false
     ·exact absurd ⟨hw, q⟩ d
     ·simpa using q
theorem eX {m : List Cl} {N : Nat} {Q : Exit → AS → Prop} {all : Array Oper} {rest : List Oper} {tsl : List (Nat × AV)} {hsl : List (Nat × Option (List AV))} {nidl : Nat} {z0 : Lo} {md : Md} {d : Nat} {ty : TypeId} {pos : String} {af : Array Edge} {tys : Array TypeId} {x0 : Operand} (ha0 : ev (lk tsl) x0 = some (sl bI m)) (hmc : MC Tryz.prog 273 [sl bI m] [] 0 (fun _ : Unit => True) (fun _ => .own 0 0 m.length 4) (fun _ => [(0, some (flat bI m))])) (hM : Nat.ble (nidl + 1) aS = true) (hN : Nat.blt d N = true) {md' : Md} [hmd : MdA md (fG [x0] ++ []) (List.map Sum.inr (List.map Prod.fst ([(nidl, some (flat bI m))] : List (Nat × Option (List AV)))) ++ [.inl d]) md'] (kk : RW Tryz.prog N all Q md' rest ⟨(d, .own nidl 0 m.length 4) :: tsl, g6 hsl [(nidl, some (flat bI m))], nidl + 1, z0⟩) : RW Tryz.prog N all Q md (⟨some d, .call ⟨.value (.func 273), #[x0], tys⟩, ty, pos, af, none⟩ :: rest) ⟨tsl, hsl, nidl, z0⟩ := by
 refine aY [] 1 [(nidl, some (flat bI m))] hmc (avs := [sl bI m]) ?_ rfl ?_ rfl ?_ (by simpa using hM) ?_ ?_ ?_ hN (md' := md') (hmd := hmd) kk
 ·show evL (lk tsl) [x0] = _
  simp only [evL, ha0]
 ·exact trivial
 ·(repeat' (exact RnL.purI inferInstance))
 ·(repeat' (exact RnV.own rfl))
 ·simp [cK]
 ·(repeat' (first|exact trivial|(refine And.intro ⟨0, _, rfl, rfl, ?_⟩ ?_)|exact RnL.purI inferInstance))
theorem fP (m : List Cl) (hm : OkM m) : MC Tryz.prog 273 [sl bI m] [] 0 (fun _ : Unit => True) (fun _ => .own 0 0 m.length 4) (fun _ => [(0, some (flat bI m))]) := by
 have hml := hm.l
 refine aT Tryz.func273 Tryz.ntmps273 ?_
 repeat' (first|refine aE ?_|refine aF ?_|fail)
 refine aI (σ := Nat × List Cl) [0] [] (fun k => [(4, iv (k.1 : Int)), (3, .own 0 0 k.1 4)]) (fun k => [(0, some (flat bI k.2))]) (fun k => k.1 ≤ m.length ∧ k.2 = m.take k.1) (fun k => m.length - k.1) (0, []) ⟨by omega, rfl⟩ ?_
 rintro ⟨i, xs⟩ ⟨hi, hxs⟩
 dsimp only at hi hxs ⊢
 have hln : xs.length = i := by rw [hxs, List.length_take]; exact Nat.min_eq_left hi
 have hst : i < m.length → m[i]!.stk.length ≤ 200 := fun h => (((cY m).1 hm).2 i h).l.2
 repeat' (first|(apply aH;(with_reducible apply aV (d := 21)))|refine aE ?_|refine aF ?_|(refine aK ?_ ?_ <;> intro hc hq <;> try (exfalso;omega))|fail)
 ·refine bV (c7 ?_ (Le.frzD (d := 20) (i := 3) rfl rfl))
  rw [Nat.zero_add m[i]!.stk.length]
  repeat' (first|(apply aH;first|(apply bT;rfl;rfl;rfl;rfl;rfl;(rw [aJ]; omega);(rfl);omega;omega;(exact G8 (by (omega)));rfl;rfl)|(apply aM (t := _);rfl;rfl;rfl;(exact (rfl:_=some [_, _, _, _]));rfl;rfl))|refine aE ?_|refine aF ?_|fail)
  (refine bC (i + 1, _) (Le.renA [(0, 5)]) ?_ ?_)
  ·exact ⟨by dsimp only;omega, by dsimp only;rw [hxs, b7 m i (by omega)]⟩
  ·dsimp only;omega
 ·have hie : i = m.length := by omega
  (refine aD rfl ?_; refine aQ () trivial ?_ ⟨.inr (Eq.trans (b := some _) rfl ?_), trivial⟩)
  ·rw [hie]; rfl
  ·rw [hxs, hie, List.take_length]
theorem j6 (m : List Cl) (hm : OkM m) (x : Pt) : PC Tryz.prog 276 [sl bI m, mN x] (fun r => r = .tup [iv (if bD m x false = 0 then cE m[x.cell.toNat]!.stk x.tag else 0), iv (bD m x false)]) := by
 have hml := hm.l
 have hcv := mZ m (by omega)
 rw [decide_eq_true hm] at hcv
 have hst : 0 ≤ x.cell → x.cell < m.length → m[x.cell.toNat]!.stk.length ≤ 1000000 := fun h1 h2 => Nat.le_trans (((cY m).1 hm).2 x.cell.toNat (by omega)).l.2 (by decide)
 refine aC Tryz.func276 Tryz.ntmps276 ?_
 repeat' (first|(apply aH;first|(apply aA (k := 272);rfl;exact hcv;exact Pur.pf;rfl)|(apply aA (k := 284);rfl;exact CB m[x.cell.toNat]!.stk x.tag (hst (by assumption) (by assumption));exact Pur.pf;rfl))|refine aE ?_|refine aF ?_|(refine aK ?_ ?_ <;> intro hc hq <;> try (exfalso;omega))|(refine bQ ?_ ?_ <;> intro hg hq <;> try (exfalso;omega))|refine bO ?_|fail)
 all_goals (refine aD rfl ⟨?_, rfl⟩; simp only [aN])
 ·rw [Bz (by omega)]; rfl
 ·rw [Gv (by assumption) (by assumption) (by assumption)]; rfl
 ·rw [G2 (by assumption) (by assumption) (by assumption) (by assumption)]; rfl
 ·rw [rE (by assumption) (by assumption) (by assumption) (by assumption)]; rfl
 ·rw [Bz (by omega)]; rfl
theorem B5 {xs : List Cl} {k : Nat} {s : List Tg} (hk : k < xs.length) : gX (flat bI xs) (0 + k * 4 + 3) [sl cC s] = flat bI (xs.set k { xs[k]! with stk := s }) := fV hk (by simp) rfl
theorem Lw {xs : List Cl} {k : Nat} {v : Int} (hk : k < xs.length) : gX (flat bI xs) (0 + k * 4 + 0) [iv v] = flat bI (xs.set k { xs[k]! with val := v }) := fV hk (by simp) rfl
theorem L8 {xs : List Cl} {k : Nat} {b : Bool} (hk : k < xs.length) : gX (flat bI xs) (0 + k * 4 + 1) [.v (.bool b)] = flat bI (xs.set k { xs[k]! with alive := b }) := fV hk (by simp) rfl
theorem eI {α : Type} {f : α → List AV} {xs : List α} {n : Nat} (h : n = xs.length) : AV.imm n (flat f xs) = sl f xs := by subst h; rfl
theorem qH (m : List Cl) (hm : OkM m) (x : Pt) : PC Tryz.prog 252 [sl bI m, mN x] (fun r => r = .tup [sl bI (dQ m x false), iv (oH m x), iv (bD m x false)]) := by
 have hml := hm.l
 have hst : 0 ≤ x.cell → x.cell < m.length → m[x.cell.toNat]!.stk.length ≤ 1000000 := fun h1 h2 => Nat.le_trans (((cY m).1 hm).2 x.cell.toNat (by omega)).l.2 (by decide)
 by_cases hk : bD m x false = 0
 ·have hpl := j6 m hm x
  rw [if_pos hk, hk] at hpl
  obtain ⟨h1, h2, h3, h4, _⟩ := dI hk
  have hbd := eJ m[x.cell.toNat]!.stk x.tag
  have hrd := H8 m[x.cell.toNat]!.stk (cE m[x.cell.toNat]!.stk x.tag).toNat (by omega) (hst h1 h2)
  rw [Int.toNat_of_nonneg h4] at hrd
  refine aC Tryz.func252 Tryz.ntmps252 ?_
  repeat' (first|(apply aH;first|(apply eX;rfl;exact fP m hm;rfl;rfl)|(apply aA (k := 276);rfl;exact hpl;exact Pur.pf;rfl)|(apply aA (k := 277);rfl;exact hrd;exact Pur.pf;rfl)|(apply a7;rfl;rfl;rfl;rfl;rfl;(rw [aJ]; simp only [gB] <;> omega);(exact B5 (by (omega)))))|refine aE ?_|refine aF ?_|refine bO ?_|fail)
  (refine aU (Le.frzD (d := 4) (i := 1) rfl rfl) ?_; refine aD rfl ?_)
  refine ⟨?_, by exact Pur.pf⟩
  simp only [aN]
  rw [eI (by rw [List.length_set]), hk]
  unfold dQ oH;rw [if_pos hk, if_pos hk]; rfl
 ·have hpl := j6 m hm x
  rw [if_neg hk] at hpl
  refine aC Tryz.func252 Tryz.ntmps252 ?_
  repeat' (first|(apply aH;first|(apply eX;rfl;exact fP m hm;rfl;rfl)|(apply aA (k := 276);rfl;exact hpl;exact Pur.pf;rfl))|refine aE ?_|refine aF ?_|(refine aK ?_ ?_ <;> intro hc hq <;> try (exfalso;omega))|fail)
  (refine aU (Le.frzD (d := 4) (i := 1) rfl rfl) ?_; refine aD rfl ?_)
  refine ⟨?_, by exact Pur.pf⟩
  simp only [aN]
  unfold dQ oH;rw [if_neg hk, if_neg hk]
theorem LQ {cs : List AV} {i : Nat} {c : AV} : gX cs i [c] = cs.take i ++ c :: cs.drop (i + 1) := by
 have := yI (cs := cs) (v := i) (c := c)
 rwa [Nat.zero_add, Nat.mul_one] at this
theorem Le.frzCl {ts : List (Nat × AV)} {hs : List (Nat × Option (List AV))} {n : Nat} {z0 : Lo} {j q v m : Nat} {u : List Cl} {r : List Tg} (hj : aP hs j = some (gX (flat bI u) (0 + v * 4 + 3) [.own q 0 m 2])) (hq : aP hs q = some (flat cC r)) (hm : m = r.length) (hv : v < u.length) (hjq : j ≠ q) :
  Le ⟨ts, hs, n, z0⟩ ⟨ts, (j, some (flat bI (u.set v { u[v]! with stk := r }))) :: (q, none) :: hs, n, z0⟩ := by
 subst hm
 have hl : (flat bI u).length = u.length * 4 := aJ bI u
 have e := B5 (s := r) hv
 rw [LQ] at hj e
 have h := Le.frzC (ts := ts) (n := n) (z0 := z0) ((flat bI u).take (0 + v * 4 + 3)) hj hq hjq
 rw [← e]; exact h
theorem tX {m : List Cl} {x : Pt} {wr : Bool} : (dQ m x wr).length = m.length := by
 unfold dQ;split
 ·rw [List.length_set]
 ·rfl
theorem gT {m : List Cl} {x : Pt} {N : Nat} {Q : Exit → AS → Prop} {all : Array Oper} {rest : List Oper} {tsl : List (Nat × AV)} {hsl : List (Nat × Option (List AV))} {nidl : Nat} {z0 : Lo} {md : Md} {d : Nat} {ty : TypeId} {pos : String} {af : Array Edge} {tys : Array TypeId} {x0 x1 : Operand} (ha0 : ev (lk tsl) x0 = some (sl bI m)) (ha1 : ev (lk tsl) x1 = some (mN x)) (hmc : MC Tryz.prog 271 [sl bI m, mN x] [] 0 (fun _ : Unit => True) (fun _ => .tup [.own 1 0 m.length 4, iv (bD m x true)]) (fun _ => [(1, some (flat bI (dQ m x true)))])) (hM : Nat.ble (nidl + 2) aS = true) (hN : Nat.blt d N = true) {md' : Md} [hmd : MdA md (fG [x0, x1] ++ []) (List.map Sum.inr (List.map Prod.fst ([((nidl + 1), some (flat bI (dQ m x true)))] : List (Nat × Option (List AV)))) ++ [.inl d]) md'] (kk : RW Tryz.prog N all Q md' rest ⟨(d, .tup [.own (nidl + 1) 0 m.length 4, iv (bD m x true)]) :: tsl, g6 hsl [((nidl + 1), some (flat bI (dQ m x true)))], nidl + 2, z0⟩) : RW Tryz.prog N all Q md (⟨some d, .call ⟨.value (.func 271), #[x0, x1], tys⟩, ty, pos, af, none⟩ :: rest) ⟨tsl, hsl, nidl, z0⟩ := by
 refine aY [] 2 [((nidl + 1), some (flat bI (dQ m x true)))] hmc (avs := [sl bI m, mN x]) ?_ rfl ?_ rfl ?_ (by simpa using hM) ?_ ?_ ?_ hN (md' := md') (hmd := hmd) kk
 ·show evL (lk tsl) [x0, x1] = _
  simp only [evL, ha0, ha1]
 ·exact trivial
 ·(repeat' (exact RnL.purI inferInstance))
 ·(repeat' (first|exact RnL.purI inferInstance|exact RnV.own rfl|refine RnL.cons ?_ ?_|refine RnV.tup ?_))
 ·simp [cK]
 ·(repeat' (first|exact trivial|(refine And.intro ⟨1, _, rfl, rfl, ?_⟩ ?_)|exact RnL.purI inferInstance))
theorem iW (m : List Cl) (x : Pt) (hm : OkM m) : MC Tryz.prog 271 [sl bI m, mN x] [] 0 (fun _ : Unit => True) (fun _ => .tup [.own 1 0 m.length 4, iv (bD m x true)]) (fun _ => [(1, some (flat bI (dQ m x true)))]) := by
 have hml := hm.l
 have hst : 0 ≤ x.cell → x.cell < m.length → m[x.cell.toNat]!.stk.length ≤ 200 := fun h1 h2 => (((cY m).1 hm).2 x.cell.toNat (by omega)).l.2
 have hpl := j6 m hm x
 by_cases hk : bD m x false = 0
 ·rw [if_pos hk, hk] at hpl
  obtain ⟨h1, h2, h3, h4, _⟩ := dI hk
  have hbd := eJ m[x.cell.toNat]!.stk x.tag
  have hs2 := hst h1 h2
  obtain ⟨k, hkk⟩ := Int.eq_ofNat_of_zero_le h4
  rw [hkk] at hpl
  have hkn : k < m[x.cell.toNat]!.stk.length := by omega
  have hkt : (cE m[x.cell.toNat]!.stk x.tag).toNat = k := by omega
  have hwr := wR (m := m) (x := x)
  rw [if_pos hk, hkt] at hwr
  have e1 : List.take (((k : Int) + 1).toNat - 0) (List.drop 0 m[x.cell.toNat]!.stk) = m[x.cell.toNat]!.stk.take (k + 1) := by rw [List.drop_zero]; congr 1
  have e2 : (m[x.cell.toNat]!.stk.take (k + 1)).length = k + 1 := by rw [List.length_take]; omega
  refine aT Tryz.func271 Tryz.ntmps271 ?_
  repeat' (first|(apply aH;first|(apply eX;rfl;exact fP m hm;rfl;rfl)|(apply aA (k := 276);rfl;exact hpl;exact Pur.pf;rfl)|(with_reducible apply aV (d := 46)))|refine aE ?_|refine aF ?_|(refine aK ?_ ?_ <;> intro hc hq <;> try (exfalso;omega))|refine bO ?_|fail)
  ·have hu : m[x.cell.toNat]!.stk[k]!.uq = false := by assumption
   rw [if_pos hu] at hwr
   (refine aD rfl ?_; refine aQ () trivial ?_ ⟨.inr (Eq.trans (b := some _) rfl ?_), trivial⟩)
   ·rw [hwr]; rfl
   ·unfold dQ;rw [if_neg (by rw [hwr]; decide)]
  ·have hu : m[x.cell.toNat]!.stk[k]!.uq = true := by assumption
   rw [if_neg (by rw [hu]; decide)] at hwr
   refine bV ?_
   rw [e1]
   repeat' (first|(apply aH;(with_reducible apply aV (d := 49)))|refine aE ?_|refine aF ?_|fail)
   refine bV (c7 ?_ (Le.frzCl (j := 1) (q := 3) (v := x.cell.toNat) (u := m) (r := m[x.cell.toNat]!.stk.take (k + 1)) rfl rfl (Nat.zero_add _) (by omega) (by decide)))
   repeat' (first|refine aE ?_|refine aF ?_|fail)
   (refine aD rfl ?_; refine aQ () trivial ?_ ⟨.inr (Eq.trans (b := some _) rfl ?_), trivial⟩)
   ·rw [hwr]; rfl
   ·unfold dQ sC gE;rw [if_pos hwr, hkt, if_pos rfl]
 ·rw [if_neg hk] at hpl
  have hk2 : bD m x true = bD m x false := by rw [wR, if_neg hk]
  refine aT Tryz.func271 Tryz.ntmps271 ?_
  repeat' (first|(apply aH;first|(apply eX;rfl;exact fP m hm;rfl;rfl)|(apply aA (k := 276);rfl;exact hpl;exact Pur.pf;rfl))|refine aE ?_|refine aF ?_|(refine aK ?_ ?_ <;> intro hc hq <;> try (exfalso;omega))|fail)
  (refine aD rfl ?_; refine aQ () trivial ?_ ⟨.inr (Eq.trans (b := some _) rfl ?_), trivial⟩)
  ·rw [hk2]; rfl
  ·unfold dQ;rw [if_neg (by rw [hk2]; exact hk)]
theorem set_set {α : Type} {l : List α} {i : Nat} {a b : α} : (l.set i a).set i b = l.set i b := by simp
theorem kC {α : Type} [Inhabited α] {l : List α} {i : Nat} {a : α} (h : i < l.length) : (l.set i a)[i]! = a := by rw [bB _ _ (by rw [List.length_set]; exact h), List.getElem_set_self]
theorem w8 (m : List Cl) (hm : OkM m) (x : Pt) (v : Int) : PC Tryz.prog 253 [sl bI m, mN x, iv v] (fun r => r = .tup [sl bI (zM m x v), iv (u7 m x v)]) := by
 have hml := hm.l
 have hlt := tX (m := m) (x := x) (wr := true)
 have hin := dI (m := m) (x := x) (wr := true)
 by_cases hv : 0 ≤ v ∧ v ≤ 9
 ·have hwk : u7 m x v = bD m x true := by unfold u7; rw [if_pos hv]
  by_cases hk : bD m x true = 0
  ·obtain ⟨h1, h2, _⟩ := hin hk
   refine aC Tryz.func253 Tryz.ntmps253 ?_
   repeat' (first|(apply aH;first|(apply gT;rfl;rfl;exact iW m x hm;rfl;rfl)|(apply a7;rfl;rfl;rfl;rfl;rfl;(rw [aJ]; simp only [gB] <;> omega);(exact Lw (by (omega)))))|refine aE ?_|refine aF ?_|(refine aK ?_ ?_ <;> intro hc hq <;> try (exfalso;omega))|(refine bQ ?_ ?_ <;> intro hg hq <;> try (exfalso;omega))|fail)
   (refine aU (Le.frzD (d := 6) (i := 2) rfl rfl) ?_; refine aD rfl ?_)
   refine ⟨?_, by exact Pur.pf⟩
   simp only [aN]
   rw [eI (by rw [List.length_set, hlt]), hwk]
   unfold zM dQ;rw [if_pos hk, if_pos (by rw [hwk]; exact hk), kC (by omega), set_set]
  ·refine aC Tryz.func253 Tryz.ntmps253 ?_
   repeat' (first|(apply aH;(apply gT;rfl;rfl;exact iW m x hm;rfl;rfl))|refine aE ?_|refine aF ?_|(refine aK ?_ ?_ <;> intro hc hq <;> try (exfalso;omega))|(refine bQ ?_ ?_ <;> intro hg hq <;> try (exfalso;omega))|fail)
   (refine aU (Le.frzD (d := 6) (i := 2) rfl rfl) ?_; refine aD rfl ?_)
   refine ⟨?_, by exact Pur.pf⟩
   simp only [aN]
   rw [eI (by rw [hlt]), hwk]
   unfold zM dQ;rw [if_neg hk, if_neg (by rw [hwk]; exact hk)]
 ·have hwk : u7 m x v = 4 := by unfold u7; rw [if_neg hv]
  have e : zM m x v = m := by unfold zM;rw [if_neg (by rw [hwk]; decide)]
  refine aC Tryz.func253 Tryz.ntmps253 ?_
  repeat' (first|(apply aH;(apply eX;rfl;exact fP m hm;rfl;rfl))|refine aE ?_|refine aF ?_|(refine aK ?_ ?_ <;> intro hc hq <;> try (exfalso;omega))|(refine bQ ?_ ?_ <;> intro hg hq <;> try (exfalso;omega))|fail)
  all_goals (try (exfalso;omega))
  all_goals (
   (refine aU (Le.frzD (d := 6) (i := 1) rfl rfl) ?_; refine aD rfl ?_)
   refine ⟨?_, by exact Pur.pf⟩
   simp only [aN]
   rw [e, hwk])
theorem lI (m : List Cl) (hm : OkM m) (x : Pt) : PC Tryz.prog 245 [sl bI m, mN x] (fun r => r = .tup [sl bI (kW m x), iv (bD m x true)]) := by
 have hml := hm.l
 have hlt := tX (m := m) (x := x) (wr := true)
 have hin := dI (m := m) (x := x) (wr := true)
 by_cases hk : bD m x true = 0
 ·obtain ⟨h1, h2, _⟩ := hin hk
  refine aC Tryz.func245 Tryz.ntmps245 ?_
  repeat' (first|(apply aH;first|(apply gT;rfl;rfl;exact iW m x hm;rfl;rfl)|(apply a7;rfl;rfl;rfl;rfl;rfl;(rw [aJ]; simp only [gB] <;> omega);(exact L8 (by (omega)))))|refine aE ?_|refine aF ?_|(refine aK ?_ ?_ <;> intro hc hq <;> try (exfalso;omega))|fail)
  (refine aU (Le.frzD (d := 4) (i := 2) rfl rfl) ?_; refine aD rfl ?_)
  refine ⟨?_, by exact Pur.pf⟩
  simp only [aN]
  rw [eI (by rw [List.length_set, hlt])]
  unfold kW dQ;rw [if_pos hk, if_pos hk, kC (by omega), set_set]
 ·refine aC Tryz.func245 Tryz.ntmps245 ?_
  repeat' (first|(apply aH;(apply gT;rfl;rfl;exact iW m x hm;rfl;rfl))|refine aE ?_|refine aF ?_|(refine aK ?_ ?_ <;> intro hc hq <;> try (exfalso;omega))|fail)
  (refine aU (Le.frzD (d := 4) (i := 2) rfl rfl) ?_; refine aD rfl ?_)
  refine ⟨?_, by exact Pur.pf⟩
  simp only [aN]
  rw [eI (by rw [hlt])]
  unfold kW dQ;rw [if_neg hk, if_neg hk]
theorem B2 (m : List Cl) (hm : OkM m) (v : Int) : PC Tryz.prog 249 [sl bI m, iv v] (fun r => r = .tup (if 0 ≤ v ∧ v ≤ 9 ∧ m.length < 200 then [sl bI (m ++ [uS v]), .agg [iv m.length, iv 0], bv true] else [sl bI [], .agg [iv 0, iv 0], bv false])) := by
 have hml := hm.l
 have hcv := mZ m (by omega)
 rw [decide_eq_true hm] at hcv
 refine aC Tryz.func249 Tryz.ntmps249 ?_
 repeat' (first|(apply aH;first|(apply eX;rfl;exact fP m hm;rfl;rfl)|(apply aA (k := 272);rfl;exact hcv;exact Pur.pf;rfl)|(apply aM (t := _);rfl;rfl;rfl;(first|exact (rfl:_=some [_, _])|exact (rfl:_=some [_, _, _, _])|rfl);rfl;rfl))|refine aE ?_|refine aF ?_|(refine aK ?_ ?_ <;> intro hc hq <;> try (exfalso;omega))|(refine bQ ?_ ?_ <;> intro hg hq <;> try (exfalso;omega))|fail)
 all_goals try exact aD (l := [sl bI [], .agg [iv 0, iv 0], bv false]) rfl ⟨by rw [if_neg (by omega)]; rfl, rfl⟩
 have e : ((flat bI m).drop 0).take (m.length * 4) ++ [iv v, bv true, iv 1, .imm 1 [iv 0, bv true]] = flat bI (m ++ [uS v]) := dR rfl rfl
 have e2 : AV.imm (m.length + 1) (((flat bI m).drop 0).take (m.length * 4) ++ [iv v, bv true, iv 1, .imm 1 [iv 0, bv true]]) = sl bI (m ++ [uS v]) := by
  rw [e]; exact eI (by rw [List.length_append]; rfl)
 refine aU (Le.frzD (d := 4) (i := 4) rfl rfl) ?_
 refine aD (l := [AV.imm (m.length + 1) (((flat bI m).drop 0).take (m.length * 4) ++ [iv v, bv true, iv 1, .imm 1 [iv 0, bv true]]), .agg [iv m.length, iv 0], bv true]) rfl ?_
 rw [e2, if_pos (by omega)]
 exact ⟨rfl, by exact Pur.pf⟩
def nL (m : List Cl) (j : Nat) (r : List Tg) : Prop := r.length = 200 ∨ m[j]!.next = 1000
instance (m : List Cl) (j : Nat) (r : List Tg) : Decidable (nL m j r) := by unfold nL; infer_instance
def jG (m b : List Cl) (j : Nat) (u : Bool) (r : List Tg) : List Cl := if nL m j r then b else m.set j (psh { m[j]! with stk := r } u)
def jD (m : List Cl) (j : Nat) (r : List Tg) : Pt := if nL m j r then ⟨0, 0⟩ else ⟨j, m[j]!.next⟩
def jE (m : List Cl) (j : Nat) (r : List Tg) : Int := if nL m j r then 4 else 0
theorem uX {m b : List Cl} {j : Nat} {u : Bool} {r : List Tg} {n k : Nat} {N : Nat} {Q : Exit → AS → Prop} {all : Array Oper} {rest : List Oper} {tsl : List (Nat × AV)} {hsl : List (Nat × Option (List AV))} {nidl : Nat} {z0 : Lo} {md : Md} {d : Nat} {ty : TypeId} {pos : String} {af : Array Edge} {tys : Array TypeId} {x0 x1 x2 x3 : Operand} {i0 i1 : Nat} (ha0 : ev (lk tsl) x0 = some (.own i0 0 n 4)) (ha1 : ev (lk tsl) x1 = some (sl bI b)) (ha2 : ev (lk tsl) x2 = some (iv (j : Int))) (ha3 : ev (lk tsl) x3 = some (bv u)) (hH0 : aP hsl i0 = some (flat eQ (c8 m j (.own i1 0 k 2)))) (hH1 : aP hsl i1 = some (flat cC r)) (hdd : Go.AL.distinct [i0, i1] = true) (hmc : MC Tryz.prog 283 [.own 0 0 n 4, sl bI b, iv (j : Int), bv u] [(0, some (flat eQ (c8 m j (.own 1 0 k 2)))), (1, some (flat cC r))] 2 (fun _ : Unit => True) (fun _ => .tup [sl bI (jG m b j u r), mN (jD m j r), iv (jE m j r)]) (fun _ => [])) (hM : Nat.ble (nidl + 0) aS = true) (hN : Nat.blt d N = true) {md' : Md} [hmd : MdA md (fG [x0, x1, x2, x3] ++ [.inr i0, .inr i1]) (List.map Sum.inr (List.map Prod.fst ([(i0, none), (i1, none)] : List (Nat × Option (List AV)))) ++ [.inl d]) md'] (kk : RW Tryz.prog N all Q md' rest ⟨(d, .tup [sl bI (jG m b j u r), mN (jD m j r), iv (jE m j r)]) :: tsl, g6 hsl [(i0, none), (i1, none)], nidl + 0, z0⟩) : RW Tryz.prog N all Q md (⟨some d, .call ⟨.value (.func 283), #[x0, x1, x2, x3], tys⟩, ty, pos, af, none⟩ :: rest) ⟨tsl, hsl, nidl, z0⟩ := by
 refine aY [i0, i1] 2 [(i0, none), (i1, none)] hmc (avs := [.own i0 0 n 4, sl bI b, iv (j : Int), bv u]) ?_ hdd ?_ rfl ?_ (by simpa using hM) ?_ ?_ ?_ hN (md' := md') (hmd := hmd) kk
 ·show evL (lk tsl) [x0, x1, x2, x3] = _
  simp only [evL, ha0, ha1, ha2, ha3]
 ·exact ⟨⟨_, _, rfl, hH0, by (repeat' (exact jR rfl))⟩, ⟨⟨_, _, rfl, hH1, by (repeat' (exact RnL.purI inferInstance))⟩, trivial⟩⟩
 ·(repeat' (first|exact RnL.purI inferInstance|exact RnV.own rfl|refine RnL.cons ?_ ?_))
 ·(repeat' (exact RnV.purI inferInstance))
 ·simp [cK]
 ·(repeat' (exact trivial))
theorem Ah (m b : List Cl) (j : Nat) (u : Bool) (r : List Tg) (n k : Nat) (hb : OkM b) (hn : n = m.length) (hk : k = r.length) (hj : j < m.length) (hnx : 0 ≤ m[j]!.next ∧ m[j]!.next ≤ 1000) (hr : r.length ≤ 200) (hml : m.length ≤ 200) : MC Tryz.prog 283 [.own 0 0 n 4, sl bI b, iv (j : Int), bv u] [(0, some (flat eQ (c8 m j (.own 1 0 k 2)))), (1, some (flat cC r))] 2 (fun _ : Unit => True) (fun _ => .tup [sl bI (jG m b j u r), mN (jD m j r), iv (jE m j r)]) (fun _ => []) := by
 have hol := c5 (m := m) (j := j) (X := .own 1 0 k 2)
 have hog := gR (m := m) (j := j) (X := .own 1 0 k 2) hj
 have hol2 := c5 (m := m) (j := j) (X := .own (2 + 1 + 1 + 1) 0 (r.length + 1) 2)
 subst hn hk
 refine aT Tryz.func283 Tryz.ntmps283 ?_
 repeat' (first|(apply aH;(with_reducible apply aV (d := 11)))|refine aE ?_|refine aF ?_|fail)
 refine bV ?_
 rw [hog]
 dsimp only
 repeat' (first|(apply aH;first|(apply aA (k := 273);rfl;exact GR b hb;exact Pur.pf;rfl)|(apply bT;rfl;rfl;rfl;rfl;rfl;(rw [aJ]; omega);(rfl);omega;omega;(exact tU (by (omega)));rfl;rfl)|(apply a7;rfl;rfl;rfl;rfl;rfl;(case hl => (first|decide|(rw [aJ]; simp only [gB] <;> omega)|(simp;done)));(first|exact tG (by (assumption))|exact yO (by (assumption))))|(apply aM (t := _);rfl;rfl;rfl;(exact (rfl:_=some [_, _]));rfl;rfl))|refine aE ?_|refine aF ?_|(refine aK ?_ ?_ <;> intro hc hq <;> try (exfalso;omega))|(refine bQ ?_ ?_ <;> intro hg hq <;> try (exfalso;omega))|fail)
 ·have hf : nL m j r := .inr (by assumption)
  refine aD (l := [sl bI b, .agg [iv 0, iv 0], iv 4]) rfl ?_
  refine aQ () trivial ?_ trivial
  unfold jG jD jE;rw [if_pos hf, if_pos hf, if_pos hf]; rfl
 ·have hf : ¬ nL m j r := by unfold nL; omega
  have hm2 : (m.set j { m[j]! with next := m[j]!.next + 1 }).length = m.length := List.length_set
  refine aU (Le.cls (o := 0) (q := 5) (j := j) (k := r.length + 1) (m := m.set j { m[j]! with next := m[j]!.next + 1 }) (r := r ++ [⟨m[j]!.next, u⟩]) rfl rfl (by rw [List.length_append]; rfl) (by omega) (by decide)) ?_
  refine aU (Le.frzD (d := 8) (i := 0) rfl rfl) ?_
  have e : (m.set j { m[j]! with next := m[j]!.next + 1 }).set j { (m.set j { m[j]! with next := m[j]!.next + 1 })[j]! with stk := r ++ [⟨m[j]!.next, u⟩] } = m.set j (psh { m[j]! with stk := r } u) := by
   rw [kC hj, set_set]; rfl
  rw [e]
  refine aD (l := [.imm m.length (flat bI (m.set j (psh { m[j]! with stk := r } u))), .agg [iv (j : Int), iv m[j]!.next], iv 0]) rfl ?_
  refine aQ () trivial ?_ trivial
  unfold jG jD jE;rw [if_neg hf, if_neg hf, if_neg hf, eI (by rw [List.length_set])]; rfl
 ·have hf : nL m j r := .inl (by omega)
  refine aD (l := [sl bI b, .agg [iv 0, iv 0], iv 4]) rfl ?_
  refine aQ () trivial ?_ trivial
  unfold jG jD jE;rw [if_pos hf, if_pos hf, if_pos hf]; rfl
theorem Bn {stk r : List Tg} {k : Nat} {N : Nat} {Q : Exit → AS → Prop} {all : Array Oper} {rest : List Oper} {tsl : List (Nat × AV)} {hsl : List (Nat × Option (List AV))} {nidl : Nat} {z0 : Lo} {md : Md} {d : Nat} {ty : TypeId} {pos : String} {af : Array Edge} {tys : Array TypeId} {x0 x1 : Operand} (ha0 : ev (lk tsl) x0 = some (sl cC stk)) (ha1 : ev (lk tsl) x1 = some (iv (k : Int))) (hmc : MC Tryz.prog 277 [sl cC stk, iv (k : Int)] [] 0 (fun _ : Unit => True) (fun _ => .own 1 0 r.length 2) (fun _ => [(1, some (flat cC r))])) (hM : Nat.ble (nidl + 2) aS = true) (hN : Nat.blt d N = true) {md' : Md} [hmd : MdA md (fG [x0, x1] ++ []) (List.map Sum.inr (List.map Prod.fst ([((nidl + 1), some (flat cC r))] : List (Nat × Option (List AV)))) ++ [.inl d]) md'] (kk : RW Tryz.prog N all Q md' rest ⟨(d, .own (nidl + 1) 0 r.length 2) :: tsl, g6 hsl [((nidl + 1), some (flat cC r))], nidl + 2, z0⟩) : RW Tryz.prog N all Q md (⟨some d, .call ⟨.value (.func 277), #[x0, x1], tys⟩, ty, pos, af, none⟩ :: rest) ⟨tsl, hsl, nidl, z0⟩ := by
 refine aY [] 2 [((nidl + 1), some (flat cC r))] hmc (avs := [sl cC stk, iv (k : Int)]) ?_ rfl ?_ rfl ?_ (by simpa using hM) ?_ ?_ ?_ hN (md' := md') (hmd := hmd) kk
 ·show evL (lk tsl) [x0, x1] = _
  simp only [evL, ha0, ha1]
 ·exact trivial
 ·(repeat' (exact RnL.purI inferInstance))
 ·(repeat' (exact RnV.own rfl))
 ·simp [cK]
 ·(repeat' (first|exact trivial|(refine And.intro ⟨1, _, rfl, rfl, ?_⟩ ?_)|exact RnL.purI inferInstance))
theorem DR (stk r : List Tg) (k : Nat) (hr : r = gE stk k false) (hk : k < stk.length) (hl : stk.length ≤ 1000000) : MC Tryz.prog 277 [sl cC stk, iv (k : Int)] [] 0 (fun _ : Unit => True) (fun _ => .own 1 0 r.length 2) (fun _ => [(1, some (flat cC r))]) := by
 have e1 : List.take (((k : Int) + 1).toNat - 0) (List.drop 0 stk) = stk.take (k + 1) := by rw [List.drop_zero]; congr 1
 have e2 : (stk.take (k + 1)).length = k + 1 := by rw [List.length_take]; omega
 refine aT Tryz.func277 Tryz.ntmps277 ?_
 repeat' (first|(apply aH;(with_reducible apply aV (d := 12)))|refine aE ?_|refine aF ?_|fail)
 refine bV ?_
 rw [e1]
 repeat' (first|refine aE ?_|refine aF ?_|fail)
 refine aI (σ := Nat × List Tg × Nat) [0] [] (fun s => [(6, iv (s.1 : Int)), (5, .own 1 0 s.2.2 2)]) (fun s => [(1, some (flat cC s.2.1))]) (fun s => k + 1 ≤ s.1 ∧ s.1 ≤ stk.length ∧ s.2.1 = stk.take (k + 1) ++ ((stk.drop (k + 1)).take (s.1 - (k + 1))).filter (fun t => !t.uq) ∧ s.2.2 = s.2.1.length ∧ s.2.2 ≤ s.1) (fun s => stk.length - s.1) (k + 1, stk.take (k + 1), 0 + (stk.take (k + 1)).length) ⟨Nat.le_refl _, by dsimp only;omega, by simp, by dsimp only;omega, by dsimp only;omega⟩ ?_
 rintro ⟨i, xs, n⟩ ⟨hki, hi, hxs, hn, hni⟩
 dsimp only at hki hi hxs hn hni ⊢
 repeat' (first|(apply aH;first|(apply bT;rfl;rfl;rfl;rfl;rfl;(rw [aJ]; omega);(rfl);omega;omega;(exact tU (by (assumption)));rfl;rfl)|(apply aM (t := _);rfl;rfl;rfl;(exact (rfl:_=some [_, _]));rfl;rfl))|refine aE ?_|refine aF ?_|(refine aK ?_ ?_ <;> intro hc hq <;> try (exfalso;omega))|fail)
 ·(refine bC (i + 1, _, _) (Le.renA [(1, 3)]) ?_ ?_)
  ·refine ⟨by dsimp only; omega, by dsimp only; omega, ?_, by dsimp only; rw [List.length_append, hn]; rfl, by dsimp only; omega⟩
   dsimp only
   rw [hxs, jI stk hki (by omega), List.filter_append, List.append_assoc]
   congr 2
   have hu : stk[i]!.uq = false := by assumption
   rw [pE (by rw [hu]; rfl)]
  ·dsimp only;omega
 ·(refine bC (i + 1, xs, n) (Le.renA [(1, 1)]) ?_ ?_)
  ·refine ⟨by dsimp only; omega, by dsimp only; omega, ?_, hn, by dsimp only; omega⟩
   dsimp only
   have hu : stk[i]!.uq = true := by assumption
   rw [hxs, jI stk hki (by omega), List.filter_append, mC (by rw [hu]; rfl), List.append_nil]
  ·dsimp only;omega
 ·have hie : i = stk.length := by omega
  have hd : (stk.drop (k + 1)).take (stk.length - (k + 1)) = stk.drop (k + 1) := List.take_of_length_le (by rw [List.length_drop]; exact Nat.le_refl _)
  have hxr : xs = r := by rw [hxs, hie, hd, hr]; rfl
  subst hxr
  (refine aD rfl ?_; refine aQ () trivial ?_ ⟨.inr (Eq.trans (b := some _) rfl ?_), trivial⟩)
  ·rw [hn]; rfl
  ·rfl
theorem Hn {m : List Cl} {x : Pt} {j : Nat} {r : List Tg} {v : Int} {N : Nat} {Q : Exit → AS → Prop} {all : Array Oper} {rest : List Oper} {tsl : List (Nat × AV)} {hsl : List (Nat × Option (List AV))} {nidl : Nat} {z0 : Lo} {md : Md} {d : Nat} {ty : TypeId} {pos : String} {af : Array Edge} {tys : Array TypeId} {x0 x1 : Operand} (ha0 : ev (lk tsl) x0 = some (sl bI m)) (ha1 : ev (lk tsl) x1 = some (mN x)) (hmc : MC Tryz.prog 252 [sl bI m, mN x] [] 0 (fun _ : Unit => True) (fun _ => .tup [.own 1 0 m.length 4, iv v, iv 0]) (fun _ => [(1, some (flat eQ (c8 m j (.own 3 0 r.length 2)))), (3, some (flat cC r))])) (hM : Nat.ble (nidl + 4) aS = true) (hN : Nat.blt d N = true) {md' : Md} [hmd : MdA md (fG [x0, x1] ++ []) (List.map Sum.inr (List.map Prod.fst ([((nidl + 1), some (flat eQ (c8 m j (.own (nidl + 3) 0 r.length 2)))), ((nidl + 3), some (flat cC r))] : List (Nat × Option (List AV)))) ++ [.inl d]) md'] (kk : RW Tryz.prog N all Q md' rest ⟨(d, .tup [.own (nidl + 1) 0 m.length 4, iv v, iv 0]) :: tsl, g6 hsl [((nidl + 1), some (flat eQ (c8 m j (.own (nidl + 3) 0 r.length 2)))), ((nidl + 3), some (flat cC r))], nidl + 4, z0⟩) : RW Tryz.prog N all Q md (⟨some d, .call ⟨.value (.func 252), #[x0, x1], tys⟩, ty, pos, af, none⟩ :: rest) ⟨tsl, hsl, nidl, z0⟩ := by
 refine aY [] 4 [((nidl + 1), some (flat eQ (c8 m j (.own (nidl + 3) 0 r.length 2)))), ((nidl + 3), some (flat cC r))] hmc (avs := [sl bI m, mN x]) ?_ rfl ?_ rfl ?_ (by simpa using hM) ?_ ?_ ?_ hN (md' := md') (hmd := hmd) kk
 ·show evL (lk tsl) [x0, x1] = _
  simp only [evL, ha0, ha1]
 ·exact trivial
 ·(repeat' (exact RnL.purI inferInstance))
 ·(repeat' (first|exact RnL.purI inferInstance|exact RnV.own rfl|refine RnL.cons ?_ ?_|refine RnV.tup ?_))
 ·simp [cK]
 ·(repeat' (first|exact trivial|(refine And.intro ⟨1, _, rfl, rfl, ?_⟩ ?_)|(refine And.intro ⟨3, _, rfl, rfl, ?_⟩ ?_)|exact RnL.purI inferInstance|exact jR rfl))
theorem JB (m : List Cl) (x : Pt) (j : Nat) (r : List Tg) (v : Int) (hm : OkM m) (hk : bD m x false = 0) (hj : j = x.cell.toNat) (hr : r = gE m[j]!.stk (cE m[j]!.stk x.tag).toNat false) (hv : v = m[j]!.val) : MC Tryz.prog 252 [sl bI m, mN x] [] 0 (fun _ : Unit => True) (fun _ => .tup [.own 1 0 m.length 4, iv v, iv 0]) (fun _ => [(1, some (flat eQ (c8 m j (.own 3 0 r.length 2)))), (3, some (flat cC r))]) := by
 subst hj
 have hml := hm.l
 have hst : 0 ≤ x.cell → x.cell < m.length → m[x.cell.toNat]!.stk.length ≤ 1000000 := fun h1 h2 => Nat.le_trans (((cY m).1 hm).2 x.cell.toNat (by omega)).l.2 (by decide)
 have hpl := j6 m hm x
 rw [if_pos hk, hk] at hpl
 obtain ⟨h1, h2, h3, h4, _⟩ := dI hk
 have hbd := eJ m[x.cell.toNat]!.stk x.tag
 have hrd := DR m[x.cell.toNat]!.stk r (cE m[x.cell.toNat]!.stk x.tag).toNat hr (by omega) (hst h1 h2)
 rw [Int.toNat_of_nonneg h4] at hrd
 obtain ⟨k, hkk⟩ := Int.eq_ofNat_of_zero_le h4
 rw [hkk] at hpl hrd
 refine aT Tryz.func252 Tryz.ntmps252 ?_
 repeat' (first|(apply aH;first|(apply eX;rfl;exact fP m hm;rfl;rfl)|(apply aA (k := 276);rfl;exact hpl;exact Pur.pf;rfl)|(apply Bn;rfl;rfl;exact hrd;rfl;rfl)|(apply a7;rfl;rfl;rfl;rfl;rfl;(rw [aJ]; simp only [gB] <;> omega);(exact yN (by (omega)))))|refine aE ?_|refine aF ?_|refine bO ?_|fail)
 (refine aD rfl ?_; refine aQ () trivial ?_ ⟨.inr (Eq.trans (b := some _) rfl ?_), ⟨.inr (Eq.trans (b := some _) rfl ?_), trivial⟩⟩)
 ·rw [hv]; rfl
 ·rfl
 ·rfl
theorem DI {m : List Cl} {x : Pt} {j : Nat} {r : List Tg} {N : Nat} {Q : Exit → AS → Prop} {all : Array Oper} {rest : List Oper} {tsl : List (Nat × AV)} {hsl : List (Nat × Option (List AV))} {nidl : Nat} {z0 : Lo} {md : Md} {d : Nat} {ty : TypeId} {pos : String} {af : Array Edge} {tys : Array TypeId} {x0 x1 : Operand} (ha0 : ev (lk tsl) x0 = some (sl bI m)) (ha1 : ev (lk tsl) x1 = some (mN x)) (hmc : MC Tryz.prog 271 [sl bI m, mN x] [] 0 (fun _ : Unit => True) (fun _ => .tup [.own 1 0 m.length 4, iv 0]) (fun _ => [(1, some (flat eQ (c8 m j (.own 3 0 r.length 2)))), (3, some (flat cC r))])) (hM : Nat.ble (nidl + 4) aS = true) (hN : Nat.blt d N = true) {md' : Md} [hmd : MdA md (fG [x0, x1] ++ []) (List.map Sum.inr (List.map Prod.fst ([((nidl + 1), some (flat eQ (c8 m j (.own (nidl + 3) 0 r.length 2)))), ((nidl + 3), some (flat cC r))] : List (Nat × Option (List AV)))) ++ [.inl d]) md'] (kk : RW Tryz.prog N all Q md' rest ⟨(d, .tup [.own (nidl + 1) 0 m.length 4, iv 0]) :: tsl, g6 hsl [((nidl + 1), some (flat eQ (c8 m j (.own (nidl + 3) 0 r.length 2)))), ((nidl + 3), some (flat cC r))], nidl + 4, z0⟩) : RW Tryz.prog N all Q md (⟨some d, .call ⟨.value (.func 271), #[x0, x1], tys⟩, ty, pos, af, none⟩ :: rest) ⟨tsl, hsl, nidl, z0⟩ := by
 refine aY [] 4 [((nidl + 1), some (flat eQ (c8 m j (.own (nidl + 3) 0 r.length 2)))), ((nidl + 3), some (flat cC r))] hmc (avs := [sl bI m, mN x]) ?_ rfl ?_ rfl ?_ (by simpa using hM) ?_ ?_ ?_ hN (md' := md') (hmd := hmd) kk
 ·show evL (lk tsl) [x0, x1] = _
  simp only [evL, ha0, ha1]
 ·exact trivial
 ·(repeat' (exact RnL.purI inferInstance))
 ·(repeat' (first|exact RnL.purI inferInstance|exact RnV.own rfl|refine RnL.cons ?_ ?_|refine RnV.tup ?_))
 ·simp [cK]
 ·(repeat' (first|exact trivial|(refine And.intro ⟨1, _, rfl, rfl, ?_⟩ ?_)|(refine And.intro ⟨3, _, rfl, rfl, ?_⟩ ?_)|exact RnL.purI inferInstance|exact jR rfl))
theorem HQ (m : List Cl) (x : Pt) (j : Nat) (r : List Tg) (hm : OkM m) (hk : bD m x true = 0) (hj : j = x.cell.toNat) (hr : r = gE m[j]!.stk (cE m[j]!.stk x.tag).toNat true) : MC Tryz.prog 271 [sl bI m, mN x] [] 0 (fun _ : Unit => True) (fun _ => .tup [.own 1 0 m.length 4, iv 0]) (fun _ => [(1, some (flat eQ (c8 m j (.own 3 0 r.length 2)))), (3, some (flat cC r))]) := by
 subst hj
 have hml := hm.l
 obtain ⟨h1, h2, h3, h4, hu⟩ := dI hk
 have hk0 : bD m x false = 0 := rE h1 h2 h3 h4
 have hs2 : m[x.cell.toNat]!.stk.length ≤ 200 := (((cY m).1 hm).2 x.cell.toNat (by omega)).l.2
 have hpl := j6 m hm x
 rw [if_pos hk0, hk0] at hpl
 have hbd := eJ m[x.cell.toNat]!.stk x.tag
 obtain ⟨k, hkk⟩ := Int.eq_ofNat_of_zero_le h4
 have hkt : (cE m[x.cell.toNat]!.stk x.tag).toNat = k := by omega
 rw [hkk] at hpl
 rw [hkt] at hr hu
 have hkn : k < m[x.cell.toNat]!.stk.length := by omega
 have e1 : List.take (((k : Int) + 1).toNat - 0) (List.drop 0 m[x.cell.toNat]!.stk) = r := by rw [List.drop_zero, hr]; unfold gE;rw [if_pos rfl]; congr 1
 have e2 : r.length = k + 1 := by rw [← e1, List.drop_zero, List.length_take]; omega
 have hut := hu rfl
 refine aT Tryz.func271 Tryz.ntmps271 ?_
 repeat' (first|(apply aH;first|(apply eX;rfl;exact fP m hm;rfl;rfl)|(apply aA (k := 276);rfl;exact hpl;exact Pur.pf;rfl)|(with_reducible apply aV (d := 46)))|refine aE ?_|refine aF ?_|(refine aK ?_ ?_ <;> intro hc hq <;> try (exfalso;omega))|refine bO ?_|fail)
 ·exfalso; have hf : m[x.cell.toNat]!.stk[k]!.uq = false := by assumption
  rw [hut] at hf;exact absurd hf (by decide)
 refine bV ?_
 rw [e1]
 repeat' (first|(apply aH;(apply a7;rfl;rfl;rfl;rfl;rfl;(rw [aJ]; simp only [gB] <;> omega);(exact yN (by (omega)))))|refine aE ?_|refine aF ?_|fail)
 (refine aD rfl ?_; refine aQ () trivial ?_ ⟨.inr (Eq.trans (b := some _) rfl ?_), ⟨.inr (Eq.trans (b := some _) rfl ?_), trivial⟩⟩)
 ·rfl
 ·rw [Nat.zero_add r.length]
 ·rfl
theorem vD {m : List Cl} {x : Pt} {u : Bool} {r : List Tg} (hk : bD m x u = 0) (hr : r = gE m[x.cell.toNat]!.stk (cE m[x.cell.toNat]!.stk x.tag).toNat u) : lP m x u = jE m x.cell.toNat r ∧ mY m x u = jG m m x.cell.toNat u r ∧ qZ m x u = jD m x.cell.toNat r := by
 obtain ⟨h1, h2, _⟩ := dI hk
 subst hr
 have e : lP m x u = jE m x.cell.toNat (gE m[x.cell.toNat]!.stk (cE m[x.cell.toNat]!.stk x.tag).toNat u) := by
  unfold lP;rw [if_pos hk]; rfl
 refine ⟨e, ?_, ?_⟩
 ·unfold mY jG
  rw [e]; unfold jE
  split
  ·rw [if_neg (by decide)]
  ·rw [if_pos rfl]; rfl
 ·unfold qZ jD
  rw [e]; unfold jE
  split
  ·rw [if_neg (by decide)]
  ·rw [if_pos rfl, Int.toNat_of_nonneg h1]
theorem FP {m : List Cl} {x : Pt} {u : Bool} (hk : bD m x u ≠ 0) : lP m x u = bD m x u ∧ mY m x u = m ∧ qZ m x u = ⟨0, 0⟩ := by
 have e : lP m x u = bD m x u := by unfold lP;rw [if_neg hk]
 exact ⟨e, by unfold mY;rw [if_neg (by rw [e]; exact hk)], by unfold qZ;rw [if_neg (by rw [e]; exact hk)]⟩
theorem wY (m : List Cl) (hm : OkM m) (x : Pt) : PC Tryz.prog 274 [sl bI m, mN x] (fun r => r = .tup [sl bI (mY m x false), mN (qZ m x false), iv (lP m x false)]) := by
 have hml := hm.l
 by_cases hk : bD m x false = 0
 ·obtain ⟨c, t⟩ := x
  obtain ⟨h1, h2, _⟩ := dI hk
  have h1' : 0 ≤ c := h1
  obtain ⟨j, rfl⟩ := Int.eq_ofNat_of_zero_le h1'
  have h2' : (j : Int) < m.length := h2
  have hc := ((cY m).1 hm).2 j (by omega)
  obtain ⟨r, hr⟩ : ∃ r, r = gE m[j]!.stk (cE m[j]!.stk t).toNat false := ⟨_, rfl⟩
  have hrl : r.length ≤ 200 := by rw [hr]; exact Nat.le_trans tchS_sub.length_le hc.l.2
  obtain ⟨e1, e2, e3⟩ := vD hk hr
  have hpu := Ah m m j false r m.length r.length hm rfl rfl (by omega) (by have := hc.n;omega) hrl hml
  rw [e1, e2, e3]
  refine aC Tryz.func274 Tryz.ntmps274 ?_
  repeat' (first|(apply aH;first|(apply Hn (j := j) (r := r) (v := m[j]!.val);rfl;rfl;exact JB m _ _ r _ hm hk rfl hr rfl;rfl;rfl)|(apply uX (m := m) (b := m) (j := j) (u := false) (r := r) (n := m.length) (k := r.length);rfl;rfl;rfl;rfl;rfl;rfl;rfl;exact hpu;rfl;rfl))|refine aE ?_|refine aF ?_|fail)
  exact aD (l := [sl bI (jG m m j false r), .agg [iv (jD m j r).cell, iv (jD m j r).tag], iv (jE m j r)]) rfl ⟨rfl, by exact Pur.pf⟩
 ·obtain ⟨e1, e2, e3⟩ := FP hk
  have hrd := qH m hm x
  have e4 : dQ m x false = m := by unfold dQ;rw [if_neg hk]
  rw [e4] at hrd
  rw [e1, e2, e3]
  refine aC Tryz.func274 Tryz.ntmps274 ?_
  repeat' (first|(apply aH;(apply aA (k := 252);rfl;exact hrd;exact Pur.pf;rfl))|refine aE ?_|refine aF ?_|(refine aK ?_ ?_ <;> intro hc hq <;> try (exfalso;omega))|fail)
  skip
  exact aD (l := [sl bI m, .agg [iv 0, iv 0], iv (bD m x false)]) rfl ⟨rfl, by exact Pur.pf⟩
theorem uK (m : List Cl) (hm : OkM m) (x : Pt) : PC Tryz.prog 275 [sl bI m, mN x] (fun r => r = .tup [sl bI (mY m x true), mN (qZ m x true), iv (lP m x true)]) := by
 have hml := hm.l
 by_cases hk : bD m x true = 0
 ·obtain ⟨c, t⟩ := x
  obtain ⟨h1, h2, _⟩ := dI hk
  have h1' : 0 ≤ c := h1
  obtain ⟨j, rfl⟩ := Int.eq_ofNat_of_zero_le h1'
  have h2' : (j : Int) < m.length := h2
  have hc := ((cY m).1 hm).2 j (by omega)
  obtain ⟨r, hr⟩ : ∃ r, r = gE m[j]!.stk (cE m[j]!.stk t).toNat true := ⟨_, rfl⟩
  have hrl : r.length ≤ 200 := by rw [hr]; exact Nat.le_trans tchS_sub.length_le hc.l.2
  obtain ⟨e1, e2, e3⟩ := vD hk hr
  have hpu := Ah m m j true r m.length r.length hm rfl rfl (by omega) (by have := hc.n;omega) hrl hml
  rw [e1, e2, e3]
  refine aC Tryz.func275 Tryz.ntmps275 ?_
  repeat' (first|(apply aH;first|(apply DI (j := j) (r := r);rfl;rfl;exact HQ m _ _ r hm hk rfl hr;rfl;rfl)|(apply uX (m := m) (b := m) (j := j) (u := true) (r := r) (n := m.length) (k := r.length);rfl;rfl;rfl;rfl;rfl;rfl;rfl;exact hpu;rfl;rfl))|refine aE ?_|refine aF ?_|fail)
  exact aD (l := [sl bI (jG m m j true r), .agg [iv (jD m j r).cell, iv (jD m j r).tag], iv (jE m j r)]) rfl ⟨rfl, by exact Pur.pf⟩
 ·obtain ⟨e1, e2, e3⟩ := FP hk
  have hwr := iW m x hm
  have e4 : dQ m x true = m := by unfold dQ;rw [if_neg hk]
  rw [e1, e2, e3]
  refine aC Tryz.func275 Tryz.ntmps275 ?_
  repeat' (first|(apply aH;(apply gT;rfl;rfl;exact hwr;rfl;rfl))|refine aE ?_|refine aF ?_|(refine aK ?_ ?_ <;> intro hc hq <;> try (exfalso;omega))|fail)
  refine aU (Le.frzD (d := 4) (i := 3) (m := m.length) (cs := flat bI (dQ m x true)) rfl rfl) ?_
  rw [e4]
  exact aD (l := [sl bI m, .agg [iv 0, iv 0], iv (bD m x true)]) rfl ⟨rfl, by exact Pur.pf⟩
abbrev fM (s : Mc) : AV := .agg [sl c9 s.slots, sl bI s.cells, sl cI s.read]
theorem vH {xs : List Sl} {k : Nat} {a : Bool} {b c d : Int} (hk : k < xs.length) : gX (flat c9 xs) (0 + k * 4) [bv a, iv b, iv c, iv d] = flat c9 (xs.set k ⟨a, b, ⟨c, d⟩⟩) := gU hk rfl
theorem pY (s : Mc) (v : Nat) (hv : v < s.slots.length) (hl : s.slots.length ≤ 1000000) : PC Tryz.prog 247 [fM s, iv (v : Int)] (fun r => r = fM ⟨s.slots.set v mQ, s.cells, s.read⟩) := by
 refine aC Tryz.func247 Tryz.ntmps247 ?_
 repeat' (first|(apply aH;(apply a7;rfl;rfl;rfl;rfl;rfl;(case hl => (first|(rw [aJ]; simp only [gB] <;> omega)|(simp;done)));(exact vH (by (assumption)))))|refine aE ?_|refine aF ?_|fail)
 refine aU (Le.frzC (j := 1) (i := 3) [] rfl rfl (by decide)) ?_
 have e : AV.imm (0 + s.slots.length) (flat c9 (s.slots.set v mQ)) = sl c9 (s.slots.set v mQ) := eI (by rw [List.length_set, Nat.zero_add])
 refine aD (l := [.agg [.imm (0 + s.slots.length) (flat c9 (s.slots.set v mQ)), sl bI s.cells, sl cI s.read]]) rfl ?_
 rw [e]
 exact ⟨rfl, by exact Pur.pf⟩
theorem FX (k : Int) : (if nX k = -1 then (0 : Int) else nX k) = if k = 1 then 3 else if k = 0 then 0 else 4 := by
 unfold nX e7
 by_cases h : k = 0
 ·subst h;rfl
 ·rw [if_neg h, if_neg h]
  by_cases h1 : k = 1
  ·rw [if_pos h1]; rfl
  ·rw [if_neg h1]; rfl
theorem kK (ts : List Int) (s : Mc) (v : Nat) (y : Sl) (hm : OkM s.cells) (hv : v < s.slots.length) (hvt : v < ts.length) (hl : s.slots.length ≤ 1000000) : PC Tryz.prog 248 [sl cI ts, fM s, iv (v : Int), FZ y] (fun r => r = .tup [fM (bW ts s v y).1, iv (if (bW ts s v y).2 = -1 then 0 else (bW ts s v y).2)]) := by
 have hfc := lI s.cells hm s.slots[v]!.ptr
 refine aC Tryz.func248 Tryz.ntmps248 ?_
 repeat' (first|(apply aH;first|(apply aA (k := 245);rfl;exact hfc;exact Pur.pf;rfl)|(apply a7;rfl;rfl;rfl;rfl;rfl;(case hl => (first|(rw [aJ]; simp only [gB] <;> omega)|(simp;done)));(exact vH (by (assumption))))|(apply aA (k := 246);rfl;(apply j5);(rfl);rfl))|refine aE ?_|refine aF ?_|(refine aK ?_ ?_ <;> intro hc hq <;> try (exfalso;omega))|(refine bQ ?_ ?_ <;> intro hg hq <;> try (exfalso;omega))|refine bO ?_|fail)
 all_goals (
  refine aU (Le.frzC (j := 2) (i := 4) [] rfl rfl (by decide)) ?_
  have e : AV.imm (0 + s.slots.length) (flat c9 (s.slots.set v y)) = sl c9 (s.slots.set v y) := eI (by rw [List.length_set, Nat.zero_add]))
 ·have hp : bW ts s v y = (⟨s.slots.set v y, kW s.cells s.slots[v]!.ptr, s.read⟩, nX (bD s.cells s.slots[v]!.ptr true)) := if_pos ⟨by assumption, by assumption⟩
  refine aD (l := [.agg [.imm (0 + s.slots.length) (flat c9 (s.slots.set v y)), sl bI (kW s.cells s.slots[v]!.ptr), sl cI s.read], iv (if bD s.cells s.slots[v]!.ptr true = 1 then 3 else if bD s.cells s.slots[v]!.ptr true = 0 then 0 else 4)]) rfl ?_
  rw [e, hp]
  dsimp only
  rw [FX]
  exact ⟨rfl, by exact Pur.pf⟩
 all_goals (
  have hp : bW ts s v y = (⟨s.slots.set v y, s.cells, s.read⟩, -1) := if_neg (by
   rintro ⟨q1, q2⟩
   first|(exact (by assumption : ¬ ts[v]! = 2) q1)|(rw [(by assumption : s.slots[v]!.set = false)] at q2;exact absurd q2 (by decide)))
  refine aD (l := [.agg [.imm (0 + s.slots.length) (flat c9 (s.slots.set v y)), sl bI s.cells, sl cI s.read], iv 0]) rfl ?_
  rw [e, hp]
  exact ⟨rfl, by exact Pur.pf⟩)
def gk (e : Int) : Int := if e = -1 then 0 else e
theorem Kl {t : Int} (h : t = 2 ∨ t = 4) : yV t = true := by
 unfold yV;rcases h with h|h <;> subst h <;> rfl
theorem MG {t : Int} (h : ¬ t = 2) (h2 : ¬ t = 4) : ¬ yV t = true := by
 unfold yV;rw [decide_eq_false h, decide_eq_false h2]; decide
theorem yM {k : Int} (h : ¬ k = 0) : (if k = 1 then (3 : Int) else if k = 0 then 0 else 4) = e7 k := by
 unfold e7;rw [if_neg h]
theorem Kn {m : List Cl} {x : Pt} {u : Bool} (h : ¬ lP m x u = 0) : mY m x u = m := by unfold mY; rw [if_neg h]
theorem Hi (ts : List Int) (s : Mc) (x : Pnt) (hm : OkM s.cells) (hsl : s.slots.length = ts.length) (hx : 0 ≤ x.x ∧ x.x < ts.length) (hy : 0 ≤ x.y ∧ x.y < ts.length) (hl : ts.length ≤ 1000000) : PC Tryz.prog 250 [sl cI ts, fM s, dJ x] (fun r => r = .tup [fM (bW ts (if yV ts[x.y.toNat]! = true then ⟨s.slots.set x.y.toNat mQ, s.cells, s.read⟩ else s) x.x.toNat s.slots[x.y.toNat]!).1, iv (gk (bW ts (if yV ts[x.y.toNat]! = true then ⟨s.slots.set x.y.toNat mQ, s.cells, s.read⟩ else s) x.x.toNat s.slots[x.y.toNat]!).2)]) := by
 have hcl := pY s x.y.toNat (by omega) (by omega)
 have hp1 := kK ts ⟨s.slots.set x.y.toNat mQ, s.cells, s.read⟩ x.x.toNat s.slots[x.y.toNat]! hm (by show _ < (s.slots.set x.y.toNat mQ).length;rw [List.length_set]; omega) (by omega) (by show (s.slots.set x.y.toNat mQ).length ≤ _; rw [List.length_set]; omega)
 have hp2 := kK ts s x.x.toNat s.slots[x.y.toNat]! hm (by omega) (by omega) (by omega)
 rw [Int.toNat_of_nonneg hy.1] at hcl
 rw [Int.toNat_of_nonneg hx.1] at hp1 hp2
 refine aC Tryz.func250 Tryz.ntmps250 ?_
 repeat' (first|(apply aH;first|(apply aA (k := 247);rfl;exact hcl;exact Pur.pf;rfl)|(apply aA (k := 248);rfl;(first|exact hp1|exact hp2);exact Pur.pf;rfl))|refine aE ?_|refine aF ?_|(refine aK ?_ ?_ <;> intro hc hq <;> try (exfalso;omega))|(refine bQ ?_ ?_ <;> intro hg hq <;> try (exfalso;omega))|fail)
 ·refine aD (l := [fM (bW ts ⟨s.slots.set x.y.toNat mQ, s.cells, s.read⟩ x.x.toNat s.slots[x.y.toNat]!).1, iv (gk (bW ts ⟨s.slots.set x.y.toNat mQ, s.cells, s.read⟩ x.x.toNat s.slots[x.y.toNat]!).2)]) rfl ⟨?_, by exact Pur.pf⟩
  rw [if_pos (Kl (.inr (by assumption)))]; rfl
 ·refine aD (l := [fM (bW ts s x.x.toNat s.slots[x.y.toNat]!).1, iv (gk (bW ts s x.x.toNat s.slots[x.y.toNat]!).2)]) rfl ⟨?_, by exact Pur.pf⟩
  rw [if_neg (MG (by assumption) (by assumption))]; rfl
 ·refine aD (l := [fM (bW ts ⟨s.slots.set x.y.toNat mQ, s.cells, s.read⟩ x.x.toNat s.slots[x.y.toNat]!).1, iv (gk (bW ts ⟨s.slots.set x.y.toNat mQ, s.cells, s.read⟩ x.x.toNat s.slots[x.y.toNat]!).2)]) rfl ⟨?_, by exact Pur.pf⟩
  rw [if_pos (Kl (.inl (by assumption)))]; rfl
theorem GG (ts : List Int) (s : Mc) (x : Pnt) (u : Bool) (hu : u = decide (x.op = 5)) (hm : OkM s.cells) (hsl : s.slots.length = ts.length) (hx : 0 ≤ x.x ∧ x.x < ts.length) (hy : 0 ≤ x.y ∧ x.y < ts.length) (hl : ts.length ≤ 1000000) : PC Tryz.prog 251 [sl cI ts, fM s, dJ x] (fun r => r = if lP s.cells s.slots[x.y.toNat]!.ptr u = 0 then
  .tup [fM (bW ts ⟨s.slots, mY s.cells s.slots[x.y.toNat]!.ptr u, s.read⟩ x.x.toNat ⟨true, 0, qZ s.cells s.slots[x.y.toNat]!.ptr u⟩).1, iv (gk (bW ts ⟨s.slots, mY s.cells s.slots[x.y.toNat]!.ptr u, s.read⟩ x.x.toNat ⟨true, 0, qZ s.cells s.slots[x.y.toNat]!.ptr u⟩).2)]
  else .tup [fM s, iv (e7 (lP s.cells s.slots[x.y.toNat]!.ptr u))]) := by
 have hsh := wY s.cells hm s.slots[x.y.toNat]!.ptr
 have hbo := uK s.cells hm s.slots[x.y.toNat]!.ptr
 have hp1 := kK ts ⟨s.slots, mY s.cells s.slots[x.y.toNat]!.ptr false, s.read⟩ x.x.toNat ⟨true, 0, qZ s.cells s.slots[x.y.toNat]!.ptr false⟩ (hm.ln _ _) (by show _ < s.slots.length;omega) (by omega) (by show s.slots.length ≤ _; omega)
 have hp2 := kK ts ⟨s.slots, mY s.cells s.slots[x.y.toNat]!.ptr true, s.read⟩ x.x.toNat ⟨true, 0, qZ s.cells s.slots[x.y.toNat]!.ptr true⟩ (hm.ln _ _) (by show _ < s.slots.length;omega) (by omega) (by show s.slots.length ≤ _; omega)
 rw [Int.toNat_of_nonneg hx.1] at hp1 hp2
 refine aC Tryz.func251 Tryz.ntmps251 ?_
 repeat' (first|(apply aH;first|(apply aA (k := 274);rfl;exact hsh;exact Pur.pf;rfl)|(apply aA (k := 275);rfl;exact hbo;exact Pur.pf;rfl)|(apply aA (k := 248) (avs := [sl cI ts, fM ⟨s.slots, mY s.cells s.slots[x.y.toNat]!.ptr false, s.read⟩, iv x.x, FZ ⟨true, 0, qZ s.cells s.slots[x.y.toNat]!.ptr false⟩]);rfl;exact hp1;exact Pur.pf;rfl)|(apply aA (k := 248) (avs := [sl cI ts, fM ⟨s.slots, mY s.cells s.slots[x.y.toNat]!.ptr true, s.read⟩, iv x.x, FZ ⟨true, 0, qZ s.cells s.slots[x.y.toNat]!.ptr true⟩]);rfl;exact hp2;exact Pur.pf;rfl)|(apply aA (k := 246);rfl;(apply j5);(rfl);rfl))|refine aE ?_|refine aF ?_|(refine aK ?_ ?_ <;> intro hc hq <;> try (exfalso;omega))|refine bO ?_|fail)
 ·have hk : ¬ lP s.cells s.slots[x.y.toNat]!.ptr true = 0 := by assumption
  have hu2 : u = true := by rw [hu]; exact decide_eq_true (by assumption)
  subst hu2
  refine aD (l := [.agg [sl c9 s.slots, sl bI (mY s.cells s.slots[x.y.toNat]!.ptr true), sl cI s.read], iv (if lP s.cells s.slots[x.y.toNat]!.ptr true = 1 then 3 else if lP s.cells s.slots[x.y.toNat]!.ptr true = 0 then 0 else 4)]) rfl ?_
  rw [yM hk, if_neg hk, Kn hk]
  exact ⟨rfl, by exact Pur.pf⟩
 ·have hk : lP s.cells s.slots[x.y.toNat]!.ptr true = 0 := by assumption
  have hu2 : u = true := by rw [hu]; exact decide_eq_true (by assumption)
  subst hu2
  refine aD (l := [fM (bW ts ⟨s.slots, mY s.cells s.slots[x.y.toNat]!.ptr true, s.read⟩ x.x.toNat ⟨true, 0, qZ s.cells s.slots[x.y.toNat]!.ptr true⟩).1, iv (gk (bW ts ⟨s.slots, mY s.cells s.slots[x.y.toNat]!.ptr true, s.read⟩ x.x.toNat ⟨true, 0, qZ s.cells s.slots[x.y.toNat]!.ptr true⟩).2)]) rfl ⟨?_, by exact Pur.pf⟩
  rw [if_pos hk]; rfl
 ·have hk : ¬ lP s.cells s.slots[x.y.toNat]!.ptr false = 0 := by assumption
  have hu2 : u = false := by rw [hu]; exact decide_eq_false (by assumption)
  subst hu2
  refine aD (l := [.agg [sl c9 s.slots, sl bI (mY s.cells s.slots[x.y.toNat]!.ptr false), sl cI s.read], iv (if lP s.cells s.slots[x.y.toNat]!.ptr false = 1 then 3 else if lP s.cells s.slots[x.y.toNat]!.ptr false = 0 then 0 else 4)]) rfl ?_
  rw [yM hk, if_neg hk, Kn hk]
  exact ⟨rfl, by exact Pur.pf⟩
 ·have hk : lP s.cells s.slots[x.y.toNat]!.ptr false = 0 := by assumption
  have hu2 : u = false := by rw [hu]; exact decide_eq_false (by assumption)
  subst hu2
  refine aD (l := [fM (bW ts ⟨s.slots, mY s.cells s.slots[x.y.toNat]!.ptr false, s.read⟩ x.x.toNat ⟨true, 0, qZ s.cells s.slots[x.y.toNat]!.ptr false⟩).1, iv (gk (bW ts ⟨s.slots, mY s.cells s.slots[x.y.toNat]!.ptr false, s.read⟩ x.x.toNat ⟨true, 0, qZ s.cells s.slots[x.y.toNat]!.ptr false⟩).2)]) rfl ⟨?_, by exact Pur.pf⟩
  rw [if_pos hk]; rfl
theorem Me (ts : List Int) (s : Mc) (x : Pnt) (ho : x.op = 1) (hm : OkM s.cells) (hsl : s.slots.length = ts.length) (hx : 0 ≤ x.x ∧ x.x < ts.length) (hl : ts.length ≤ 1000000) : PC Tryz.prog 215 [sl cI ts, fM s, dJ x] (fun r => r = .tup [fM (dG ts s x).1, iv (gk (dG ts s x).2)]) := by
 have hp := kK ts s x.x.toNat ⟨true, x.n, ⟨0, 0⟩⟩ hm (by omega) (by omega) (by omega)
 rw [Int.toNat_of_nonneg hx.1] at hp
 have hd : dG ts s x = bW ts s x.x.toNat ⟨true, x.n, ⟨0, 0⟩⟩ := by unfold dG;rw [if_pos ho]
 rw [hd]
 refine aC Tryz.func215 Tryz.ntmps215 ?_
 repeat' (first|(apply aH;(apply aA (k := 248) (avs := [sl cI ts, fM s, iv x.x, FZ ⟨true, x.n, ⟨0, 0⟩⟩]);rfl;exact hp;exact Pur.pf;rfl))|refine aE ?_|refine aF ?_|(refine aK ?_ ?_ <;> intro hc hq <;> try (exfalso;omega))|fail)
 exact aD (l := [fM (bW ts s x.x.toNat ⟨true, x.n, ⟨0, 0⟩⟩).1, iv (gk (bW ts s x.x.toNat ⟨true, x.n, ⟨0, 0⟩⟩).2)]) rfl ⟨rfl, by exact Pur.pf⟩
theorem KQ (ts : List Int) (s : Mc) (x : Pnt) (ho : x.op = 2) (hm : OkM s.cells) (hsl : s.slots.length = ts.length) (hx : 0 ≤ x.x ∧ x.x < ts.length) (hn : 0 ≤ x.n ∧ x.n ≤ 9) (hl : ts.length ≤ 1000000) : PC Tryz.prog 215 [sl cI ts, fM s, dJ x] (fun r => r = .tup [fM (dG ts s x).1, iv (gk (dG ts s x).2)]) := by
 have hml := hm.l
 have hnc := B2 s.cells hm x.n
 by_cases h2 : s.cells.length = 200
 ·rw [if_neg (by omega)] at hnc
  have hd : dG ts s x = (s, 1) := by unfold dG;rw [if_neg (by omega), if_pos ho, if_pos h2]
  rw [hd]
  refine aC Tryz.func215 Tryz.ntmps215 ?_
  repeat' (first|(apply aH;(apply aA (k := 249);rfl;exact hnc;exact Pur.pf;rfl))|refine aE ?_|refine aF ?_|(refine aK ?_ ?_ <;> intro hc hq <;> try (exfalso;omega))|fail)
  exact aD (l := [fM s, iv 1]) rfl ⟨rfl, by exact Pur.pf⟩
 ·rw [if_pos (by omega)] at hnc
  have hp := kK ts ⟨s.slots, s.cells ++ [uS x.n], s.read⟩ x.x.toNat ⟨true, 0, ⟨s.cells.length, 0⟩⟩ (hm.nw hn (by omega)) (by show _ < s.slots.length;omega) (by omega) (by show s.slots.length ≤ _; omega)
  rw [Int.toNat_of_nonneg hx.1] at hp
  have hd : dG ts s x = bW ts ⟨s.slots, s.cells ++ [uS x.n], s.read⟩ x.x.toNat ⟨true, 0, ⟨s.cells.length, 0⟩⟩ := by unfold dG;rw [if_neg (by omega), if_pos ho, if_neg h2]
  rw [hd]
  refine aC Tryz.func215 Tryz.ntmps215 ?_
  repeat' (first|(apply aH;first|(apply aA (k := 249);rfl;exact hnc;exact Pur.pf;rfl)|(apply aA (k := 248) (avs := [sl cI ts, fM ⟨s.slots, s.cells ++ [uS x.n], s.read⟩, iv x.x, FZ ⟨true, 0, ⟨s.cells.length, 0⟩⟩]);rfl;exact hp;exact Pur.pf;rfl))|refine aE ?_|refine aF ?_|(refine aK ?_ ?_ <;> intro hc hq <;> try (exfalso;omega))|fail)
  exact aD (l := [fM (bW ts ⟨s.slots, s.cells ++ [uS x.n], s.read⟩ x.x.toNat ⟨true, 0, ⟨s.cells.length, 0⟩⟩).1, iv (gk (bW ts ⟨s.slots, s.cells ++ [uS x.n], s.read⟩ x.x.toNat ⟨true, 0, ⟨s.cells.length, 0⟩⟩).2)]) rfl ⟨rfl, by exact Pur.pf⟩
theorem KH (ts : List Int) (s : Mc) (x : Pnt) (ho : x.op = 3) (hm : OkM s.cells) (hsl : s.slots.length = ts.length) (hx : 0 ≤ x.x ∧ x.x < ts.length) (hy : 0 ≤ x.y ∧ x.y < ts.length) (hl : ts.length ≤ 1000000) : PC Tryz.prog 215 [sl cI ts, fM s, dJ x] (fun r => r = .tup [fM (dG ts s x).1, iv (gk (dG ts s x).2)]) := by
 have hmv := Hi ts s x hm hsl hx hy hl
 have hd : dG ts s x = bW ts (if yV ts[x.y.toNat]! = true then ⟨s.slots.set x.y.toNat mQ, s.cells, s.read⟩ else s) x.x.toNat s.slots[x.y.toNat]! := by unfold dG;rw [if_neg (by omega), if_neg (by omega), if_pos ho]
 rw [← hd] at hmv
 refine aC Tryz.func215 Tryz.ntmps215 ?_
 repeat' (first|(apply aH;(apply aA (k := 250);rfl;exact hmv;exact Pur.pf;rfl))|refine aE ?_|refine aF ?_|(refine aK ?_ ?_ <;> intro hc hq <;> try (exfalso;omega))|fail)
 exact aD (l := [fM (dG ts s x).1, iv (gk (dG ts s x).2)]) rfl ⟨rfl, by exact Pur.pf⟩
theorem JK (ts : List Int) (s : Mc) (x : Pnt) (ho : x.op = 4 ∨ x.op = 5) (hm : OkM s.cells) (hsl : s.slots.length = ts.length) (hx : 0 ≤ x.x ∧ x.x < ts.length) (hy : 0 ≤ x.y ∧ x.y < ts.length) (hl : ts.length ≤ 1000000) : PC Tryz.prog 215 [sl cI ts, fM s, dJ x] (fun r => r = .tup [fM (dG ts s x).1, iv (gk (dG ts s x).2)]) := by
 have hmk := GG ts s x (decide (x.op = 5)) rfl hm hsl hx hy hl
 have h0 : dG ts s x = (if lP s.cells s.slots[x.y.toNat]!.ptr (decide (x.op = 5)) = 0 then bW ts ⟨s.slots, mY s.cells s.slots[x.y.toNat]!.ptr (decide (x.op = 5)), s.read⟩ x.x.toNat ⟨true, 0, qZ s.cells s.slots[x.y.toNat]!.ptr (decide (x.op = 5))⟩
   else (s, e7 (lP s.cells s.slots[x.y.toNat]!.ptr (decide (x.op = 5))))) := by
  unfold dG;rw [if_neg (show ¬ x.op = 1 by omega), if_neg (show ¬ x.op = 2 by omega), if_neg (show ¬ x.op = 3 by omega), if_pos ho]
 have hd : ∀ r, (r = if lP s.cells s.slots[x.y.toNat]!.ptr (decide (x.op = 5)) = 0 then
   AV.tup [fM (bW ts ⟨s.slots, mY s.cells s.slots[x.y.toNat]!.ptr (decide (x.op = 5)), s.read⟩ x.x.toNat ⟨true, 0, qZ s.cells s.slots[x.y.toNat]!.ptr (decide (x.op = 5))⟩).1, iv (gk (bW ts ⟨s.slots, mY s.cells s.slots[x.y.toNat]!.ptr (decide (x.op = 5)), s.read⟩ x.x.toNat ⟨true, 0, qZ s.cells s.slots[x.y.toNat]!.ptr (decide (x.op = 5))⟩).2)]
   else AV.tup [fM s, iv (e7 (lP s.cells s.slots[x.y.toNat]!.ptr (decide (x.op = 5))))]) = (r = AV.tup [fM (dG ts s x).1, iv (gk (dG ts s x).2)]) := by
  intro r
  rw [h0]
  by_cases hk : lP s.cells s.slots[x.y.toNat]!.ptr (decide (x.op = 5)) = 0
  ·rw [if_pos hk, if_pos hk]
  ·rw [if_neg hk, if_neg hk]
   have : ∀ k, gk (e7 k) = e7 k := fun k => by unfold gk e7;split <;> rfl
   dsimp only
   rw [this]
 simp only [hd] at hmk
 refine aC Tryz.func215 Tryz.ntmps215 ?_
 repeat' (first|(apply aH;(apply aA (k := 251);rfl;exact hmk;exact Pur.pf;rfl))|refine aE ?_|refine aF ?_|(refine aK ?_ ?_ <;> intro hc hq <;> try (exfalso;omega))|fail)
 all_goals exact aD (l := [fM (dG ts s x).1, iv (gk (dG ts s x).2)]) rfl ⟨rfl, by exact Pur.pf⟩
theorem Kt (ts : List Int) (s : Mc) (x : Pnt) (ho : x.op = 6) (hm : OkM s.cells) (hsl : s.slots.length = ts.length) (hx : 0 ≤ x.x ∧ x.x < ts.length) (hy : 0 ≤ x.y ∧ x.y < ts.length) (hl : ts.length ≤ 1000000) (hrl : s.read.length ≤ 1000000) : PC Tryz.prog 215 [sl cI ts, fM s, dJ x] (fun r => r = .tup [fM (dG ts s x).1, iv (gk (dG ts s x).2)]) := by
 have hrd := qH s.cells hm s.slots[x.y.toNat]!.ptr
 have h0 : dG ts s x = (if bD s.cells s.slots[x.y.toNat]!.ptr false = 0 then bW ts ⟨s.slots, dQ s.cells s.slots[x.y.toNat]!.ptr false, s.read ++ [oH s.cells s.slots[x.y.toNat]!.ptr]⟩ x.x.toNat ⟨true, oH s.cells s.slots[x.y.toNat]!.ptr, ⟨0, 0⟩⟩
   else (s, e7 (bD s.cells s.slots[x.y.toNat]!.ptr false))) := by
  unfold dG;rw [if_neg (show ¬ x.op = 1 by omega), if_neg (show ¬ x.op = 2 by omega), if_neg (show ¬ x.op = 3 by omega), if_neg (show ¬ (x.op = 4 ∨ x.op = 5) by omega), if_pos ho]
 have hp := kK ts ⟨s.slots, dQ s.cells s.slots[x.y.toNat]!.ptr false, s.read ++ [oH s.cells s.slots[x.y.toNat]!.ptr]⟩ x.x.toNat ⟨true, oH s.cells s.slots[x.y.toNat]!.ptr, ⟨0, 0⟩⟩ (hm.tch _ _) (by show _ < s.slots.length;omega) (by omega) (by show s.slots.length ≤ _; omega)
 rw [Int.toNat_of_nonneg hx.1] at hp
 by_cases hk : bD s.cells s.slots[x.y.toNat]!.ptr false = 0
 ·rw [if_pos hk] at h0
  rw [h0]
  refine aC Tryz.func215 Tryz.ntmps215 ?_
  repeat' (first|(apply aH;first|(apply aA (k := 252);rfl;exact hrd;exact Pur.pf;rfl)|(with_reducible apply aV (d := 105)))|refine aE ?_|refine aF ?_|(refine aK ?_ ?_ <;> intro hc hq <;> try (exfalso;omega))|refine bO ?_|fail)
  refine bV (c7 ?_ (Le.frzC (j := 0) (i := 6) [sl c9 s.slots, sl bI (dQ s.cells s.slots[x.y.toNat]!.ptr false)] (m := 0 + s.read.length + 1) (d := flat cI (s.read ++ [oH s.cells s.slots[x.y.toNat]!.ptr])) rfl rfl (by decide)))
  have e : AV.imm (0 + s.read.length + 1) (flat cI (s.read ++ [oH s.cells s.slots[x.y.toNat]!.ptr])) = sl cI (s.read ++ [oH s.cells s.slots[x.y.toNat]!.ptr]) := eI (by rw [Nat.zero_add, List.length_append]; rfl)
  rw [e]
  repeat' (first|(apply aH;(apply aA (k := 248) (avs := [sl cI ts, fM ⟨s.slots, dQ s.cells s.slots[x.y.toNat]!.ptr false, s.read ++ [oH s.cells s.slots[x.y.toNat]!.ptr]⟩, iv x.x, FZ ⟨true, oH s.cells s.slots[x.y.toNat]!.ptr, ⟨0, 0⟩⟩]);rfl;exact hp;exact Pur.pf;rfl))|refine aE ?_|refine aF ?_|fail)
  exact aD (l := [fM (bW ts ⟨s.slots, dQ s.cells s.slots[x.y.toNat]!.ptr false, s.read ++ [oH s.cells s.slots[x.y.toNat]!.ptr]⟩ x.x.toNat ⟨true, oH s.cells s.slots[x.y.toNat]!.ptr, ⟨0, 0⟩⟩).1, iv (gk (bW ts ⟨s.slots, dQ s.cells s.slots[x.y.toNat]!.ptr false, s.read ++ [oH s.cells s.slots[x.y.toNat]!.ptr]⟩ x.x.toNat ⟨true, oH s.cells s.slots[x.y.toNat]!.ptr, ⟨0, 0⟩⟩).2)]) rfl ⟨rfl, by exact Pur.pf⟩
 ·rw [if_neg hk] at h0
  rw [h0]
  have e4 : dQ s.cells s.slots[x.y.toNat]!.ptr false = s.cells := by unfold dQ;rw [if_neg hk]
  rw [e4] at hrd
  refine aC Tryz.func215 Tryz.ntmps215 ?_
  repeat' (first|(apply aH;first|(apply aA (k := 252);rfl;exact hrd;exact Pur.pf;rfl)|(apply aA (k := 246);rfl;(apply j5);(rfl);rfl))|refine aE ?_|refine aF ?_|(refine aK ?_ ?_ <;> intro hc hq <;> try (exfalso;omega))|refine bO ?_|fail)
  refine aD (l := [fM s, iv (if bD s.cells s.slots[x.y.toNat]!.ptr false = 1 then 3 else if bD s.cells s.slots[x.y.toNat]!.ptr false = 0 then 0 else 4)]) rfl ?_
  rw [yM hk]
  have : ∀ k, gk (e7 k) = e7 k := fun k => by unfold gk e7;split <;> rfl
  dsimp only
  rw [this]
  exact ⟨rfl, by exact Pur.pf⟩
theorem LW (ts : List Int) (s : Mc) (x : Pnt) (ho : x.op = 7) (hm : OkM s.cells) (hsl : s.slots.length = ts.length) (hx : 0 ≤ x.x ∧ x.x < ts.length) (hy : 0 ≤ x.y ∧ x.y < ts.length) (hl : ts.length ≤ 1000000) : PC Tryz.prog 215 [sl cI ts, fM s, dJ x] (fun r => r = .tup [fM (dG ts s x).1, iv (gk (dG ts s x).2)]) := by
 have hwr := w8 s.cells hm s.slots[x.x.toNat]!.ptr s.slots[x.y.toNat]!.num
 have h0 : dG ts s x = (⟨s.slots, zM s.cells s.slots[x.x.toNat]!.ptr s.slots[x.y.toNat]!.num, s.read⟩, nX (u7 s.cells s.slots[x.x.toNat]!.ptr s.slots[x.y.toNat]!.num)) := by
  unfold dG;rw [if_neg (show ¬ x.op = 1 by omega), if_neg (show ¬ x.op = 2 by omega), if_neg (show ¬ x.op = 3 by omega), if_neg (show ¬ (x.op = 4 ∨ x.op = 5) by omega), if_neg (show ¬ x.op = 6 by omega), if_pos ho]
 rw [h0]
 refine aC Tryz.func215 Tryz.ntmps215 ?_
 repeat' (first|(apply aH;first|(apply aA (k := 253);rfl;exact hwr;exact Pur.pf;rfl)|(apply aA (k := 246);rfl;(apply j5);(rfl);rfl))|refine aE ?_|refine aF ?_|(refine aK ?_ ?_ <;> intro hc hq <;> try (exfalso;omega))|refine bO ?_|fail)
 refine aD (l := [fM ⟨s.slots, zM s.cells s.slots[x.x.toNat]!.ptr s.slots[x.y.toNat]!.num, s.read⟩, iv (if u7 s.cells s.slots[x.x.toNat]!.ptr s.slots[x.y.toNat]!.num = 1 then 3 else if u7 s.cells s.slots[x.x.toNat]!.ptr s.slots[x.y.toNat]!.num = 0 then 0 else 4)]) rfl ?_
 rw [← FX]
 exact ⟨rfl, by exact Pur.pf⟩
theorem KD (ts : List Int) (s : Mc) (x : Pnt) (ho : x.op = 8) (hm : OkM s.cells) (hsl : s.slots.length = ts.length) (hx : 0 ≤ x.x ∧ x.x < ts.length) (hl : ts.length ≤ 1000000) : PC Tryz.prog 215 [sl cI ts, fM s, dJ x] (fun r => r = .tup [fM (dG ts s x).1, iv (gk (dG ts s x).2)]) := by
 have hfr := lI s.cells hm s.slots[x.x.toNat]!.ptr
 have hcl := pY ⟨s.slots, kW s.cells s.slots[x.x.toNat]!.ptr, s.read⟩ x.x.toNat (by show _ < s.slots.length;omega) (by show s.slots.length ≤ _; omega)
 rw [Int.toNat_of_nonneg hx.1] at hcl
 have h0 : dG ts s x = (⟨s.slots.set x.x.toNat mQ, kW s.cells s.slots[x.x.toNat]!.ptr, s.read⟩, nX (bD s.cells s.slots[x.x.toNat]!.ptr true)) := by
  unfold dG;rw [if_neg (show ¬ x.op = 1 by omega), if_neg (show ¬ x.op = 2 by omega), if_neg (show ¬ x.op = 3 by omega), if_neg (show ¬ (x.op = 4 ∨ x.op = 5) by omega), if_neg (show ¬ x.op = 6 by omega), if_neg (show ¬ x.op = 7 by omega), if_pos ho]
 rw [h0]
 refine aC Tryz.func215 Tryz.ntmps215 ?_
 repeat' (first|(apply aH;first|(apply aA (k := 245);rfl;exact hfr;exact Pur.pf;rfl)|(apply aA (k := 247);rfl;exact hcl;exact Pur.pf;rfl)|(apply aA (k := 246);rfl;(apply j5);(rfl);rfl))|refine aE ?_|refine aF ?_|(refine aK ?_ ?_ <;> intro hc hq <;> try (exfalso;omega))|refine bO ?_|fail)
 refine aD (l := [fM ⟨s.slots.set x.x.toNat mQ, kW s.cells s.slots[x.x.toNat]!.ptr, s.read⟩, iv (if bD s.cells s.slots[x.x.toNat]!.ptr true = 1 then 3 else if bD s.cells s.slots[x.x.toNat]!.ptr true = 0 then 0 else 4)]) rfl ?_
 rw [← FX]
 exact ⟨rfl, by exact Pur.pf⟩
def Lr (s : Mc) (x : Pnt) : Bool :=
 if x.op = 3 ∨ x.op = 4 ∨ x.op = 5 ∨ x.op = 6 then !s.slots[x.y.toNat]!.set
 else if x.op = 7 then !s.slots[x.x.toNat]!.set || !s.slots[x.y.toNat]!.set
 else if x.op = 8 then !s.slots[x.x.toNat]!.set else false
theorem D5 (s : Mc) (x : Pnt) (hx : (x.op = 7 ∨ x.op = 8) → 0 ≤ x.x ∧ x.x < s.slots.length) (hy : (x.op = 3 ∨ x.op = 4 ∨ x.op = 5 ∨ x.op = 6 ∨ x.op = 7) → 0 ≤ x.y ∧ x.y < s.slots.length) : PC Tryz.prog 214 [dJ x, fM s] (fun r => r = bv (Lr s x)) := by
 refine aC Tryz.func214 Tryz.ntmps214 ?_
 repeat' (first|refine aE ?_|refine aF ?_|(refine aK ?_ ?_ <;> intro hc hq <;> try (exfalso;omega))|(refine bQ ?_ ?_ <;> intro hg hq <;> try (exfalso;omega))|fail)
 all_goals (refine aD rfl ⟨?_, rfl⟩; simp only [aN, AV.v.injEq, Value.bool.injEq]; unfold Lr;grind)
theorem yG {ts : List Int} {n v : Nat} {q : Mc} (h : ¬ (ts[v]! = 2 ∧ q.slots[v]!.set = true)) : cV ts (n + 1) v q = cV ts n (v + 1) q := by
 rw [cV, if_neg h]
theorem G7 {ts : List Int} {n v : Nat} {q : Mc} (h : ts[v]! = 2 ∧ q.slots[v]!.set = true) (hk : bD q.cells q.slots[v]!.ptr true = 0) : cV ts (n + 1) v q = cV ts n (v + 1) ⟨q.slots.set v mQ, kW q.cells q.slots[v]!.ptr, q.read⟩ := by
 rw [cV, if_pos h, if_pos hk]
theorem FU {ts : List Int} {n v : Nat} {q : Mc} (h : ts[v]! = 2 ∧ q.slots[v]!.set = true) (hk : ¬ bD q.cells q.slots[v]!.ptr true = 0) : cV ts (n + 1) v q = (⟨q.slots, kW q.cells q.slots[v]!.ptr, q.read⟩, e7 (bD q.cells q.slots[v]!.ptr true)) := by
 rw [cV, if_pos h, if_neg hk]
theorem I9 (ts : List Int) (s : Mc) (hm : OkM s.cells) (hsl : s.slots.length = ts.length) (hl : ts.length ≤ 1000000) : PC Tryz.prog 213 [sl cI ts, fM s] (fun r => r = .tup [fM (cV ts ts.length 0 s).1, iv (cV ts ts.length 0 s).2]) := by
 refine aC Tryz.func213 Tryz.ntmps213 ?_
 repeat' (first|refine aE ?_|refine aF ?_|fail)
 refine aI (σ := Nat × Mc) [0, 3, 4] [1] (fun k => [(6, iv (k.1 : Int))]) (fun k => [(0, some [sl c9 k.2.slots, sl bI k.2.cells, sl cI k.2.read])]) (fun k => k.1 ≤ ts.length ∧ cV ts (ts.length - k.1) k.1 k.2 = cV ts ts.length 0 s ∧ OkM k.2.cells ∧ k.2.slots.length = ts.length) (fun k => ts.length - k.1) (0, s) ⟨Nat.zero_le _, rfl, hm, hsl⟩ ?_
 rintro ⟨v, q⟩ ⟨hv, hf, hmq, hlq⟩
 dsimp only at hv hf hmq hlq ⊢
 have hfr := lI q.cells hmq q.slots[v]!.ptr
 have hcl := fun h => pY ⟨q.slots, kW q.cells q.slots[v]!.ptr, q.read⟩ v h (by show q.slots.length ≤ _; omega)
 repeat' (first|(apply aH;first|(apply aA (k := 245);rfl;exact hfr;exact Pur.pf;rfl)|(apply aA (k := 247);rfl;(exact hcl (by show v < q.slots.length;omega));exact Pur.pf;rfl)|(apply aA (k := 246);rfl;(apply j5);(rfl);rfl))|refine aE ?_|refine aF ?_|(refine aK ?_ ?_ <;> intro hc hq <;> try (exfalso;omega))|(refine bQ ?_ ?_ <;> intro hg hq <;> try (exfalso;omega))|refine bO ?_|fail)
 ·(refine bC (v + 1, q) (Le.renA [(0, 0), (1, 1)]) ?_ ?_)
  ·refine ⟨by omega, ?_, hmq, hlq⟩
   dsimp only
   rw [← hf, show ts.length - v = (ts.length - (v + 1)) + 1 by omega, yG (fun h => by
    have h2 : q.slots[v]!.set = false := by assumption
    rw [h2] at h;exact absurd h.2 (by decide))]
  ·dsimp only;omega
 ·have hk : ¬ bD q.cells q.slots[v]!.ptr true = 0 := by assumption
  have hq2 : cV ts ts.length 0 s = (⟨q.slots, kW q.cells q.slots[v]!.ptr, q.read⟩, e7 (bD q.cells q.slots[v]!.ptr true)) := by
   rw [← hf, show ts.length - v = (ts.length - (v + 1)) + 1 by omega, FU ⟨by assumption, by assumption⟩ hk]
  rw [hq2]
  refine aD (l := [fM ⟨q.slots, kW q.cells q.slots[v]!.ptr, q.read⟩, iv (if bD q.cells q.slots[v]!.ptr true = 1 then 3 else if bD q.cells q.slots[v]!.ptr true = 0 then 0 else 4)]) rfl ?_
  rw [yM hk]
  exact ⟨rfl, by exact Pur.pf⟩
 ·(refine bC (v + 1, ⟨q.slots.set v mQ, kW q.cells q.slots[v]!.ptr, q.read⟩) (Le.renA [(0, 0), (1, 1)]) ?_ ?_)
  ·refine ⟨by omega, ?_, hmq.fr _, by show (q.slots.set v mQ).length = _; rw [List.length_set]; exact hlq⟩
   dsimp only
   rw [← hf, show ts.length - v = (ts.length - (v + 1)) + 1 by omega, G7 ⟨by assumption, by assumption⟩ (by assumption)]
  ·dsimp only;omega
 ·(refine bC (v + 1, q) (Le.renA [(0, 0), (1, 1)]) ?_ ?_)
  ·refine ⟨by omega, ?_, hmq, hlq⟩
   dsimp only
   rw [← hf, show ts.length - v = (ts.length - (v + 1)) + 1 by omega, yG (fun h => by
    have h2 : ¬ ts[v]! = 2 := by assumption
    exact h2 h.1)]
  ·dsimp only;omega
 ·have hve : v = ts.length := by omega
  have hq2 : cV ts ts.length 0 s = (q, 0) := by rw [← hf, hve, Nat.sub_self]; rfl
  rw [hq2]
  exact aD (l := [fM q, iv 0]) rfl ⟨rfl, by exact Pur.pf⟩
theorem xS (p : Prg) (hl : p.types.length ≤ 1000000) (hs : bE p.body ≤ 1000000) : PC Tryz.prog 151 [bZ p] (fun r => r = sl cD (if bK p = true then aB p else [])) := by
 have hval := gA p hl (by omega)
 have h2 := dE p hs
 refine aC Tryz.func151 Tryz.ntmps151 ?_
 repeat' (first|(apply aH;first|(apply aA (k := 61);rfl;exact hval;exact Pur.pf;rfl)|(apply aA (k := 132);rfl;exact h2;exact Pur.pf;rfl)|(apply aM (t := _);rfl;rfl;rfl;(rfl);rfl;rfl))|refine aE ?_|refine aF ?_|(refine aK ?_ ?_ <;> intro hc hq <;> try (exfalso;omega))|fail)
 ·refine aD rfl ⟨?_, (by (rfl))⟩
  rw [if_neg (by simp [hq])]; rfl
 ·refine aD rfl ⟨?_, (by (exact a6 _ _))⟩
  rw [if_pos hq]; rfl
def wm (pts : List Pnt) (n a : Nat) (cs : List Int) : List Int × Bool := ((gI pts n a cs).1.map (fun a : Nat => (a : Int)), (gI pts n a cs).2)
theorem HU {pts : List Pnt} {n a : Nat} {cs : List Int} (h : pts[a]!.op = 11) : wm pts n a cs = ([(a : Int)], true) := by
 have e : gI pts n a cs = ([a], true) := by cases n <;> (unfold gI;rw [if_pos h])
 unfold wm;rw [e]; rfl
theorem FK {pts : List Pnt} {a : Nat} {cs : List Int} (h : ¬ pts[a]!.op = 11) : wm pts 0 a cs = ([], false) := by
 have e : gI pts 0 a cs = ([], false) := by unfold gI;rw [if_neg h]
 unfold wm;rw [e]; rfl
theorem Nc {pts : List Pnt} {n a : Nat} {cs : List Int} (h : ¬ pts[a]!.op = 11) : wm pts (n + 1) a cs = ((a : Int) :: (wm pts n (iF pts a cs).1 (iF pts a cs).2).1, (wm pts n (iF pts a cs).1 (iF pts a cs).2).2) := by
 unfold wm;rw [gI, if_neg h]; rfl
theorem Ki {pts : List Pnt} {a : Nat} {cs : List Int} (h : ¬ pts[a]!.next.length = 2) : iF pts a cs = ((pts[a]!.next[0]!).toNat, cs) := by
 unfold iF;rw [if_neg h]
theorem ML {pts : List Pnt} {a u : Nat} {cs : List Int} (h : pts[a]!.next.length = 2) (hu : cs.length ≤ u) : iF pts a (cs.drop u) = ((pts[a]!.next[1]!).toNat, cs.drop (u + 1)) := by
 unfold iF;rw [if_pos h, List.drop_eq_nil_of_le hu, List.drop_eq_nil_of_le (by omega)]
theorem Kk {pts : List Pnt} {a u : Nat} {cs : List Int} (h : pts[a]!.next.length = 2) (hu : u < cs.length) : iF pts a (cs.drop u) = ((pts[a]!.next[if cs[u]!.tmod 2 = 0 then 0 else 1]!).toNat, cs.drop (u + 1)) := by
 have e : (cs[u]! % 2).toNat = if cs[u]!.tmod 2 = 0 then 0 else 1 := by
  by_cases q : cs[u]!.tmod 2 = 0
  ·rw [if_pos q, Int.emod_eq_zero_of_dvd (Int.dvd_of_tmod_eq_zero q)]; rfl
  ·rw [if_neg q]
   have : ¬ cs[u]! % 2 = 0 := fun q2 => q (Int.tmod_eq_zero_of_dvd (Int.dvd_of_emod_eq_zero q2))
   omega
 have e2 : cs.drop u = cs[u]! :: cs.drop (u + 1) := by rw [List.drop_eq_getElem_cons hu, bB _ _ hu]
 unfold iF
 rw [if_pos h, e2]
 dsimp only
 rw [e]
theorem oB {pts : List Pnt} {n a : Nat} {out cs cs2 : List Int} {b : Nat} {q : List Int × Bool} (h : ¬ pts[a]!.op = 11) (ho : out.length < n) (hs : iF pts a cs = (b, cs2)) (hq : q = (out ++ (wm pts (n - out.length) a cs).1, (wm pts (n - out.length) a cs).2)) :
  q = ((out ++ [(a : Int)]) ++ (wm pts (n - (out ++ [(a : Int)]).length) b cs2).1, (wm pts (n - (out ++ [(a : Int)]).length) b cs2).2) := by
 rw [hq, show n - out.length = (n - (out.length + 1)) + 1 by omega, Nc h, hs, List.length_append, List.append_assoc]
 rfl
theorem Ce (p : Prg) (cs : List Int) (n : Nat) (hv : bK p = true) (hl : p.types.length ≤ 1000000) (hs : bE p.body ≤ 1000000) (hn : n ≤ 1000) (hcl : cs.length ≤ 1000000) : PC Tryz.prog 212 [bZ p, sl cI cs, iv (n : Int)] (fun r => r = .tup [sl cI (wm (aB p) n 0 cs).1, bv (wm (aB p) n 0 cs).2]) := by
 have hpo := xS p hl hs
 rw [if_pos hv] at hpo
 have w := WG.of_valid hv
 have wa := WA.of_valid hv
 obtain ⟨pts, hpts⟩ : ∃ pts, pts = aB p := ⟨_, rfl⟩
 rw [← hpts] at hpo w wa ⊢
 have hpl := w.pl
 have hp0 := w.p0
 refine aC Tryz.func212 Tryz.ntmps212 ?_
 repeat' (first|(apply aH;(apply aA (k := 151);rfl;exact hpo;exact Pur.pf;rfl))|refine aE ?_|refine aF ?_|(refine aK ?_ ?_ <;> intro hc hq <;> try (exfalso;omega))|(refine bQ ?_ ?_ <;> intro hg hq <;> try (exfalso;omega))|fail)
 refine aI (σ := Int × Nat × List Int × Nat) [1, 2, 9] [] (fun k => [(10, iv k.1), (11, iv (k.2.1 : Int)), (8, .own 1 0 k.2.2.2 1)]) (fun k => [(1, some (flat cI k.2.2.1))]) (fun k => (0 ≤ k.1 ∧ k.1 < pts.length) ∧ k.2.1 ≤ k.2.2.1.length ∧ k.2.2.1.length ≤ n ∧ k.2.2.2 = k.2.2.1.length ∧ wm pts n 0 cs = (k.2.2.1 ++ (wm pts (n - k.2.2.1.length) k.1.toNat (cs.drop k.2.1)).1, (wm pts (n - k.2.2.1.length) k.1.toNat (cs.drop k.2.1)).2)) (fun k => n + 1 - k.2.2.1.length) (0, 0, [], 0) ⟨⟨Int.le_refl _, by show (0 : Int) < _; omega⟩, Nat.le_refl _, Nat.zero_le _, rfl, rfl⟩ ?_
 rintro ⟨a, u, out, m⟩ ⟨⟨ha0, ha⟩, hu, ho, hm, hw⟩
 dsimp only at ha0 ha hu ho hm hw ⊢
 have hat : (a.toNat : Int) = a := Int.toNat_of_nonneg ha0
 have hnx := w.nx a.toNat (by omega)
 have hnl := w.nl a.toNat (by omega)
 have hn1 := wa.n a.toNat (by omega)
 have hk : ∀ k, k < pts[a.toNat]!.next.length → 0 ≤ pts[a.toNat]!.next[k]! ∧ pts[a.toNat]!.next[k]! < pts.length := fun k h => hnx _ (aR _ _ h)
 repeat' (first|(apply aH;(apply aM (t := _);rfl;rfl;rfl;exact (rfl:_=some [_]);rfl;rfl))|refine aE ?_|refine aF ?_|(refine aK ?_ ?_ <;> intro hc hq <;> try (exfalso;omega))|(refine bQ ?_ ?_ <;> intro hg hq <;> try (exfalso;omega))|fail)
 ·have hop : ¬ pts[a.toNat]!.op = 11 := by assumption
  have e : wm pts n 0 cs = (out, false) := by rw [hw, show n - out.length = 0 by omega, FK hop, List.append_nil]
  rw [e]
  (refine aU (Le.frzD (d := 6) (i := 1) rfl rfl) ?_; refine aD rfl ?_)
  refine ⟨?_, (by exact Pur.pf)⟩
  simp only [aN, sl]
  rw [hm]
 ·have hop : ¬ pts[a.toNat]!.op = 11 := by assumption
  have hst := oB hop (by omega) ((Kk (by omega) (by omega)).trans (by rw [if_pos (by assumption)])) hw
  rw [hat] at hst
  have hk := hk 0 (by omega)
  (refine bC (pts[a.toNat]!.next[0]!, u + 1, _, _) (Le.renA [(1, 3)]) ?_ ?_)
  ·refine ⟨hk, ?_, ?_, ?_, hst⟩ <;> (dsimp only;rw [List.length_append]; simp only [List.length_singleton]; omega)
  ·dsimp only;rw [List.length_append]; simp only [List.length_singleton]; omega
 ·have hop : ¬ pts[a.toNat]!.op = 11 := by assumption
  have hst := oB hop (by omega) ((Kk (by omega) (by omega)).trans (by rw [if_neg (by assumption)])) hw
  rw [hat] at hst
  have hk := hk 1 (by omega)
  (refine bC (pts[a.toNat]!.next[1]!, u + 1, _, _) (Le.renA [(1, 3)]) ?_ ?_)
  ·refine ⟨hk, ?_, ?_, ?_, hst⟩ <;> (dsimp only;rw [List.length_append]; simp only [List.length_singleton]; omega)
  ·dsimp only;rw [List.length_append]; simp only [List.length_singleton]; omega
 ·have hop : ¬ pts[a.toNat]!.op = 11 := by assumption
  have hst := oB hop (by omega) (ML (by omega) (by omega)) hw
  rw [hat] at hst
  have hk := hk 1 (by omega)
  (refine bC (pts[a.toNat]!.next[1]!, u + 1, _, _) (Le.renA [(1, 3)]) ?_ ?_)
  ·refine ⟨hk, ?_, ?_, ?_, hst⟩ <;> (dsimp only;rw [List.length_append]; simp only [List.length_singleton]; omega)
  ·dsimp only;rw [List.length_append]; simp only [List.length_singleton]; omega
 ·have hop : ¬ pts[a.toNat]!.op = 11 := by assumption
  have hst := oB hop (by omega) (Ki (by omega)) hw
  rw [hat] at hst
  have hk := hk 0 (by omega)
  (refine bC (pts[a.toNat]!.next[0]!, u, _, _) (Le.renA [(1, 3)]) ?_ ?_)
  ·refine ⟨hk, ?_, ?_, ?_, hst⟩ <;> (dsimp only;rw [List.length_append]; simp only [List.length_singleton]; omega)
  ·dsimp only;rw [List.length_append]; simp only [List.length_singleton]; omega
 ·have hop : pts[a.toNat]!.op = 11 := by assumption
  have e : wm pts n 0 cs = (out ++ [a], true) := by rw [hw, HU hop, hat]
  rw [e]
  (refine aU (Le.frzD (d := 6) (i := 3) rfl rfl) ?_; refine aD rfl ?_)
  refine ⟨?_, (by exact Pur.pf)⟩
  simp only [aN, sl]
  rw [hm, List.length_append]; rfl
theorem LZ {ts : List Int} {s : Mc} {x : Pnt} (hx : (x.op = 7 ∨ x.op = 8) → 0 ≤ x.x ∧ x.x < ts.length) (hy : (x.op = 3 ∨ x.op = 4 ∨ x.op = 5 ∨ x.op = 6 ∨ x.op = 7) → 0 ≤ x.y ∧ x.y < ts.length) : Lr s x = cT ts s x := by
 have hX : ∀ v : Nat, (v : Int) = x.x → v = x.x.toNat := fun v h => by omega
 have hY : ∀ v : Nat, (v : Int) = x.y → v = x.y.toNat := fun v h => by omega
 cases hu : cT ts s x with
 | true =>
  obtain ⟨v, hv, hne, hs⟩ := AX hu
  unfold a8 at hne
  unfold Lr
  by_cases h3 : x.op = 3
  ·rw [if_pos h3] at hne
   by_cases e : (v : Int) = x.y
   ·rw [if_pos (.inl h3), ← hY v e, hs]; rfl
   ·rw [if_neg e] at hne;exact absurd rfl hne
  ·rw [if_neg h3] at hne
   by_cases h4 : x.op = 4 ∨ x.op = 5 ∨ x.op = 6
   ·rw [if_pos h4] at hne
    by_cases e : (v : Int) = x.y
    ·rw [if_pos (by omega), ← hY v e, hs]; rfl
    ·rw [if_neg e] at hne;exact absurd rfl hne
   ·rw [if_neg h4] at hne
    rw [if_neg (by omega)]
    by_cases h7 : x.op = 7
    ·rw [if_pos h7] at hne ⊢
     by_cases e : (v : Int) = x.x
     ·rw [← hX v e, hs]; rfl
     ·rw [if_neg e] at hne
      by_cases e2 : (v : Int) = x.y
      ·rw [← hY v e2, hs]; simp
      ·rw [if_neg e2] at hne;exact absurd rfl hne
    ·rw [if_neg h7] at hne ⊢
     by_cases h8 : x.op = 8
     ·rw [if_pos h8] at hne ⊢
      by_cases e : (v : Int) = x.x
      ·rw [← hX v e, hs]; rfl
      ·rw [if_neg e] at hne;exact absurd rfl hne
     ·rw [if_neg h8] at hne;exact absurd rfl hne
 | false =>
  have hS : ∀ v : Nat, v < ts.length → a8 ts x v ≠ 0 → s.slots[v]!.set = true := fun v hv h => IJ hu hv h
  unfold Lr
  by_cases h3 : x.op = 3
  ·have := hy (.inl h3)
   rw [if_pos (.inl h3), hS x.y.toNat (by omega) (by unfold a8;rw [if_pos h3, if_pos (by omega)]; split <;> decide)]; rfl
  ·by_cases h4 : x.op = 4 ∨ x.op = 5 ∨ x.op = 6
   ·have := hy (by omega)
    rw [if_pos (by omega), hS x.y.toNat (by omega) (by unfold a8;rw [if_neg h3, if_pos h4, if_pos (by omega)]; decide)]; rfl
   ·rw [if_neg (by omega)]
    by_cases h7 : x.op = 7
    ·have hy7 := hy (by omega)
     have hx7 := hx (.inl h7)
     rw [if_pos h7, hS x.x.toNat (by omega) (by unfold a8; rw [if_neg h3, if_neg h4, if_pos h7, if_pos (by omega)]; decide),
      hS x.y.toNat (by omega) (by unfold a8;rw [if_neg h3, if_neg h4, if_pos h7]; split;decide;rw [if_pos (by omega)]; decide)]; rfl
    ·rw [if_neg h7]
     by_cases h8 : x.op = 8
     ·have hx8 := hx (.inr h8)
      rw [if_pos h8, hS x.x.toNat (by omega) (by unfold a8;rw [if_neg h3, if_neg h4, if_neg h7, if_pos h8, if_pos (by omega)]; decide)]; rfl
     ·rw [if_neg h8]
theorem BD (k : Int) : nX k ≠ 0 := by
 unfold nX e7;split
 ·decide
 ·split <;> decide
theorem C8 (k : Int) : e7 k ≠ 0 := by unfold e7; split <;> decide
theorem oM {ts : List Int} {s : Mc} {v : Nat} {y : Sl} : (bW ts s v y).2 ≠ 0 := by
 unfold bW;split
 ·exact BD _
 ·show (-1 : Int) ≠ 0;decide
theorem LJ {ts : List Int} {s : Mc} {x : Pnt} (h : x.op ≠ 11) : (dG ts s x).2 ≠ 0 := by
 unfold dG
 split
 ·exact oM
 split
 ·split
  ·show (1 : Int) ≠ 0;decide
  ·exact oM
 split
 ·exact oM
 split
 ·split
  ·exact oM
  ·exact C8 _
 split
 ·split
  ·exact oM
  ·exact C8 _
 split
 ·exact BD _
 split
 ·exact BD _
 show (-1 : Int) ≠ 0;decide
theorem Nm {ts : List Int} {s : Mc} {x : Pnt} (h : x.op ≠ 11) : gk (dG ts s x).2 = 0 ↔ (dG ts s x).2 = -1 := by
 have := LJ (ts := ts) (s := s) h
 unfold gk;split
 ·simp [*]
 ·constructor <;> (intro q;contradiction)
theorem Kx (ts : List Int) (s : Mc) (x : Pnt) (ho : x.op = 9 ∨ x.op = 10) : PC Tryz.prog 215 [sl cI ts, fM s, dJ x] (fun r => r = .tup [fM (dG ts s x).1, iv (gk (dG ts s x).2)]) := by
 have h0 : dG ts s x = (s, -1) := by
  unfold dG;rw [if_neg (show ¬ x.op = 1 by omega), if_neg (show ¬ x.op = 2 by omega), if_neg (show ¬ x.op = 3 by omega), if_neg (show ¬ (x.op = 4 ∨ x.op = 5) by omega), if_neg (show ¬ x.op = 6 by omega), if_neg (show ¬ x.op = 7 by omega), if_neg (show ¬ x.op = 8 by omega), if_neg (show ¬ x.op = 11 by omega)]
 rw [h0]
 refine aC Tryz.func215 Tryz.ntmps215 ?_
 repeat' (first|refine aE ?_|refine aF ?_|(refine aK ?_ ?_ <;> intro hc hq <;> try (exfalso;omega))|fail)
 exact aD (l := [fM s, iv 0]) rfl ⟨rfl, by exact Pur.pf⟩
theorem Mp (ts : List Int) (s : Mc) (x : Pnt) (h11 : x.op ≠ 11) (hop : 1 ≤ x.op ∧ x.op ≤ 11) (hm : OkM s.cells) (hsl : s.slots.length = ts.length) (hx : x.op ≤ 8 → 0 ≤ x.x ∧ x.x < ts.length) (hy : 3 ≤ x.op → x.op ≤ 7 → 0 ≤ x.y ∧ x.y < ts.length) (hn : x.op = 2 → 0 ≤ x.n ∧ x.n ≤ 9) (hl : ts.length ≤ 1000000) (hrl : s.read.length ≤ 1000000) : PC Tryz.prog 215 [sl cI ts, fM s, dJ x] (fun r => r = .tup [fM (dG ts s x).1, iv (gk (dG ts s x).2)]) := by
 by_cases h1 : x.op = 1
 ·exact Me ts s x h1 hm hsl (hx (by omega)) hl
 by_cases h2 : x.op = 2
 ·exact KQ ts s x h2 hm hsl (hx (by omega)) (hn h2) hl
 by_cases h3 : x.op = 3
 ·exact KH ts s x h3 hm hsl (hx (by omega)) (hy (by omega) (by omega)) hl
 by_cases h4 : x.op = 4 ∨ x.op = 5
 ·exact JK ts s x h4 hm hsl (hx (by omega)) (hy (by omega) (by omega)) hl
 by_cases h6 : x.op = 6
 ·exact Kt ts s x h6 hm hsl (hx (by omega)) (hy (by omega) (by omega)) hl hrl
 by_cases h7 : x.op = 7
 ·exact LW ts s x h7 hm hsl (hx (by omega)) (hy (by omega) (by omega)) hl
 by_cases h8 : x.op = 8
 ·exact KD ts s x h8 hm hsl (hx (by omega)) hl
 ·exact Kx ts s x (by omega)
theorem j7 {ts : List Int} {s : Mc} {v : Nat} {y : Sl} : (bW ts s v y).1.read = s.read := by unfold bW; split <;> rfl
theorem AU {ts : List Int} {s : Mc} {x : Pnt} (h : x.op ≠ 11) : (dG ts s x).1.read.length ≤ s.read.length + 1 := by
 unfold dG
 split
 ·rw [j7]; omega
 split
 ·split
  ·dsimp only;omega
  ·rw [j7]; dsimp only;omega
 split
 ·rw [j7]; split <;> (first|omega|(dsimp only;omega))
 split
 ·split
  ·rw [j7]; dsimp only;omega
  ·dsimp only;omega
 split
 ·split
  ·rw [j7]; dsimp only;rw [List.length_append]; simp only [List.length_singleton]; omega
  ·dsimp only;omega
 split
 ·dsimp only;omega
 split
 ·dsimp only;omega
 dsimp only;omega
theorem CX (pts : List Pnt) : ∀ n a cs, (gI pts n a cs).2 = true → ∃ l b, (gI pts n a cs).1 = l ++ [b] ∧ pts[b]!.op = 11
 | 0, a, cs, h => by
  unfold gI at h ⊢
  by_cases e : pts[a]!.op = 11
  ·rw [if_pos e]; exact ⟨[], a, rfl, e⟩
  ·rw [if_neg e] at h;exact absurd h (by decide)
 | n + 1, a, cs, h => by
  rw [gI] at h ⊢
  by_cases e : pts[a]!.op = 11
  ·rw [if_pos e]; exact ⟨[], a, rfl, e⟩
  ·rw [if_neg e] at h ⊢
   obtain ⟨l, b, h1, h2⟩ := CX pts n _ _ h
   exact ⟨a :: l, b, by dsimp only;rw [h1]; rfl, h2⟩
theorem KA {s : Mc} {x : Pnt} (h : x.op = 11) : Lr s x = false := by
 unfold Lr;rw [if_neg (by omega), if_neg (by omega), if_neg (by omega)]
theorem I8 (p : Prg) (cs : List Int) (n : Nat) (hv : bK p = true) (hl : p.types.length ≤ 1000000) (hs : bE p.body ≤ 1000000) (hn : n ≤ 150) (hcl : cs.length ≤ 1000000) (hL : ∀ a ∈ (gI (aB p) n 0 cs).1, a < (aB p).length) (hLl : (gI (aB p) n 0 cs).1.length ≤ 151) : PC Tryz.prog 154 [bZ p, sl cI cs, iv (n : Int)] (fun r => r = .tup [fM (jC p.types (aB p) cs n).1, iv (jC p.types (aB p) cs n).2.1, iv (jC p.types (aB p) cs n).2.2]) := by
 have hpo := dE p hs
 have hru := Ce p cs n hv hl hs (by omega) hcl
 have w := WG.of_valid hv
 have wa := WA.of_valid hv
 obtain ⟨q, hq⟩ : ∃ q, q = jC p.types (aB p) cs n := ⟨_, rfl⟩
 rw [← hq]
 unfold jC at hq
 unfold wm at hru
 obtain ⟨L, hLe⟩ : ∃ L, L = (gI (aB p) n 0 cs).1 := ⟨_, rfl⟩
 obtain ⟨dn, hdn⟩ : ∃ dn, dn = (gI (aB p) n 0 cs).2 := ⟨_, rfl⟩
 rw [← hLe, ← hdn] at hru
 rw [← hLe] at hq hL hLl
 have hgx : ∀ i, i < L.length → (L.map (fun a : Nat => (a : Int)))[i]! = (L[i]! : Int) := fun i h => by rw [bB _ _ (by rw [List.length_map]; exact h), List.getElem_map, bB _ _ h]
 have hml : (L.map (fun a : Nat => (a : Int))).length = L.length := List.length_map _
 generalize (L.map (fun a : Nat => (a : Int))) = LI at *
 generalize hP : aB p = pts at *
 have e1 : AV.imm p.types.length ((List.replicate p.types.length ([Value.bool false, Value.int .i64 0, Value.int .i64 0, Value.int .i64 0].map AV.v)).flatten) = sl c9 (List.replicate p.types.length mQ) := by
  rw [tZ (f := c9) (x := mQ) (l := [Value.bool false, Value.int .i64 0, Value.int .i64 0, Value.int .i64 0].map AV.v) rfl]; exact eI (by simp)
 refine aC Tryz.func154 Tryz.ntmps154 ?_
 repeat' (first|(apply aH;first|(apply aA (k := 132);rfl;exact hpo;exact Pur.pf;rfl)|(with_reducible apply aV (d := 27))|(apply aM (t := _);rfl;rfl;rfl;(rfl);rfl;rfl))|refine aE ?_|refine aF ?_|fail)
 refine bV (c7 ?_ (Le.frzD (d := 24) (i := 2) rfl rfl))
 rw [e1]
 repeat' (first|(apply aH;(apply aA (k := 212);rfl;exact hru;exact Pur.pf;rfl))|refine aE ?_|refine aF ?_|fail)
 refine aI (σ := Nat × Mc) [3, 6, 9, 10, 11, 12] [0, 1] (fun k => [(13, iv (k.1 : Int))]) (fun k => [(5, some [sl c9 k.2.slots, sl bI k.2.cells, sl cI k.2.read])]) (fun k => k.1 ≤ L.length ∧ mT p.types pts (L.drop k.1) k.2 (if k.1 = 0 then 0 else L[k.1 - 1]!) = q ∧ OkS p.types.length k.2 ∧ k.2.read.length ≤ k.1 ∧ (∀ j, j < k.1 → pts[L[j]!]!.op ≠ 11)) (fun k => L.length - k.1) (0, mc0 p.types.length) ⟨Nat.zero_le _, by rw [hq]; rfl, OkS.mc0 _, Nat.le_refl _, fun j h => absurd h (by omega)⟩ ?_
 rintro ⟨i, s⟩ ⟨hi, hf, hok, hrd, h11⟩
 dsimp only at hi hf hok hrd h11 ⊢
 have hil : i < L.length → L[i]! < pts.length := fun h => hL _ (aR _ _ h)
 have hex := fun h => I9 p.types s hok.m hok.l h
 by_cases hiL : i < L.length
 ·have hap := hil hiL
  have hop := w.op L[i]! hap
  have hwx := w.x L[i]! hap
  have hwy := w.y L[i]! hap
  have hA := wa.a L[i]! hap
  have hg := hgx i hiL
  have hen := hex hl
  have hun := D5 s pts[L[i]!]! (fun h => by have := hok.l;omega) (fun h => by have := hok.l;omega)
  have hun2 := LZ (ts := p.types) (s := s) (x := pts[L[i]!]!) (fun h => by omega) (fun h => by omega)
  rw [hun2] at hun
  have hdo := fun h => Mp p.types s pts[L[i]!]! h hop hok.m hok.l (fun h => by omega) (fun h h2 => by omega) (fun h => hA.n (.inr h)) hl (by omega)
  repeat' (first|(apply aH;(with_reducible apply aV (d := 46)))|refine aE ?_|refine aF ?_|(refine aK ?_ ?_ <;> intro hc hq <;> try (exfalso;omega))|fail)
  refine bV ?_
  rw [hg]
  repeat' (first|(apply aH;first|(apply aA (k := 213);rfl;exact hen;exact Pur.pf;rfl)|(apply aA (k := 214);rfl;exact hun;exact Pur.pf;rfl)|(apply aA (k := 215);rfl;exact hdo (by assumption);exact Pur.pf;rfl))|refine aE ?_|refine aF ?_|(refine aK ?_ ?_ <;> intro hc hq <;> try (exfalso;omega))|refine bO ?_|fail)
  all_goals have hdr : L.drop i = L[i]! :: L.drop (i + 1) := by rw [List.drop_eq_getElem_cons hiL, bB _ _ hiL]
  all_goals rw [hdr] at hf
  ·have ho : pts[L[i]!]!.op = 11 := by assumption
   have hqq : q = ((cV p.types p.types.length 0 s).1, (cV p.types p.types.length 0 s).2, L[i]!) := by
    rw [← hf, mT, if_neg (by rw [← hun2, KA ho]; decide), Gj ho, if_neg (by have := yP p.types p.types.length 0 s;omega)]
   rw [hqq]
   refine aD (l := [fM (cV p.types p.types.length 0 s).1, iv (cV p.types p.types.length 0 s).2, iv LI[i]!]) rfl ?_
   rw [hg]
   exact ⟨rfl, by exact Pur.pf⟩
  ·have hu : cT p.types s pts[L[i]!]! = true := by assumption
   have hqq : q = (s, 2, L[i]!) := by rw [← hf, mT, if_pos hu]
   rw [hqq]
   refine aD (l := [fM s, iv 2, iv LI[i]!]) rfl ?_
   rw [hg]
   exact ⟨rfl, by exact Pur.pf⟩
  ·have ho : ¬ pts[L[i]!]!.op = 11 := by assumption
   have hu : cT p.types s pts[L[i]!]! = false := by assumption
   have hk : ¬ gk (dG p.types s pts[L[i]!]!).2 = 0 := by assumption
   have hk2 : ¬ (dG p.types s pts[L[i]!]!).2 = -1 := fun e => hk ((Nm ho).2 e)
   have hqq : q = ((dG p.types s pts[L[i]!]!).1, (dG p.types s pts[L[i]!]!).2, L[i]!) := by rw [← hf, mT, if_neg (by rw [hu]; decide), if_neg hk2]
   rw [hqq]
   refine aD (l := [fM (dG p.types s pts[L[i]!]!).1, iv (gk (dG p.types s pts[L[i]!]!).2), iv LI[i]!]) rfl ?_
   rw [hg, show gk (dG p.types s pts[L[i]!]!).2 = (dG p.types s pts[L[i]!]!).2 by unfold gk;rw [if_neg hk2]]
   exact ⟨rfl, by exact Pur.pf⟩
  ·have ho : ¬ pts[L[i]!]!.op = 11 := by assumption
   have hu : cT p.types s pts[L[i]!]! = false := by assumption
   have hk2 : (dG p.types s pts[L[i]!]!).2 = -1 := (Nm ho).1 (by assumption)
   (refine bC (i + 1, (dG p.types s pts[L[i]!]!).1) (Le.renA [(0, 0), (1, 1), (5, 5)]) ?_ ?_)
   ·refine ⟨by dsimp only; omega, ?_, hok.do ⟨fun h => hA.n (.inr h)⟩, ?_, ?_⟩
    ·dsimp only
     rw [← hf, if_neg (by omega), show i + 1 - 1 = i by omega, mT, if_neg (by rw [hu]; decide), if_pos hk2]
    ·dsimp only;have := AU (ts := p.types) (s := s) ho;omega
    ·intro j hj
     rcases Nat.lt_or_ge j i with h|h
     ·exact h11 j h
     ·rw [show j = i by omega]; exact ho
   ·dsimp only;omega
 ·repeat' (first | refine aE ?_ | refine aF ?_ | (refine aK ?_ ?_ <;> intro hc hq <;> try (exfalso; omega)) | (refine bQ ?_ ?_ <;> intro hg hq <;> try (exfalso; omega)) | refine bO ?_|fail)
  all_goals have hie : i = L.length := by omega
  all_goals have hqq : q = (s, 1, if i = 0 then 0 else L[i - 1]!) := by rw [← hf, hie, List.drop_length]; rfl
  ·rw [hqq, if_neg (by omega)]
   refine aD (l := [fM s, iv 1, iv LI[((LI.length : Int) - 1).toNat]!]) rfl ?_
   rw [show ((LI.length : Int) - 1).toNat = i - 1 by omega, hgx (i - 1) (by omega)]
   exact ⟨rfl, by exact Pur.pf⟩
  ·rw [hqq, if_pos (by omega)]
   exact aD (l := [fM s, iv 1, iv 0]) rfl ⟨rfl, by exact Pur.pf⟩
  ·exfalso
   have hd1 : dn = true := by assumption
   obtain ⟨l, b, e1, e2⟩ := CX pts n 0 cs (by rw [← hdn]; exact hd1)
   rw [← hLe] at e1
   have hlen : L.length = l.length + 1 := by rw [e1, List.length_append]; rfl
   have hb : L[l.length]! = b := by rw [bB _ _ (by omega)]; simp [e1]
   have := h11 l.length (by omega)
   rw [hb] at this
   exact this e2
theorem Ck {ts : List Int} {pts : List Pnt} (w : WG ts pts) (A : WA ts pts) : ∀ n a cs, a < pts.length → ∀ x ∈ (gI pts n a cs).1, x < pts.length
 | 0, a, cs, ha, x, hx => by
  unfold gI at hx
  by_cases e : pts[a]!.op = 11
  ·rw [if_pos e] at hx;rw [List.mem_singleton.1 hx]; exact ha
  ·rw [if_neg e] at hx;exact absurd hx (by simp)
 | n + 1, a, cs, ha, x, hx => by
  rw [gI] at hx
  by_cases e : pts[a]!.op = 11
  ·rw [if_pos e] at hx;rw [List.mem_singleton.1 hx]; exact ha
  ·rw [if_neg e] at hx
   rcases List.mem_cons.1 hx with h|h
   ·rw [h]; exact ha
   ·have he := Ho w A ha e cs
    have := w.nx a ha _ he.2
    exact Ck w A n _ _ (by omega) x h
theorem rR {pts : List Pnt} : ∀ n a cs, (gI pts n a cs).1.length ≤ n + 1
 | 0, a, cs => by unfold gI;split <;> simp
 | n + 1, a, cs => by
  rw [gI]; split
  ·simp
  ·have := rR (pts := pts) n (iF pts a cs).1 (iF pts a cs).2
   dsimp only;rw [List.length_cons]; omega
theorem Hg (p : Prg) (cs : List Int) (n : Nat) (hv : bK p = true) (hl : p.types.length ≤ 1000000) (hs : bE p.body ≤ 1000000) (hn : n ≤ 150) (hcl : cs.length ≤ 1000000) : PC Go.Proofs.Tryz.prog 154 [bZ p, sl cI cs, iv (n : Int)] (fun r => r = .tup [fM (jC p.types (aB p) cs n).1, iv (jC p.types (aB p) cs n).2.1, iv (jC p.types (aB p) cs n).2.2]) :=
 I8 p cs n hv hl hs hn hcl (Ck (WG.of_valid hv) (WA.of_valid hv) n 0 cs (WG.of_valid hv).p0) (by have := rR (pts := aB p) n 0 cs;omega)
def CH (p : Prg) (most : Int) : Bool := bK p && (decide (0 ≤ most) && decide (most ≤ 150))
theorem Eh (p : Prg) (most : Int) (hl : p.types.length ≤ 1000000) (hs : bE p.body ≤ 1000000) : PC Tryz.prog 153 [bZ p, iv most] (fun r => r = bv (CH p most)) := by
 have hval := gA p hl (by omega)
 refine aC Tryz.func153 Tryz.ntmps153 ?_
 repeat' (first|(apply aH;(apply aA (k := 61);rfl;exact hval;exact Pur.pf;rfl))|refine aE ?_|refine aF ?_|(refine bQ ?_ ?_ <;> intro hg hq <;> try (exfalso;omega))|fail)
 all_goals (refine aD rfl ⟨?_, rfl⟩; simp only [aN, AV.v.injEq, Value.bool.injEq]; unfold CH;grind)
theorem uJ (p : Prg) (cs : List Int) (most : Int) (hl : p.types.length ≤ 1000000) (hs : bE p.body ≤ 1000000) (hcl : cs.length ≤ 1000000) : PC Tryz.prog 84 [bZ p, sl cI cs, iv most] (fun r => r = .tup (if CH p most = true then [iv (jC p.types (aB p) cs most.toNat).2.1, iv (jC p.types (aB p) cs most.toNat).2.2] else [iv 5, iv 0])) := by
 have hrt := Eh p most hl hs
 by_cases h : CH p most = true
 ·have h' := h
  unfold CH at h'
  simp only [Bool.and_eq_true, decide_eq_true_eq] at h'
  obtain ⟨hv, h0, h1⟩ := h'
  have hru := Hg p cs most.toNat hv hl hs (by omega) hcl
  rw [Int.toNat_of_nonneg h0] at hru
  rw [h] at hrt
  rw [if_pos h]
  refine aC Tryz.func84 Tryz.ntmps84 ?_
  repeat' (first|(apply aH;first|(apply aA (k := 153);rfl;exact hrt;exact Pur.pf;rfl)|(apply aA (k := 154);rfl;exact hru;exact Pur.pf;rfl))|refine aE ?_|refine aF ?_|fail)
  exact aD (l := [iv (jC p.types (aB p) cs most.toNat).2.1, iv (jC p.types (aB p) cs most.toNat).2.2]) rfl ⟨rfl, rfl⟩
 ·rw [if_neg h]
  have h2 : CH p most = false := by simpa using h
  rw [h2] at hrt
  refine aC Tryz.func84 Tryz.ntmps84 ?_
  repeat' (first|(apply aH;(apply aA (k := 153);rfl;exact hrt;exact Pur.pf;rfl))|refine aE ?_|refine aF ?_|fail)
  exact aD (l := [iv 5, iv 0]) rfl ⟨rfl, rfl⟩
theorem KJ {p : Prg} {cs : List Int} {n : Nat} (hv : bK p = true) : OkS p.types.length (jC p.types (aB p) cs n).1 := by
 have wa := WA.of_valid hv
 have hp : ∀ a : Nat, PtN (aB p)[a]! := fun a => by
  by_cases h : a < (aB p).length
  ·exact ⟨fun e => (wa.a a h).n (.inr e)⟩
  ·refine ⟨fun e => ?_⟩
   rw [Fu, dif_neg h] at e
   exact absurd e (by decide)
 exact OkS.run hp _ _ _ (OkS.mc0 _)
theorem zF {ts : List Int} {s : Mc} {x : Pnt} : (dG ts s x).1.read.length ≤ s.read.length + 1 := by
 by_cases h : x.op = 11
 ·rw [Gj h, tH]; omega
 ·exact AU h
theorem u6 (ts : List Int) (pts : List Pnt) : ∀ (l : List Nat) (s : Mc) (last : Nat), (mT ts pts l s last).1.read.length ≤ s.read.length + l.length
 | [], s, last => by unfold mT;simp
 | a :: l, s, last => by
  have h := zF (ts := ts) (s := s) (x := pts[a]!)
  unfold mT;split
  ·dsimp only;omega
  ·split
   ·have := u6 ts pts l (dG ts s pts[a]!).1 a
    rw [List.length_cons]; omega
   ·rw [List.length_cons]; dsimp only;omega
theorem BG {ts : List Int} {pts : List Pnt} {cs : List Int} {n : Nat} (hn : n ≤ 150) : (jC ts pts cs n).1.read.length ≤ 151 := by
 have h := u6 ts pts (gI pts n 0 cs).1 (mc0 ts.length) 0
 have h2 := rR (pts := pts) n 0 cs
 have h3 : (mc0 ts.length).read.length = 0 := rfl
 unfold jC;omega
theorem MI : Go.Proofs.Tryz.prog.underlying 280 = some (.map 3 4) := by kernel_rfl
theorem MT : Go.Proofs.Tryz.prog.underlying 3 = some (.int .i64) := by kernel_rfl
theorem No : (Go.Proofs.Tryz.prog.info? 4).bind (·.zero) = some (.bool false) := by kernel_rfl
theorem MP {a b c : Int} (h : a ≤ b ∧ b ≤ c) : (!(decide (a ≤ b) && decide (b ≤ c))) = false := by simp [h.1, h.2]
theorem gN (m : List Cl) (hm : OkM m) : PC Tryz.prog 239 [sl bI m] (fun r => r = bv true) := by
 have hml := hm.l
 refine aC Tryz.func239 Tryz.ntmps239 ?_
 repeat' (first|refine aE ?_|refine aF ?_|(refine aK ?_ ?_ <;> intro hc hq <;> try (exfalso;omega))|fail)
 all_goals (try (exfalso;omega))
 refine aI (σ := Nat) [11, 12] [] (fun i => [(13, iv (i : Int))]) (fun i => []) (fun i => i ≤ m.length) (fun i => m.length - i) (0) (Nat.zero_le _) ?_
 rintro i hi
 by_cases hin : i < m.length
 ·have hc := (cY m).1 hm |>.2 i hin
  obtain ⟨h1, h2, h3, h4, h5⟩ := (oK _).1 hc
  repeat' (first|(apply aH;(apply aA (k := 54);rfl;(apply cX);(rfl);rfl))|(apply C6;with_reducible apply Gw)|refine aE ?_|refine aF ?_|(refine aK ?_ ?_ <;> intro hc hq <;> try (exfalso;omega))|(refine bQ ?_ ?_ <;> intro hg hq <;> try (exfalso;omega))|fail)
  ·exfalso
   have hu : m[i]!.stk[Int.toNat 0]!.uq = false := by assumption
   rw [show Int.toNat 0 = 0 from rfl, h4] at hu;exact absurd hu (by decide)
  ·refine L5 (Gk rfl (fun r => ?_))
   refine AO ?_
   repeat' (first|refine aE ?_|fail)
   refine ⟨rfl, rfl, ?_⟩
   refine kV (n4 ?_)
   repeat' (first|refine aE ?_|refine aF ?_|fail)
   show rD _ _ _ _ _ _ _
   refine wA ?_
   refine EX (σ := Nat) [4, 5, 11, 12, 13, 44, 45] [(4, _), (5, _), (11, _), (12, _), (13, _), (44, _), (45, _)] [0] [(0, some _)] (fun k => [(46, iv (k : Int))]) (fun k => []) (fun k => (m[i]!.stk.take k).map (·.id)) (fun k => k ≤ m[i]!.stk.length) (fun k => m[i]!.stk.length - k) (0) (Nat.zero_le _) (rfl) rfl rfl (by repeat' (first|exact trivial|refine And.intro rfl ?_)) (by repeat' (exact trivial)) ?_
   rintro k hk
   refine kV (n4 ?_)
   repeat' (first|refine aE ?_|refine aF ?_|fail)
   show rD _ _ _ _ _ _ _
   refine kV (zC rfl (fun hb => AR ?_) (fun hb => Fg ?_))
   ·show rD _ _ _ _ _ _ _
    have hkl : k < m[i]!.stk.length := by have := of_decide_eq_true hb;omega
    obtain ⟨g1, g2, g3⟩ := h5 k hkl
    have hw := MP (a := 0) (b := m[i]!.stk[k]!.id) (c := m[i]!.next - 1) ⟨g1, by omega⟩
    have hni : m[i]!.stk[k]!.id ∉ (m[i]!.stk.take k).map (·.id) := fun q => by
     obtain ⟨t, ht, e⟩ := List.mem_map.1 q
     obtain ⟨j, hj, rfl⟩ := List.getElem_of_mem ht
     rw [List.length_take] at hj
     have f := r9 (stk := m[i]!.stk) (id := m[i]!.stk[k]!.id) (by omega) j (by omega)
     rw [bB _ _ (by omega)] at f
     rw [List.getElem_take] at e
     exact f e
    refine kV (wA (kV (n4 ?_)))
    repeat' (first|refine aE ?_|refine aF ?_|fail)
    show rD _ _ _ _ _ _ _
    refine kV (kV (sF ?_))
    refine zA (l1 := [_, _, _, _, _, _, _, _, _, _, _]) (l2 := [_, _]) ?_
    repeat' (first|(apply aH;(apply aA (k := 54);rfl;(apply cX);(rfl);rfl))|refine aE ?_|fail)
    refine ⟨rfl, ?_⟩
    refine EG rfl rfl hw ?_
    refine Cc MI MT No rfl rfl hni rfl ?_
    refine AO ?_
    repeat' (first|refine aE ?_|fail)
    refine ⟨rfl, ?_⟩
    show rD _ _ _ _ _ _ _
    refine zC rfl (fun h => by cases h) (fun _ => AR ?_)
    show rD _ _ _ _ _ _ _
    refine sF ?_
    refine zA (l1 := [_, _, _]) (l2 := [_]) ?_
    repeat' (first|refine aE ?_|fail)
    refine ⟨rfl, ?_⟩
    refine Bv MI MT No rfl rfl hni ?_
    refine Ir ?_
    show rD _ _ _ _ _ _ _
    refine n4 ?_
    repeat' (first|refine aE ?_|refine aF ?_|fail)
    refine ⟨k + 1, by omega, by omega, ?_, ?_⟩
    ·refine Le.ren [(0, 0)] rfl (by decide) ?_ ?_ <;> repeat' (first|exact trivial|refine And.intro ⟨_, rfl, ?_⟩ ?_|refine And.intro ⟨_, _, rfl, rfl, ?_⟩ ?_|exact Or.inr rfl|refine Or.inl ⟨?_, (by first|rfl|exact a6 _ _|exact Pur.pf)⟩|rfl)
    ·rw [b7 _ k hkl, List.map_append]; rfl
   ·have hkl : k = m[i]!.stk.length := by have := of_decide_eq_false hb; omega
    refine HV ?_
    show Cu 1 _ _ _
    repeat' (first|refine aE ?_|refine aF ?_|fail)
    (refine bC (i + 1) (Le.renA []) ?_ ?_)
    ·omega
    ·omega
 ·repeat' (first | refine aE ?_ | refine aF ?_ | (refine aK ?_ ?_ <;> intro hc hq <;> try (exfalso; omega))|fail)
  refine aD rfl ⟨rfl, rfl⟩
theorem Le.bump {ts : List (Nat × AV)} {hs : List (Nat × Option (List AV))} {n : Nat} {z0 : Lo} (k : Nat) : Le ⟨ts, hs, n, z0⟩ ⟨ts, hs, n + k, z0⟩ := Le.of (fun _ _ h => h) (fun _ _ h => h) (Nat.le_add_right _ _) rfl
theorem vL {m : List Cl} {N : Nat} {Q : Exit → AS → Prop} {all : Array Oper} {rest : List Oper} {tsl : List (Nat × AV)} {hsl : List (Nat × Option (List AV))} {nidl : Nat} {z0 : Lo} {md : Md} {d : Nat} {ty : TypeId} {pos : String} {af : Array Edge} {tys : Array TypeId} {x0 : Operand} (ha0 : ev (lk tsl) x0 = some (sl bI m)) (hmc : MC Tryz.prog 265 [sl bI m] [] 0 (fun _ : Unit => True) (fun _ => .own 1 0 m.length 4) (fun _ => [(1, some (flat bI m))])) (hM : Nat.ble (nidl + 2) aS = true) (hN : Nat.blt d N = true) {md' : Md} [hmd : MdA md (fG [x0] ++ []) (List.map Sum.inr (List.map Prod.fst ([((nidl + 1), some (flat bI m))] : List (Nat × Option (List AV)))) ++ [.inl d]) md'] (kk : RW Tryz.prog N all Q md' rest ⟨(d, .own (nidl + 1) 0 m.length 4) :: tsl, g6 hsl [((nidl + 1), some (flat bI m))], nidl + 2, z0⟩) : RW Tryz.prog N all Q md (⟨some d, .call ⟨.value (.func 265), #[x0], tys⟩, ty, pos, af, none⟩ :: rest) ⟨tsl, hsl, nidl, z0⟩ := by
 refine aY [] 2 [((nidl + 1), some (flat bI m))] hmc (avs := [sl bI m]) ?_ rfl ?_ rfl ?_ (by simpa using hM) ?_ ?_ ?_ hN (md' := md') (hmd := hmd) kk
 ·show evL (lk tsl) [x0] = _
  simp only [evL, ha0]
 ·exact trivial
 ·(repeat' (exact RnL.purI inferInstance))
 ·(repeat' (exact RnV.own rfl))
 ·simp [cK]
 ·(repeat' (first|exact trivial|(refine And.intro ⟨1, _, rfl, rfl, ?_⟩ ?_)|exact RnL.purI inferInstance))
theorem y6 (m : List Cl) (hl : m.length ≤ 1000000) : MC Tryz.prog 265 [sl bI m] [] 0 (fun _ : Unit => True) (fun _ => .own 1 0 m.length 4) (fun _ => [(1, some (flat bI m))]) := by
 refine aT Tryz.func265 Tryz.ntmps265 ?_
 repeat' (first|(apply aH;(apply y4;rfl;rfl;(intro b hb)))|refine aE ?_|refine aF ?_|(refine aK ?_ ?_ <;> intro hc hq <;> try (exfalso;omega))|fail)
 ·have h0 : m = [] := List.eq_nil_of_length_eq_zero (hb (by assumption))
  subst h0
  refine aU (Le.bump 1) ?_
  refine aU (Le.nilOwn (d := 2) 4 rfl (by decide)) ?_
  (refine aD rfl ?_; refine aQ () trivial ?_ ⟨.inr (Eq.trans (b := some _) rfl ?_), trivial⟩)
  ·rfl
  ·rfl
 ·(refine aD rfl ?_; refine aQ () trivial ?_ ⟨.inr (Eq.trans (b := some _) rfl ?_), trivial⟩)
  ·show AV.own 1 0 (0 + m.length) 4 = _; rw [Nat.zero_add]
  ·rfl
theorem pR {m : List Tg} {N : Nat} {Q : Exit → AS → Prop} {all : Array Oper} {rest : List Oper} {tsl : List (Nat × AV)} {hsl : List (Nat × Option (List AV))} {nidl : Nat} {z0 : Lo} {md : Md} {d : Nat} {ty : TypeId} {pos : String} {af : Array Edge} {tys : Array TypeId} {x0 : Operand} (ha0 : ev (lk tsl) x0 = some (sl cC m)) (hmc : MC Tryz.prog 266 [sl cC m] [] 0 (fun _ : Unit => True) (fun _ => .own 1 0 m.length 2) (fun _ => [(1, some (flat cC m))])) (hM : Nat.ble (nidl + 2) aS = true) (hN : Nat.blt d N = true) {md' : Md} [hmd : MdA md (fG [x0] ++ []) (List.map Sum.inr (List.map Prod.fst ([((nidl + 1), some (flat cC m))] : List (Nat × Option (List AV)))) ++ [.inl d]) md'] (kk : RW Tryz.prog N all Q md' rest ⟨(d, .own (nidl + 1) 0 m.length 2) :: tsl, g6 hsl [((nidl + 1), some (flat cC m))], nidl + 2, z0⟩) : RW Tryz.prog N all Q md (⟨some d, .call ⟨.value (.func 266), #[x0], tys⟩, ty, pos, af, none⟩ :: rest) ⟨tsl, hsl, nidl, z0⟩ := by
 refine aY [] 2 [((nidl + 1), some (flat cC m))] hmc (avs := [sl cC m]) ?_ rfl ?_ rfl ?_ (by simpa using hM) ?_ ?_ ?_ hN (md' := md') (hmd := hmd) kk
 ·show evL (lk tsl) [x0] = _
  simp only [evL, ha0]
 ·exact trivial
 ·(repeat' (exact RnL.purI inferInstance))
 ·(repeat' (exact RnV.own rfl))
 ·simp [cK]
 ·(repeat' (first|exact trivial|(refine And.intro ⟨1, _, rfl, rfl, ?_⟩ ?_)|exact RnL.purI inferInstance))
theorem zB (m : List Tg) (hl : m.length ≤ 1000000) : MC Tryz.prog 266 [sl cC m] [] 0 (fun _ : Unit => True) (fun _ => .own 1 0 m.length 2) (fun _ => [(1, some (flat cC m))]) := by
 refine aT Tryz.func266 Tryz.ntmps266 ?_
 repeat' (first|(apply aH;(apply y4;rfl;rfl;(intro b hb)))|refine aE ?_|refine aF ?_|(refine aK ?_ ?_ <;> intro hc hq <;> try (exfalso;omega))|fail)
 ·have h0 : m = [] := List.eq_nil_of_length_eq_zero (hb (by assumption))
  subst h0
  refine aU (Le.bump 1) ?_
  refine aU (Le.nilOwn (d := 2) 2 rfl (by decide)) ?_
  (refine aD rfl ?_; refine aQ () trivial ?_ ⟨.inr (Eq.trans (b := some _) rfl ?_), trivial⟩)
  ·rfl
  ·rfl
 ·(refine aD rfl ?_; refine aQ () trivial ?_ ⟨.inr (Eq.trans (b := some _) rfl ?_), trivial⟩)
  ·show AV.own 1 0 (0 + m.length) 2 = _; rw [Nat.zero_add]
  ·rfl
theorem F2 (t : Tg) (c g : Int) : PC Tryz.prog 268 [NY t, .iptr [iv c, iv g]] (fun r => r = bv (decide (t.id = g))) := by
 refine aC Tryz.func268 Tryz.ntmps268 ?_
 repeat' (first|refine aE ?_|refine aF ?_|fail)
 exact aD rfl ⟨rfl, rfl⟩
theorem zD (t : Tg) : PC Tryz.prog 270 [NY t] (fun r => r = bv t.uq) := by
 refine aC Tryz.func270 Tryz.ntmps270 ?_
 repeat' (first|refine aE ?_|refine aF ?_|fail)
 exact aD rfl ⟨rfl, rfl⟩
theorem xR (stk : List Tg) (c g : Int) (hl : stk.length ≤ 1000000) : PC Tryz.prog 267 [sl cC stk, .clos (.func 268) [] [.iptr [iv c, iv g]]] (fun r => r = iv (cE stk g)) := by
 refine aC Tryz.func267 Tryz.ntmps267 ?_
 repeat' (first|refine aE ?_|refine aF ?_|fail)
 refine aI (σ := Nat) [0, 1, 7] [] (fun k => [(8, iv (k : Int))]) (fun k => []) (fun k => k ≤ stk.length ∧ ∀ j, j < k → stk[j]!.id ≠ g) (fun k => stk.length - k) (0) ⟨by omega, by omega⟩ ?_
 rintro k ⟨hk, hall⟩
 by_cases hkn : k < stk.length
 ·have hcl := F2 stk[k]! c g
  repeat' (first|(apply aH;(apply fY;rfl;rfl;infer_instance;rfl;(apply hcl);(rfl);rfl))|refine aE ?_|refine aF ?_|(refine aK ?_ ?_ <;> intro hc hq <;> try (exfalso;omega))|fail)
  ·refine aD rfl ⟨?_, rfl⟩
   simp only [aN]; rw [wZ hkn (by assumption) hall]
  ·(refine bC (k + 1) (Le.renA []) ?_ ?_)
   ·refine ⟨by omega, fun j hj => ?_⟩
    by_cases e : j = k
    ·subst e;assumption
    ·exact hall j (by omega)
   ·omega
 ·repeat' (first | refine aE ?_ | refine aF ?_ | (refine aK ?_ ?_ <;> intro hc hq <;> try (exfalso; omega))|fail)
  refine aD rfl ⟨?_, rfl⟩
  have h2 : cE stk g < 0 := pL.2 (fun t ht => by obtain ⟨j, hj, rfl⟩ := List.getElem_of_mem ht;have := hall j (by omega);rwa [bB _ _ hj] at this)
  have hb := eJ stk g
  simp only [aN]; rw [show cE stk g = -1 by omega]
def qP (xs : List Tg) : Int := match xs.findIdx? (fun t => t.uq) with | some i => i | none => -1
theorem IG (stk : List Tg) (hl : stk.length ≤ 1000000) : PC Tryz.prog 267 [sl cC stk, .v (.func (.func 270) #[] #[])] (fun r => r = iv (qP stk)) := by
 refine aC Tryz.func267 Tryz.ntmps267 ?_
 repeat' (first|refine aE ?_|refine aF ?_|fail)
 refine aI (σ := Nat) [0, 1, 7] [] (fun k => [(8, iv (k : Int))]) (fun k => []) (fun k => k ≤ stk.length ∧ ∀ j, j < k → stk[j]!.uq = false) (fun k => stk.length - k) (0) ⟨by omega, by omega⟩ ?_
 rintro k ⟨hk, hall⟩
 by_cases hkn : k < stk.length
 ·have hcl := zD stk[k]!
  repeat' (first|(apply aH;(apply fY;rfl;rfl;infer_instance;rfl;(apply hcl);(rfl);rfl))|refine aE ?_|refine aF ?_|(refine aK ?_ ?_ <;> intro hc hq <;> try (exfalso;omega))|fail)
  ·refine aD rfl ⟨?_, rfl⟩
   have hu : stk[k]!.uq = true := by assumption
   have : stk.findIdx? (fun t => t.uq) = some k := by
    rw [List.findIdx?_eq_some_iff_getElem]
    refine ⟨hkn, by rw [← bB stk k hkn]; exact hu, fun j hj => ?_⟩
    have := hall j hj;rw [bB stk j (by omega)] at this;rw [this]; decide
   simp only [aN, qP, this]
  ·have hu : stk[k]!.uq = false := by assumption
   (refine bC (k + 1) (Le.renA []) ?_ ?_)
   ·refine ⟨by omega, fun j hj => ?_⟩
    by_cases e : j = k
    ·subst e;exact hu
    ·exact hall j (by omega)
   ·omega
 ·repeat' (first | refine aE ?_ | refine aF ?_ | (refine aK ?_ ?_ <;> intro hc hq <;> try (exfalso; omega))|fail)
  refine aD rfl ⟨?_, rfl⟩
  have : stk.findIdx? (fun t => t.uq) = none := by
   rw [List.findIdx?_eq_none_iff]
   intro x hx
   obtain ⟨j, hj, rfl⟩ := List.getElem_of_mem hx
   have := hall j (by omega);rw [bB stk j hj] at this;exact this
  simp only [aN, qP, this]
end Go.Proofs.YtahdccneecdmmaaGreat
