/-
 A part of the proofs over this program: rules and contracts of its functions (the contracts).
-/
import Derived.Test.YtahdccneecdmmaaGreatQ5B04
set_option linter.unusedVariables false
set_option linter.unusedSimpArgs false
set_option maxHeartbeats 8000000
set_option maxRecDepth 4000
attribute [local irreducible] Go.AL.RW Go.AL.AW Go.AL.Stop
namespace Go.Proofs.YtahdccneecdmmaaGreat
open Go.AL Go.RowKit
theorem JW (m : List Cl) (hm : OkM m) (j k : Nat) (t : Int) (r : List Tg) (hj : j < m.length) (hkk : cV m[j]!.stk t = (k : Int)) (hk : bJ m ⟨(j : Int), t⟩ false = 0) (hr : r = jZ m[j]!.stk k false) : PC Tryz.prog 200 [sl cY m, .agg [iv (j : Int), iv t], bv false] (fun z => z = .tup [sl cY (oD m m j false r), HF (rK m j r), iv (pJ m j r)]) := by
 have hml := hm.l
 obtain ⟨h1, h2, h3, h4, hu⟩ := iR hk
 have hc := ((iQ m).1 hm).2 j hj
 have hb := iL m[j]!.stk t
 have hrl : r.length ≤ 200 := by rw [hr]; exact Nat.le_trans tchS_sub.length_le hc.l.2
 have hnx := hc.n
 obtain ⟨_, e2, _⟩ := AT hk (r := r) (by rw [hr]; show _ = jZ m[j]!.stk (cV m[j]!.stk t).toNat false;rw [hkk]; rfl)
 have e2' : vD m ⟨(j : Int), t⟩ false = oD m m j false r := e2
 have hok := hm.ln ⟨(j : Int), t⟩ false
 rw [e2'] at hok
 have hto := BE m j t r k m.length hm rfl hj hkk h3 hr
 have hog := iM (m := m) (j := j) (X := .own (0 + 1 + 1 + 3 + 3) 0 r.length 2) hj
 have hol := dH (m := m) (j := j) (X := .own (0 + 1 + 1 + 3 + 3) 0 r.length 2)
 have hol2 := dH (m := m) (j := j) (X := .own (0 + 1 + 1 + 3 + 4 + 1) 0 (r.length + 1) 2)
 have hm2 : (m.set j { m[j]! with next := m[j]!.next + 1 }).length = m.length := List.length_set
 refine aB Tryz.func200 Tryz.ntmps200 ?_
 repeat' (first|(apply aI;first|(apply pK (j := j);rfl;exact tJ m j hm hj;rfl;rfl)|(apply vW (m := m) (j := j) (t := t) (r := r) (n := m.length);rfl;rfl;rfl;rfl;rfl;rfl;exact hto;rfl;rfl)|(with_reducible apply a7 (d := 32)))|refine aD ?_|refine aE ?_|fail)
 refine cK ?_
 rw [hog]
 dsimp only
 by_cases hf : s8 m j r
 ·have eM : oD m m j false r = m := by unfold oD; rw [if_pos hf]
  have eP : rK m j r = ⟨0, 0⟩ := by unfold rK;rw [if_pos hf]
  have eK : pJ m j r = 4 := by unfold pJ;rw [if_pos hf]
  rw [eM, eP, eK]
  unfold s8 at hf
  repeat' (first|(apply aI;first|(apply gQ;rfl;exact j4 m hm;rfl;rfl)|(with_reducible apply a7 (d := 44)))|refine aD ?_|refine aE ?_|(refine aM ?_ ?_ <;> intro hc hq <;> try (exfalso;omega))|(refine bU ?_ ?_ <;> intro hg hq <;> try (exfalso;omega))|fail)
  ·refine aV (Le.frzD (d := 6) (i := 10) rfl rfl) ?_
   exact aF (l := [sl cY m, .agg [iv 0, iv 0], iv 4]) rfl ⟨rfl, by exact Pur.pf⟩
  ·exfalso
   have h : ¬ (dR m j (.own (0 + 1 + 1 + 3 + 3) 0 r.length 2))[j]!.next = 1000 := by assumption
   rw [hog] at h
   dsimp only at h
   omega
  ·refine aV (Le.frzD (d := 6) (i := 10) rfl rfl) ?_
   exact aF (l := [sl cY m, .agg [iv 0, iv 0], iv 4]) rfl ⟨rfl, by exact Pur.pf⟩
 ·have eM : oD m m j false r = m.set j (psh { m[j]! with stk := r } false) := by unfold oD; rw [if_neg hf]
  have eP : rK m j r = ⟨j, m[j]!.next⟩ := by unfold rK;rw [if_neg hf]
  have eK : pJ m j r = 0 := by unfold pJ;rw [if_neg hf]
  rw [eM] at hok
  rw [eM, eP, eK]
  unfold s8 at hf
  have hown := j4 _ hok
  repeat' (first|(apply aI;first|(with_reducible apply a7 (d := 41))|(with_reducible apply a7 (d := 54)))|refine aD ?_|refine aE ?_|(refine aM ?_ ?_ <;> intro hc hq <;> try (exfalso;omega))|(refine bU ?_ ?_ <;> intro hg hq <;> try (exfalso;omega))|fail)
  ·exfalso
   have h : (dR m j (.own (0 + 1 + 1 + 3 + 3) 0 r.length 2))[j]!.next = 1000 := by assumption
   rw [hog] at h
   dsimp only at h
   omega
  ·refine cK ?_
   rw [hog]
   dsimp only
   repeat' (first|(apply aI;first|(apply bT;rfl;rfl;rfl;rfl;rfl;(rw [aL, dH]; simp only [List.length_append, List.length_cons, List.length_nil]; omega);(first|exact xH hj|exact D6 hj))|(apply cP;rfl;rfl;rfl;rfl;rfl;(rw [aL]; omega);(rfl);omega;omega;(exact HV (by (omega)));rfl;rfl)|(apply aO (t := _);rfl;rfl;rfl;(exact (rfl:_=some [_, _]));rfl;rfl))|refine aD ?_|refine aE ?_|fail)
   refine AW.le ?_ (Le.cls (o := 3) (q := 0 + 1 + 1 + 3 + 4 + 1) (j := j) (k := r.length + 1) (m := m.set j { m[j]! with next := m[j]!.next + 1 }) (r := r ++ [⟨m[j]!.next, false⟩]) rfl rfl (by (rw [List.length_append]; rfl)) (by omega) (by decide))
   refine AW.le ?_ (Le.frzD (d := 9) (i := 3) rfl rfl)
   have e : (m.set j { m[j]! with next := m[j]!.next + 1 }).set j { (m.set j { m[j]! with next := m[j]!.next + 1 })[j]! with stk := r ++ [⟨m[j]!.next, false⟩] } = m.set j (psh { m[j]! with stk := r } false) := by
    rw [sH hj, set_set]; rfl
   rw [e, nR (f := cY) (xs := m.set j (psh { m[j]! with stk := r } false)) (by rw [List.length_set])]
   repeat' (first|(apply aI;(apply gQ;rfl;exact hown;rfl;rfl))|refine aD ?_|refine aE ?_|refine b0 ?_|fail)
   refine aV (Le.frzD (d := 6) (i := 12) rfl rfl) ?_
   exact aF (l := [sl cY (m.set j (psh { m[j]! with stk := r } false)), .agg [iv (j : Int), iv m[j]!.next], iv 0]) rfl ⟨rfl, by exact Pur.pf⟩
  all_goals (exfalso;omega)
theorem J2 (m : List Cl) (hm : OkM m) (j k : Nat) (t : Int) (r : List Tg) (hj : j < m.length) (hkk : cV m[j]!.stk t = (k : Int)) (hk : bJ m ⟨(j : Int), t⟩ true = 0) (hr : r = jZ m[j]!.stk k true) : PC Tryz.prog 200 [sl cY m, .agg [iv (j : Int), iv t], bv true] (fun z => z = .tup [sl cY (oD m m j true r), HF (rK m j r), iv (pJ m j r)]) := by
 have hml := hm.l
 obtain ⟨h1, h2, h3, h4, hu⟩ := iR hk
 have hc := ((iQ m).1 hm).2 j hj
 have hb := iL m[j]!.stk t
 have hrl : r.length ≤ 200 := by rw [hr]; exact Nat.le_trans tchS_sub.length_le hc.l.2
 have hnx := hc.n
 obtain ⟨_, e2, _⟩ := AT hk (r := r) (by rw [hr]; show _ = jZ m[j]!.stk (cV m[j]!.stk t).toNat true;rw [hkk]; rfl)
 have e2' : vD m ⟨(j : Int), t⟩ true = oD m m j true r := e2
 have hok := hm.ln ⟨(j : Int), t⟩ true
 rw [e2'] at hok
 have huk : m[j]!.stk[k]!.uq = true := by
  have h : m[j]!.stk[(cV m[j]!.stk t).toNat]!.uq = true := hu rfl
  rwa [hkk, Int.toNat_natCast] at h
 have hre : m[j]!.stk.take (k + 1) = r := by rw [hr]; unfold jZ;rw [if_pos rfl]
 have hrk : k + 1 = r.length := by rw [← hre, List.length_take]; omega
 have hto := IG m j t r k m.length hm rfl hj hkk h3 huk hre hrk
 clear hre hrk huk hu hr hkk
 have hog := iM (m := m) (j := j) (X := .own (0 + 1 + 1 + 2) 0 r.length 2) hj
 have hol := dH (m := m) (j := j) (X := .own (0 + 1 + 1 + 2) 0 r.length 2)
 have hol2 := dH (m := m) (j := j) (X := .own (0 + 1 + 1 + 3 + 0 + 1) 0 (r.length + 1) 2)
 have hm2 : (m.set j { m[j]! with next := m[j]!.next + 1 }).length = m.length := List.length_set
 refine aB Tryz.func200 Tryz.ntmps200 ?_
 repeat' (first|(apply aI;first|(apply pK (j := j);rfl;exact tJ m j hm hj;rfl;rfl)|(apply FT (m := m) (j := j) (t := t) (r := r) (n := m.length);rfl;rfl;rfl;rfl;rfl;rfl;exact hto;rfl;rfl)|(with_reducible apply a7 (d := 32)))|refine aD ?_|refine aE ?_|fail)
 refine cK ?_
 rw [hog]
 dsimp only
 by_cases hf : s8 m j r
 ·have eM : oD m m j true r = m := by unfold oD; rw [if_pos hf]
  have eP : rK m j r = ⟨0, 0⟩ := by unfold rK;rw [if_pos hf]
  have eK : pJ m j r = 4 := by unfold pJ;rw [if_pos hf]
  rw [eM, eP, eK]
  unfold s8 at hf
  repeat' (first|(apply aI;first|(apply gQ;rfl;exact j4 m hm;rfl;rfl)|(with_reducible apply a7 (d := 44)))|refine aD ?_|refine aE ?_|(refine aM ?_ ?_ <;> intro hc hq <;> try (exfalso;omega))|(refine bU ?_ ?_ <;> intro hg hq <;> try (exfalso;omega))|fail)
  ·refine aV (Le.frzD (d := 6) (i := 6) rfl rfl) ?_
   exact aF (l := [sl cY m, .agg [iv 0, iv 0], iv 4]) rfl ⟨rfl, by exact Pur.pf⟩
  ·exfalso
   have h : ¬ (dR m j (.own (0 + 1 + 1 + 2) 0 r.length 2))[j]!.next = 1000 := by assumption
   rw [hog] at h
   dsimp only at h
   omega
  ·refine aV (Le.frzD (d := 6) (i := 6) rfl rfl) ?_
   exact aF (l := [sl cY m, .agg [iv 0, iv 0], iv 4]) rfl ⟨rfl, by exact Pur.pf⟩
 ·have eM : oD m m j true r = m.set j (psh { m[j]! with stk := r } true) := by unfold oD; rw [if_neg hf]
  have eP : rK m j r = ⟨j, m[j]!.next⟩ := by unfold rK;rw [if_neg hf]
  have eK : pJ m j r = 0 := by unfold pJ;rw [if_neg hf]
  rw [eM] at hok
  rw [eM, eP, eK]
  unfold s8 at hf
  have hown := j4 _ hok
  repeat' (first|(apply aI;first|(with_reducible apply a7 (d := 41))|(with_reducible apply a7 (d := 54)))|refine aD ?_|refine aE ?_|(refine aM ?_ ?_ <;> intro hc hq <;> try (exfalso;omega))|(refine bU ?_ ?_ <;> intro hg hq <;> try (exfalso;omega))|fail)
  ·exfalso
   have h : (dR m j (.own (0 + 1 + 1 + 2) 0 r.length 2))[j]!.next = 1000 := by assumption
   rw [hog] at h
   dsimp only at h
   omega
  ·refine cK ?_
   rw [hog]
   dsimp only
   repeat' (first|(apply aI;first|(apply bT;rfl;rfl;rfl;rfl;rfl;(rw [aL, dH]; simp only [List.length_append, List.length_cons, List.length_nil]; omega);(first|exact xH hj|exact D6 hj))|(apply cP;rfl;rfl;rfl;rfl;rfl;(rw [aL]; omega);(rfl);omega;omega;(exact HV (by (omega)));rfl;rfl)|(apply aO (t := _);rfl;rfl;rfl;(exact (rfl:_=some [_, _]));rfl;rfl))|refine aD ?_|refine aE ?_|fail)
   refine AW.le ?_ (Le.cls (o := 3) (q := 0 + 1 + 1 + 3 + 0 + 1) (j := j) (k := r.length + 1) (m := m.set j { m[j]! with next := m[j]!.next + 1 }) (r := r ++ [⟨m[j]!.next, true⟩]) rfl rfl (by (rw [List.length_append]; rfl)) (by omega) (by decide))
   refine AW.le ?_ (Le.frzD (d := 9) (i := 3) rfl rfl)
   have e : (m.set j { m[j]! with next := m[j]!.next + 1 }).set j { (m.set j { m[j]! with next := m[j]!.next + 1 })[j]! with stk := r ++ [⟨m[j]!.next, true⟩] } = m.set j (psh { m[j]! with stk := r } true) := by
    rw [sH hj, set_set]; rfl
   rw [e, nR (f := cY) (xs := m.set j (psh { m[j]! with stk := r } true)) (by rw [List.length_set])]
   repeat' (first|(apply aI;(apply gQ;rfl;exact hown;rfl;rfl))|refine aD ?_|refine aE ?_|refine b0 ?_|fail)
   refine aV (Le.frzD (d := 6) (i := 8) rfl rfl) ?_
   exact aF (l := [sl cY (m.set j (psh { m[j]! with stk := r } true)), .agg [iv (j : Int), iv m[j]!.next], iv 0]) rfl ⟨rfl, by exact Pur.pf⟩
  all_goals (exfalso;omega)
theorem Lg (m : List Cl) (hm : OkM m) (x : Pt) (u : Bool) : PC Tryz.prog 200 [sl cY m, HF x, bv u] (fun r => r = .tup [sl cY (vD m x u), HF (Gw m x u), iv (zP m x u)]) := by
 have hml := hm.l
 by_cases hk : bJ m x u = 0
 ·obtain ⟨c, t⟩ := x
  obtain ⟨h1, h2, h3, h4, hu⟩ := iR hk
  obtain ⟨j, rfl⟩ := Int.eq_ofNat_of_zero_le (show 0 ≤ c from h1)
  have hj : j < m.length := by have : (j : Int) < m.length := h2;omega
  obtain ⟨k, hkk⟩ := Int.eq_ofNat_of_zero_le (show 0 ≤ cV m[j]!.stk t from h4)
  obtain ⟨r, hr⟩ : ∃ r, r = jZ m[j]!.stk k u := ⟨_, rfl⟩
  obtain ⟨e1, e2, e3⟩ := AT hk (r := r) (by rw [hr]; show _ = jZ m[j]!.stk (cV m[j]!.stk t).toNat u;rw [hkk]; rfl)
  rw [e1, e2, e3]
  cases u
  ·exact JW m hm j k t r hj hkk hk hr
  ·exact J2 m hm j k t r hj hkk hk hr
 ·obtain ⟨e1, e2, e3⟩ := Oj hk
  rw [e1, e2, e3]
  refine aB Tryz.func200 Tryz.ntmps200 ?_
  repeat' (first|(apply aI;first|(apply gQ;rfl;exact j4 m hm;rfl;rfl)|(apply nI (m := m) (x := x) (wr := u) (n := m.length);rfl;rfl;rfl;rfl;exact pI m x u _ hm rfl hk;rfl;rfl))|refine aD ?_|refine aE ?_|(refine aM ?_ ?_ <;> intro hc hq <;> try (exfalso;omega))|fail)
  refine aV (Le.frzD (d := 6) (i := 3) rfl rfl) ?_
  exact aF (l := [sl cY m, .agg [iv 0, iv 0], iv (bJ m x u)]) rfl ⟨rfl, by exact Pur.pf⟩
abbrev mO (ts : List Int) (bd : List AL.Stmt) (pts : List Pnt) (i1 i2 : Nat) (s : Mc) : List AV := [aG ts bd pts, .own i1 0 ts.length 4, sl cY s.cells, .own i2 0 s.read.length 1]
theorem AK {ts : List Int} {bd : List AL.Stmt} {pts : List Pnt} {s : Mc} {v : Nat} {N : Nat} {Q : Exit → AS → Prop} {all : Array Oper} {rest : List Oper} {tsl : List (Nat × AV)} {hsl : List (Nat × Option (List AV))} {nidl : Nat} {z0 : Lo} {md : Md} {d : Nat} {ty : TypeId} {pos : String} {af : Array Edge} {tys : Array TypeId} {x0 x1 : Operand} {i0 i1 i2 : Nat} (ha0 : ev (lk tsl) x0 = some (.optr i0 0)) (ha1 : ev (lk tsl) x1 = some (iv (v : Int))) (hH0 : aS hsl i0 = some (mO ts bd pts i1 i2 s)) (hH1 : aS hsl i1 = some (flat eE s.slots)) (hH2 : aS hsl i2 = some (flat cI s.read)) (hdd : Go.AL.distinct [i0, i1, i2] = true) (hmc : MC Tryz.prog 204 [.optr 0 0, iv (v : Int)] [(0, some (mO ts bd pts 1 2 s)), (1, some (flat eE s.slots)), (2, some (flat cI s.read))] 3 (fun _ : Unit => True) (fun _ => iv (nN (bJ s.cells s.slots[v]!.ptr true))) (fun _ => [(0, some ([aG ts bd pts, .own 1 0 ts.length 4, sl cY (kQ s.cells s.slots[v]!.ptr), .own 2 0 s.read.length 1])), (1, some (flat eE s.slots)), (2, some (flat cI s.read))])) (hM : Nat.ble (nidl + 0) aY = true) (hN : Nat.blt d N = true) {md' : Md} [hmd : MdA md (fK [x0, x1] ++ [.inr i0, .inr i1, .inr i2]) (List.map Sum.inr (List.map Prod.fst ([(i0, some ([aG ts bd pts, .own i1 0 ts.length 4, sl cY (kQ s.cells s.slots[v]!.ptr), .own i2 0 s.read.length 1])), (i1, some (flat eE s.slots)), (i2, some (flat cI s.read))] : List (Nat × Option (List AV)))) ++ [.inl d]) md'] (kk : RW Tryz.prog N all Q md' rest ⟨(d, iv (nN (bJ s.cells s.slots[v]!.ptr true))) :: tsl, gR hsl [(i0, some ([aG ts bd pts, .own i1 0 ts.length 4, sl cY (kQ s.cells s.slots[v]!.ptr), .own i2 0 s.read.length 1])), (i1, some (flat eE s.slots)), (i2, some (flat cI s.read))], nidl + 0, z0⟩) : RW Tryz.prog N all Q md (⟨some d, .call ⟨.value (.func 204), #[x0, x1], tys⟩, ty, pos, af, none⟩ :: rest) ⟨tsl, hsl, nidl, z0⟩ := by
 refine a6 [i0, i1, i2] 3 [(i0, some ([aG ts bd pts, .own i1 0 ts.length 4, sl cY (kQ s.cells s.slots[v]!.ptr), .own i2 0 s.read.length 1])), (i1, some (flat eE s.slots)), (i2, some (flat cI s.read))] hmc (avs := [.optr i0 0, iv (v : Int)]) ?_ hdd ?_ rfl ?_ (by simpa using hM) ?_ ?_ ?_ hN (md' := md') (hmd := hmd) kk
 ·show evL (lk tsl) [x0, x1] = _
  simp only [evL, ha0, ha1]
 ·exact ⟨⟨_, _, rfl, hH0, by (repeat' (first|exact RnL.purI inferInstance|exact RnV.purI inferInstance|exact RnV.own rfl|refine RnL.cons ?_ ?_))⟩, ⟨⟨_, _, rfl, hH1, by (repeat' (exact RnL.purI inferInstance))⟩, ⟨⟨_, _, rfl, hH2, by (repeat' (exact RnL.purI inferInstance))⟩, trivial⟩⟩⟩
 ·(repeat' (first|exact RnL.purI inferInstance|exact RnV.optr rfl|refine RnL.cons ?_ ?_))
 ·(repeat' (exact RnV.purI inferInstance))
 ·simp [cA]
 ·(repeat' (first|exact trivial|(refine And.intro ⟨0, _, rfl, rfl, ?_⟩ ?_)|(refine And.intro ⟨1, _, rfl, rfl, ?_⟩ ?_)|(refine And.intro ⟨2, _, rfl, rfl, ?_⟩ ?_)|exact RnL.purI inferInstance|exact RnV.purI inferInstance|exact RnV.own rfl|refine RnL.cons ?_ ?_))
theorem xU (ts : List Int) (bd : List AL.Stmt) (pts : List Pnt) (s : Mc) (v : Nat) (hm : OkM s.cells) (hsl : s.slots.length = ts.length) (hv : v < ts.length) : MC Tryz.prog 204 [.optr 0 0, iv (v : Int)] [(0, some (mO ts bd pts 1 2 s)), (1, some (flat eE s.slots)), (2, some (flat cI s.read))] 3 (fun _ : Unit => True) (fun _ => iv (nN (bJ s.cells s.slots[v]!.ptr true))) (fun _ => [(0, some ([aG ts bd pts, .own 1 0 ts.length 4, sl cY (kQ s.cells s.slots[v]!.ptr), .own 2 0 s.read.length 1])), (1, some (flat eE s.slots)), (2, some (flat cI s.read))]) := by
 have hfc := z8 s.cells hm s.slots[v]!.ptr
 refine aX Tryz.func204 Tryz.ntmps204 ?_
 repeat' (first|(apply aI;first|(apply iU;(case hx|hH => rfl);(case hf|hg|hα => infer_instance);(case hk => omega);(case hj => decide);(case hc => exact (rfl:_=[_, _]));(case h0|hN => rfl))|(apply aA (k := 243);rfl;exact hfc;exact Pur.pf;rfl)|(apply aA (k := 201);rfl;(apply rQ);(rfl);rfl))|refine aD ?_|refine aE ?_|(refine aM ?_ ?_ <;> intro hc hq <;> try (exfalso;omega))|refine b0 ?_|fail)
 ·have hk : ¬ bJ s.cells s.slots[v]!.ptr true = 0 := by assumption
  (refine aF rfl ?_; refine aU () trivial ?_ ⟨.inr (Eq.trans (b := some _) rfl ?_), ⟨.inr (Eq.trans (b := some _) rfl ?_), ⟨.inr (Eq.trans (b := some _) rfl ?_), trivial⟩⟩⟩)
  ·show iv (iP _) = iv (nN _)
   unfold nN;rw [if_neg hk]
  ·rfl
  ·rfl
  ·rfl
 ·have hk : bJ s.cells s.slots[v]!.ptr true = 0 := by assumption
  (refine aF rfl ?_; refine aU () trivial ?_ ⟨.inr (Eq.trans (b := some _) rfl ?_), ⟨.inr (Eq.trans (b := some _) rfl ?_), ⟨.inr (Eq.trans (b := some _) rfl ?_), trivial⟩⟩⟩)
  ·rw [hk]; rfl
  ·rfl
  ·rfl
  ·rfl
theorem Mq (ts : List Int) (bd : List AL.Stmt) (pts : List Pnt) (s : Mc) (v : Nat) (y : Sl) (hm : OkM s.cells) (hsl : s.slots.length = ts.length) (hv : v < ts.length) : MC Tryz.prog 197 [.optr 0 0, iv (v : Int), Ox y] [(0, some (mO ts bd pts 1 2 s)), (1, some (flat eE s.slots)), (2, some (flat cI s.read))] 3 (fun _ : Unit => True) (fun _ => iv (cJ ts s v y).2) (fun _ => [(0, some (mO ts bd pts 1 2 (cJ ts s v y).1)), (1, some (flat eE (cJ ts s v y).1.slots)), (2, some (flat cI (cJ ts s v y).1.read))]) := by
 have hfr := xU ts bd pts s v hm hsl hv
 refine aX Tryz.func197 Tryz.ntmps197 ?_
 repeat' (first|(apply aI;first|(apply AK (ts := ts) (bd := bd) (pts := pts) (s := s) (v := v);rfl;rfl;rfl;rfl;rfl;rfl;exact hfr;rfl;rfl)|(apply bT;rfl;rfl;rfl;rfl;rfl;(rw [aL]; simp only [hU] <;> omega);(exact DT (by (omega)))))|refine aD ?_|refine aE ?_|(refine aM ?_ ?_ <;> intro hc hq <;> try (exfalso;omega))|(refine bU ?_ ?_ <;> intro hg hq <;> try (exfalso;omega))|refine b0 ?_|fail)
 ·have hp : cJ ts s v y = (⟨s.slots.set v y, kQ s.cells s.slots[v]!.ptr, s.read⟩, nN (bJ s.cells s.slots[v]!.ptr true)) := if_pos ⟨by assumption, by assumption⟩
  rw [hp]
  (refine aF rfl ?_; refine aU () trivial ?_ ⟨.inr (Eq.trans (b := some _) rfl ?_), ⟨.inr (Eq.trans (b := some _) rfl ?_), ⟨.inr (Eq.trans (b := some _) rfl ?_), trivial⟩⟩⟩)
  ·rfl
  ·rfl
  ·rfl
  ·rfl
 all_goals (
  have hp : cJ ts s v y = (⟨s.slots.set v y, s.cells, s.read⟩, -1) := if_neg (by
   rintro ⟨q1, q2⟩
   first|(exact (by assumption : ¬ ts[v]! = 2) q1)|(rw [(by assumption : s.slots[v]!.set = false)] at q2;exact absurd q2 (by decide)))
  rw [hp]
  (refine aF rfl ?_; refine aU () trivial ?_ ⟨.inr (Eq.trans (b := some _) rfl ?_), ⟨.inr (Eq.trans (b := some _) rfl ?_), ⟨.inr (Eq.trans (b := some _) rfl ?_), trivial⟩⟩⟩)
  ·rfl
  ·rfl
  ·rfl
  ·rfl)
theorem Lf {ts : List Int} {bd : List AL.Stmt} {pts : List Pnt} {s : Mc} {N : Nat} {Q : Exit → AS → Prop} {all : Array Oper} {rest : List Oper} {tsl : List (Nat × AV)} {hsl : List (Nat × Option (List AV))} {nidl : Nat} {z0 : Lo} {md : Md} {d : Nat} {ty : TypeId} {pos : String} {af : Array Edge} {tys : Array TypeId} {x0 : Operand} {i0 i1 i2 : Nat} (ha0 : ev (lk tsl) x0 = some (.optr i0 0)) (hH0 : aS hsl i0 = some (mO ts bd pts i1 i2 s)) (hH1 : aS hsl i1 = some (flat eE s.slots)) (hH2 : aS hsl i2 = some (flat cI s.read)) (hdd : Go.AL.distinct [i0, i1, i2] = true) (hmc : MC Tryz.prog 205 [.optr 0 0] [(0, some (mO ts bd pts 1 2 s)), (1, some (flat eE s.slots)), (2, some (flat cI s.read))] 3 (fun _ : Unit => True) (fun _ => iv (cM ts ts.length 0 s).2) (fun _ => [(0, some (mO ts bd pts 1 2 (cM ts ts.length 0 s).1)), (1, some (flat eE (cM ts ts.length 0 s).1.slots)), (2, some (flat cI (cM ts ts.length 0 s).1.read))])) (hM : Nat.ble (nidl + 0) aY = true) (hN : Nat.blt d N = true) {md' : Md} [hmd : MdA md (fK [x0] ++ [.inr i0, .inr i1, .inr i2]) (List.map Sum.inr (List.map Prod.fst ([(i0, some (mO ts bd pts i1 i2 (cM ts ts.length 0 s).1)), (i1, some (flat eE (cM ts ts.length 0 s).1.slots)), (i2, some (flat cI (cM ts ts.length 0 s).1.read))] : List (Nat × Option (List AV)))) ++ [.inl d]) md'] (kk : RW Tryz.prog N all Q md' rest ⟨(d, iv (cM ts ts.length 0 s).2) :: tsl, gR hsl [(i0, some (mO ts bd pts i1 i2 (cM ts ts.length 0 s).1)), (i1, some (flat eE (cM ts ts.length 0 s).1.slots)), (i2, some (flat cI (cM ts ts.length 0 s).1.read))], nidl + 0, z0⟩) : RW Tryz.prog N all Q md (⟨some d, .call ⟨.value (.func 205), #[x0], tys⟩, ty, pos, af, none⟩ :: rest) ⟨tsl, hsl, nidl, z0⟩ := by
 refine a6 [i0, i1, i2] 3 [(i0, some (mO ts bd pts i1 i2 (cM ts ts.length 0 s).1)), (i1, some (flat eE (cM ts ts.length 0 s).1.slots)), (i2, some (flat cI (cM ts ts.length 0 s).1.read))] hmc (avs := [.optr i0 0]) ?_ hdd ?_ rfl ?_ (by simpa using hM) ?_ ?_ ?_ hN (md' := md') (hmd := hmd) kk
 ·show evL (lk tsl) [x0] = _
  simp only [evL, ha0]
 ·exact ⟨⟨_, _, rfl, hH0, by (repeat' (first|exact RnL.purI inferInstance|exact RnV.purI inferInstance|exact RnV.own rfl|refine RnL.cons ?_ ?_))⟩, ⟨⟨_, _, rfl, hH1, by (repeat' (exact RnL.purI inferInstance))⟩, ⟨⟨_, _, rfl, hH2, by (repeat' (exact RnL.purI inferInstance))⟩, trivial⟩⟩⟩
 ·(repeat' (first|exact RnL.purI inferInstance|exact RnV.optr rfl|refine RnL.cons ?_ ?_))
 ·(repeat' (exact RnV.purI inferInstance))
 ·simp [cA]
 ·(repeat' (first|exact trivial|(refine And.intro ⟨0, _, rfl, rfl, ?_⟩ ?_)|(refine And.intro ⟨1, _, rfl, rfl, ?_⟩ ?_)|(refine And.intro ⟨2, _, rfl, rfl, ?_⟩ ?_)|exact RnL.purI inferInstance|exact RnV.purI inferInstance|exact RnV.own rfl|refine RnL.cons ?_ ?_))
theorem No (ts : List Int) (bd : List AL.Stmt) (pts : List Pnt) (s : Mc) (hm : OkM s.cells) (hsl : s.slots.length = ts.length) (hl : ts.length ≤ 1000000) : MC Tryz.prog 205 [.optr 0 0] [(0, some (mO ts bd pts 1 2 s)), (1, some (flat eE s.slots)), (2, some (flat cI s.read))] 3 (fun _ : Unit => True) (fun _ => iv (cM ts ts.length 0 s).2) (fun _ => [(0, some (mO ts bd pts 1 2 (cM ts ts.length 0 s).1)), (1, some (flat eE (cM ts ts.length 0 s).1.slots)), (2, some (flat cI (cM ts ts.length 0 s).1.read))]) := by
 refine aX Tryz.func205 Tryz.ntmps205 ?_
 repeat' (first|refine aD ?_|refine aE ?_|fail)
 refine aK (σ := Nat × Mc) [0, 13, 14] [] (fun k => [(15, iv (k.1 : Int))]) (fun k => [(0, some (mO ts bd pts 1 2 k.2)), (1, some (flat eE k.2.slots)), (2, some (flat cI k.2.read))]) (fun k => k.1 ≤ ts.length ∧ cM ts (ts.length - k.1) k.1 k.2 = cM ts ts.length 0 s ∧ OkM k.2.cells ∧ k.2.slots.length = ts.length) (fun k => ts.length - k.1) (0, s) ⟨Nat.zero_le _, rfl, hm, hsl⟩ ?_
 rintro ⟨v, q⟩ ⟨hv, hf, hmq, hlq⟩
 dsimp only at hv hf hmq hlq ⊢
 by_cases hvn : v < ts.length
 ·have hfr := xU ts bd pts q v hmq hlq hvn
  repeat' (first|(apply aI;first|(apply AK (ts := ts) (bd := bd) (pts := pts) (s := q) (v := v);rfl;rfl;rfl;rfl;rfl;rfl;exact hfr;rfl;rfl)|(apply bT;rfl;rfl;rfl;rfl;rfl;(rw [aL]; simp only [hU] <;> omega);(exact DT (by (omega)))))|refine aD ?_|refine aE ?_|(refine aM ?_ ?_ <;> intro hc hq <;> try (exfalso;omega))|(refine bU ?_ ?_ <;> intro hg hq <;> try (exfalso;omega))|fail)
  ·(refine bH (v + 1, q) (Le.renA []) ?_ ?_)
   ·refine ⟨by omega, ?_, hmq, hlq⟩
    dsimp only
    rw [← hf, show ts.length - v = (ts.length - (v + 1)) + 1 by omega, IC (fun h => by
     have h2 : q.slots[v]!.set = false := by assumption
     rw [h2] at h;exact absurd h.2 (by decide))]
   ·dsimp only;omega
  ·have hk : ¬ bJ q.cells q.slots[v]!.ptr true = 0 := fun h => by
    have h2 : ¬ nN (bJ q.cells q.slots[v]!.ptr true) = -1 := by assumption
    rw [h] at h2;exact h2 rfl
   have hq2 : cM ts ts.length 0 s = (⟨q.slots, kQ q.cells q.slots[v]!.ptr, q.read⟩, iP (bJ q.cells q.slots[v]!.ptr true)) := by
    rw [← hf, show ts.length - v = (ts.length - (v + 1)) + 1 by omega, NL ⟨by assumption, by assumption⟩ hk]
   rw [hq2]
   (refine aF rfl ?_; refine aU () trivial ?_ ⟨.inr (Eq.trans (b := some _) rfl ?_), ⟨.inr (Eq.trans (b := some _) rfl ?_), ⟨.inr (Eq.trans (b := some _) rfl ?_), trivial⟩⟩⟩)
   ·show iv (nN _) = iv (iP _)
    unfold nN;rw [if_neg hk]
   ·rfl
   ·rfl
   ·rfl
  ·have hk : bJ q.cells q.slots[v]!.ptr true = 0 := by
    have h2 : nN (bJ q.cells q.slots[v]!.ptr true) = -1 := by assumption
    unfold nN at h2
    by_cases h : bJ q.cells q.slots[v]!.ptr true = 0
    ·exact h
    ·rw [if_neg h] at h2;unfold iP at h2;split at h2 <;> cases h2
   have hls : (q.slots.set v lQ).length = q.slots.length := List.length_set
   (refine bH (v + 1, ⟨q.slots.set v lQ, kQ q.cells q.slots[v]!.ptr, q.read⟩) (Le.renA []) ?_ ?_)
   ·refine ⟨by dsimp only; omega, ?_, hmq.fr _, by show (q.slots.set v lQ).length = _; rw [List.length_set]; exact hlq⟩
    dsimp only
    rw [← hf, show ts.length - v = (ts.length - (v + 1)) + 1 by omega, NG ⟨by assumption, by assumption⟩ hk]
   ·dsimp only;omega
  ·(refine bH (v + 1, q) (Le.renA []) ?_ ?_)
   ·refine ⟨by omega, ?_, hmq, hlq⟩
    dsimp only
    rw [← hf, show ts.length - v = (ts.length - (v + 1)) + 1 by omega, IC (fun h => by
     have h2 : ¬ ts[v]! = 2 := by assumption
     exact h2 h.1)]
   ·dsimp only;omega
 ·have hve : v = ts.length := by omega
  have hq2 : cM ts ts.length 0 s = (q, 0) := by rw [← hf, hve, Nat.sub_self]; rfl
  repeat' (first|refine aD ?_|refine aE ?_|(refine aM ?_ ?_ <;> intro hc hq <;> try (exfalso;omega))|fail)
  rw [hq2]
  (refine aF rfl ?_; refine aU () trivial ?_ ⟨.inr (Eq.trans (b := some _) rfl ?_), ⟨.inr (Eq.trans (b := some _) rfl ?_), ⟨.inr (Eq.trans (b := some _) rfl ?_), trivial⟩⟩⟩)
  ·rfl
  ·rfl
  ·rfl
  ·rfl
def dM (ts : List Int) (s : Mc) (x : Pnt) : Mc × Int := if bV ts s x = true then (s, 2) else cD ts s x
theorem vI {ts : List Int} {s : Mc} {x : Pnt} (h : bV ts s x = true) : dM ts s x = (s, 2) := if_pos h
theorem rM {ts : List Int} {s : Mc} {x : Pnt} (h : bV ts s x = false) : dM ts s x = cD ts s x := if_neg (by rw [h]; decide)
theorem gV {ts : List Int} {x : Pnt} {v : Int} (h : v ∈ a8 (wS ts x [1, 2, 3])) : 0 ≤ v ∧ v < ts.length := by
 obtain ⟨v', h3, h4, rfl⟩ := b9.1 h
 rw [cE, Bool.and_eq_true, decide_eq_true_eq] at h4
 omega
theorem cH {ts : List Int} {s : Mc} {x : Pnt} (htl : ts.length ≤ 6) : bV ts s x = true ↔ ∃ v ∈ a8 (wS ts x [1, 2, 3]), s.slots[v.toNat]!.set = false := by
 constructor
 ·intro h
  obtain ⟨v, hv, hne, hs⟩ := IS h
  refine ⟨(v : Int), b9.2 ⟨v, by omega, ?_, rfl⟩, hs⟩
  have hb := oX ts x v
  rw [cE, decide_eq_true hv, Bool.true_and, decide_eq_true_eq]
  simp only [List.mem_cons, List.not_mem_nil, or_false]; omega
 ·rintro ⟨v, hv, hs⟩
  obtain ⟨v', h3, h4, rfl⟩ := b9.1 hv
  rw [cE, Bool.and_eq_true, decide_eq_true_eq, decide_eq_true_eq] at h4
  unfold bV
  refine List.any_eq_true.2 ⟨v', List.mem_range.2 h4.1, ?_⟩
  rw [Bool.and_eq_true, decide_eq_true_eq]
  refine ⟨fun e => ?_, by rw [show s.slots[v']!.set = false from hs]; rfl⟩
  have h5 := h4.2
  simp only [List.mem_cons, List.not_mem_nil, or_false] at h5;omega
theorem Ns {ts : List Int} {bd : List AL.Stmt} {pts : List Pnt} {s : Mc} {x : Pnt} {N : Nat} {Q : Exit → AS → Prop} {all : Array Oper} {rest : List Oper} {tsl : List (Nat × AV)} {hsl : List (Nat × Option (List AV))} {nidl : Nat} {z0 : Lo} {md : Md} {d : Nat} {ty : TypeId} {pos : String} {af : Array Edge} {tys : Array TypeId} {x0 x1 : Operand} {i0 i1 i2 : Nat} (ha0 : ev (lk tsl) x0 = some (.optr i0 0)) (ha1 : ev (lk tsl) x1 = some (fL x)) (hH0 : aS hsl i0 = some (mO ts bd pts i1 i2 s)) (hH1 : aS hsl i1 = some (flat eE s.slots)) (hH2 : aS hsl i2 = some (flat cI s.read)) (hdd : Go.AL.distinct [i0, i1, i2] = true) (hmc : MC Tryz.prog 140 [.optr 0 0, fL x] [(0, some (mO ts bd pts 1 2 s)), (1, some (flat eE s.slots)), (2, some (flat cI s.read))] 3 (fun _ : Unit => True) (fun _ => iv (dM ts s x).2) (fun _ => [(0, some (mO ts bd pts 1 2 (dM ts s x).1)), (1, some (flat eE (dM ts s x).1.slots)), (2, some (flat cI (dM ts s x).1.read))])) (hM : Nat.ble (nidl + 0) aY = true) (hN : Nat.blt d N = true) {md' : Md} [hmd : MdA md (fK [x0, x1] ++ [.inr i0, .inr i1, .inr i2]) (List.map Sum.inr (List.map Prod.fst ([(i0, some (mO ts bd pts i1 i2 (dM ts s x).1)), (i1, some (flat eE (dM ts s x).1.slots)), (i2, some (flat cI (dM ts s x).1.read))] : List (Nat × Option (List AV)))) ++ [.inl d]) md'] (kk : RW Tryz.prog N all Q md' rest ⟨(d, iv (dM ts s x).2) :: tsl, gR hsl [(i0, some (mO ts bd pts i1 i2 (dM ts s x).1)), (i1, some (flat eE (dM ts s x).1.slots)), (i2, some (flat cI (dM ts s x).1.read))], nidl + 0, z0⟩) : RW Tryz.prog N all Q md (⟨some d, .call ⟨.value (.func 140), #[x0, x1], tys⟩, ty, pos, af, none⟩ :: rest) ⟨tsl, hsl, nidl, z0⟩ := by
 refine a6 [i0, i1, i2] 3 [(i0, some (mO ts bd pts i1 i2 (dM ts s x).1)), (i1, some (flat eE (dM ts s x).1.slots)), (i2, some (flat cI (dM ts s x).1.read))] hmc (avs := [.optr i0 0, fL x]) ?_ hdd ?_ rfl ?_ (by simpa using hM) ?_ ?_ ?_ hN (md' := md') (hmd := hmd) kk
 ·show evL (lk tsl) [x0, x1] = _
  simp only [evL, ha0, ha1]
 ·exact ⟨⟨_, _, rfl, hH0, by (repeat' (first|exact RnL.purI inferInstance|exact RnV.purI inferInstance|exact RnV.own rfl|refine RnL.cons ?_ ?_))⟩, ⟨⟨_, _, rfl, hH1, by (repeat' (exact RnL.purI inferInstance))⟩, ⟨⟨_, _, rfl, hH2, by (repeat' (exact RnL.purI inferInstance))⟩, trivial⟩⟩⟩
 ·(repeat' (first|exact RnL.purI inferInstance|exact RnV.optr rfl|refine RnL.cons ?_ ?_))
 ·(repeat' (exact RnV.purI inferInstance))
 ·simp [cA]
 ·(repeat' (first|exact trivial|(refine And.intro ⟨0, _, rfl, rfl, ?_⟩ ?_)|(refine And.intro ⟨1, _, rfl, rfl, ?_⟩ ?_)|(refine And.intro ⟨2, _, rfl, rfl, ?_⟩ ?_)|exact RnL.purI inferInstance|exact RnV.purI inferInstance|exact RnV.own rfl|refine RnL.cons ?_ ?_))
theorem kN {ts : List Int} {bd : List AL.Stmt} {pts : List Pnt} {s : Mc} {v : Int} {y : Sl} {N : Nat} {Q : Exit → AS → Prop} {all : Array Oper} {rest : List Oper} {tsl : List (Nat × AV)} {hsl : List (Nat × Option (List AV))} {nidl : Nat} {z0 : Lo} {md : Md} {d : Nat} {ty : TypeId} {pos : String} {af : Array Edge} {tys : Array TypeId} {x0 x1 x2 : Operand} {i0 i1 i2 : Nat} (ha0 : ev (lk tsl) x0 = some (.optr i0 0)) (ha1 : ev (lk tsl) x1 = some (iv v)) (ha2 : ev (lk tsl) x2 = some (Ox y)) (hH0 : aS hsl i0 = some (mO ts bd pts i1 i2 s)) (hH1 : aS hsl i1 = some (flat eE s.slots)) (hH2 : aS hsl i2 = some (flat cI s.read)) (hdd : Go.AL.distinct [i0, i1, i2] = true) (hmc : MC Tryz.prog 197 [.optr 0 0, iv v, Ox y] [(0, some (mO ts bd pts 1 2 s)), (1, some (flat eE s.slots)), (2, some (flat cI s.read))] 3 (fun _ : Unit => True) (fun _ => iv (cJ ts s v.toNat y).2) (fun _ => [(0, some (mO ts bd pts 1 2 (cJ ts s v.toNat y).1)), (1, some (flat eE (cJ ts s v.toNat y).1.slots)), (2, some (flat cI (cJ ts s v.toNat y).1.read))])) (hM : Nat.ble (nidl + 0) aY = true) (hN : Nat.blt d N = true) {md' : Md} [hmd : MdA md (fK [x0, x1, x2] ++ [.inr i0, .inr i1, .inr i2]) (List.map Sum.inr (List.map Prod.fst ([(i0, some (mO ts bd pts i1 i2 (cJ ts s v.toNat y).1)), (i1, some (flat eE (cJ ts s v.toNat y).1.slots)), (i2, some (flat cI (cJ ts s v.toNat y).1.read))] : List (Nat × Option (List AV)))) ++ [.inl d]) md'] (kk : RW Tryz.prog N all Q md' rest ⟨(d, iv (cJ ts s v.toNat y).2) :: tsl, gR hsl [(i0, some (mO ts bd pts i1 i2 (cJ ts s v.toNat y).1)), (i1, some (flat eE (cJ ts s v.toNat y).1.slots)), (i2, some (flat cI (cJ ts s v.toNat y).1.read))], nidl + 0, z0⟩) : RW Tryz.prog N all Q md (⟨some d, .call ⟨.value (.func 197), #[x0, x1, x2], tys⟩, ty, pos, af, none⟩ :: rest) ⟨tsl, hsl, nidl, z0⟩ := by
 refine a6 [i0, i1, i2] 3 [(i0, some (mO ts bd pts i1 i2 (cJ ts s v.toNat y).1)), (i1, some (flat eE (cJ ts s v.toNat y).1.slots)), (i2, some (flat cI (cJ ts s v.toNat y).1.read))] hmc (avs := [.optr i0 0, iv v, Ox y]) ?_ hdd ?_ rfl ?_ (by simpa using hM) ?_ ?_ ?_ hN (md' := md') (hmd := hmd) kk
 ·show evL (lk tsl) [x0, x1, x2] = _
  simp only [evL, ha0, ha1, ha2]
 ·exact ⟨⟨_, _, rfl, hH0, by (repeat' (first|exact RnL.purI inferInstance|exact RnV.purI inferInstance|exact RnV.own rfl|refine RnL.cons ?_ ?_))⟩, ⟨⟨_, _, rfl, hH1, by (repeat' (exact RnL.purI inferInstance))⟩, ⟨⟨_, _, rfl, hH2, by (repeat' (exact RnL.purI inferInstance))⟩, trivial⟩⟩⟩
 ·(repeat' (first|exact RnL.purI inferInstance|exact RnV.optr rfl|refine RnL.cons ?_ ?_))
 ·(repeat' (exact RnV.purI inferInstance))
 ·simp [cA]
 ·(repeat' (first|exact trivial|(refine And.intro ⟨0, _, rfl, rfl, ?_⟩ ?_)|(refine And.intro ⟨1, _, rfl, rfl, ?_⟩ ?_)|(refine And.intro ⟨2, _, rfl, rfl, ?_⟩ ?_)|exact RnL.purI inferInstance|exact RnV.purI inferInstance|exact RnV.own rfl|refine RnL.cons ?_ ?_))
theorem m8 (ts : List Int) (bd : List AL.Stmt) (pts : List Pnt) (s : Mc) (v : Int) (y : Sl) (hm : OkM s.cells) (hsl : s.slots.length = ts.length) (hv : 0 ≤ v ∧ v < ts.length) : MC Tryz.prog 197 [.optr 0 0, iv v, Ox y] [(0, some (mO ts bd pts 1 2 s)), (1, some (flat eE s.slots)), (2, some (flat cI s.read))] 3 (fun _ : Unit => True) (fun _ => iv (cJ ts s v.toNat y).2) (fun _ => [(0, some (mO ts bd pts 1 2 (cJ ts s v.toNat y).1)), (1, some (flat eE (cJ ts s v.toNat y).1.slots)), (2, some (flat cI (cJ ts s v.toNat y).1.read))]) := by
 have h := Mq ts bd pts s v.toNat y hm hsl (by omega)
 rw [Int.toNat_of_nonneg hv.1] at h
 exact h
theorem F2 {ts : List Int} {bd : List AL.Stmt} {pts : List Pnt} {s : Mc} {v : Int} {N : Nat} {Q : Exit → AS → Prop} {all : Array Oper} {rest : List Oper} {tsl : List (Nat × AV)} {hsl : List (Nat × Option (List AV))} {nidl : Nat} {z0 : Lo} {md : Md} {d : Nat} {ty : TypeId} {pos : String} {af : Array Edge} {tys : Array TypeId} {x0 x1 : Operand} {i0 i1 i2 : Nat} (ha0 : ev (lk tsl) x0 = some (.optr i0 0)) (ha1 : ev (lk tsl) x1 = some (iv v)) (hH0 : aS hsl i0 = some (mO ts bd pts i1 i2 s)) (hH1 : aS hsl i1 = some (flat eE s.slots)) (hH2 : aS hsl i2 = some (flat cI s.read)) (hdd : Go.AL.distinct [i0, i1, i2] = true) (hmc : MC Tryz.prog 204 [.optr 0 0, iv v] [(0, some (mO ts bd pts 1 2 s)), (1, some (flat eE s.slots)), (2, some (flat cI s.read))] 3 (fun _ : Unit => True) (fun _ => iv (nN (bJ s.cells s.slots[v.toNat]!.ptr true))) (fun _ => [(0, some ([aG ts bd pts, .own 1 0 ts.length 4, sl cY (kQ s.cells s.slots[v.toNat]!.ptr), .own 2 0 s.read.length 1])), (1, some (flat eE s.slots)), (2, some (flat cI s.read))])) (hM : Nat.ble (nidl + 0) aY = true) (hN : Nat.blt d N = true) {md' : Md} [hmd : MdA md (fK [x0, x1] ++ [.inr i0, .inr i1, .inr i2]) (List.map Sum.inr (List.map Prod.fst ([(i0, some ([aG ts bd pts, .own i1 0 ts.length 4, sl cY (kQ s.cells s.slots[v.toNat]!.ptr), .own i2 0 s.read.length 1])), (i1, some (flat eE s.slots)), (i2, some (flat cI s.read))] : List (Nat × Option (List AV)))) ++ [.inl d]) md'] (kk : RW Tryz.prog N all Q md' rest ⟨(d, iv (nN (bJ s.cells s.slots[v.toNat]!.ptr true))) :: tsl, gR hsl [(i0, some ([aG ts bd pts, .own i1 0 ts.length 4, sl cY (kQ s.cells s.slots[v.toNat]!.ptr), .own i2 0 s.read.length 1])), (i1, some (flat eE s.slots)), (i2, some (flat cI s.read))], nidl + 0, z0⟩) : RW Tryz.prog N all Q md (⟨some d, .call ⟨.value (.func 204), #[x0, x1], tys⟩, ty, pos, af, none⟩ :: rest) ⟨tsl, hsl, nidl, z0⟩ := by
 refine a6 [i0, i1, i2] 3 [(i0, some ([aG ts bd pts, .own i1 0 ts.length 4, sl cY (kQ s.cells s.slots[v.toNat]!.ptr), .own i2 0 s.read.length 1])), (i1, some (flat eE s.slots)), (i2, some (flat cI s.read))] hmc (avs := [.optr i0 0, iv v]) ?_ hdd ?_ rfl ?_ (by simpa using hM) ?_ ?_ ?_ hN (md' := md') (hmd := hmd) kk
 ·show evL (lk tsl) [x0, x1] = _
  simp only [evL, ha0, ha1]
 ·exact ⟨⟨_, _, rfl, hH0, by (repeat' (first|exact RnL.purI inferInstance|exact RnV.purI inferInstance|exact RnV.own rfl|refine RnL.cons ?_ ?_))⟩, ⟨⟨_, _, rfl, hH1, by (repeat' (exact RnL.purI inferInstance))⟩, ⟨⟨_, _, rfl, hH2, by (repeat' (exact RnL.purI inferInstance))⟩, trivial⟩⟩⟩
 ·(repeat' (first|exact RnL.purI inferInstance|exact RnV.optr rfl|refine RnL.cons ?_ ?_))
 ·(repeat' (exact RnV.purI inferInstance))
 ·simp [cA]
 ·(repeat' (first|exact trivial|(refine And.intro ⟨0, _, rfl, rfl, ?_⟩ ?_)|(refine And.intro ⟨1, _, rfl, rfl, ?_⟩ ?_)|(refine And.intro ⟨2, _, rfl, rfl, ?_⟩ ?_)|exact RnL.purI inferInstance|exact RnV.purI inferInstance|exact RnV.own rfl|refine RnL.cons ?_ ?_))
theorem IQ (ts : List Int) (bd : List AL.Stmt) (pts : List Pnt) (s : Mc) (v : Int) (hm : OkM s.cells) (hsl : s.slots.length = ts.length) (hv : 0 ≤ v ∧ v < ts.length) : MC Tryz.prog 204 [.optr 0 0, iv v] [(0, some (mO ts bd pts 1 2 s)), (1, some (flat eE s.slots)), (2, some (flat cI s.read))] 3 (fun _ : Unit => True) (fun _ => iv (nN (bJ s.cells s.slots[v.toNat]!.ptr true))) (fun _ => [(0, some ([aG ts bd pts, .own 1 0 ts.length 4, sl cY (kQ s.cells s.slots[v.toNat]!.ptr), .own 2 0 s.read.length 1])), (1, some (flat eE s.slots)), (2, some (flat cI s.read))]) := by
 have h := xU ts bd pts s v.toNat hm hsl (by omega)
 rw [Int.toNat_of_nonneg hv.1] at h
 exact h
theorem OG (ts : List Int) (bd : List AL.Stmt) (pts : List Pnt) (s : Mc) (x : Pnt) (htl : ts.length ≤ 6) (hm : OkM s.cells) (hsl : s.slots.length = ts.length) (ho : x.op = 1) (hx : 0 ≤ x.x ∧ x.x < ts.length) : MC Tryz.prog 140 [.optr 0 0, fL x] [(0, some (mO ts bd pts 1 2 s)), (1, some (flat eE s.slots)), (2, some (flat cI s.read))] 3 (fun _ : Unit => True) (fun _ => iv (dM ts s x).2) (fun _ => [(0, some (mO ts bd pts 1 2 (dM ts s x).1)), (1, some (flat eE (dM ts s x).1.slots)), (2, some (flat cI (dM ts s x).1.read))]) := by
 have hus := iB ts bd pts x htl
 have hsm : Sm (wS ts x [1, 2, 3]) := bY (by omega)
 obtain ⟨L, hL⟩ : ∃ L, L = a8 (wS ts x [1, 2, 3]) := ⟨_, rfl⟩
 have hLl : L.length ≤ 62 := by rw [hL]; exact cR _
 have hmem : ∀ k, k < L.length → 0 ≤ L[k]! ∧ L[k]! < s.slots.length := fun k hk => by
  rw [hsl]; exact gV (by rw [← hL]; exact aW _ _ hk)
 refine aX Tryz.func140 Tryz.ntmps140 ?_
 repeat' (first|(apply aI;first|(apply aA (k := 158);rfl;exact hus;exact Pur.pf;rfl)|(apply aA (k := 120);rfl;(apply fW <;> (assumption));(rfl);rfl))|refine aD ?_|refine aE ?_|refine b0 ?_|fail)
 rw [← hL]
 refine aK (σ := Nat) [0, 3, 26, 27] [0, 1, 2, 3] (fun k => [(28, iv (k : Int))]) (fun k => []) (fun k => k ≤ L.length ∧ ∀ j, j < k → s.slots[(L[j]!).toNat]!.set = true) (fun k => L.length - k) (0) ⟨Nat.zero_le _, fun j h => absurd h (by omega)⟩ ?_
 rintro k ⟨hk, hall⟩
 by_cases hkn : k < L.length
 ·have hmk := hmem k hkn
  repeat' (first|refine aD ?_|refine aE ?_|(refine aM ?_ ?_ <;> intro hc hq <;> try (exfalso;omega))|fail)
  ·have hu : bV ts s x = true := (cH htl).2 ⟨L[k]!, by rw [← hL]; exact aW _ _ hkn, by assumption⟩
   rw [vI hu]
   (refine aF rfl ?_; refine aU () trivial ?_ ⟨.inr (Eq.trans (b := some _) rfl ?_), ⟨.inr (Eq.trans (b := some _) rfl ?_), ⟨.inr (Eq.trans (b := some _) rfl ?_), trivial⟩⟩⟩)
   ·rfl
   ·rfl
   ·rfl
   ·rfl
  ·(refine bH (k + 1) (Le.renA [(3, 3)]) ?_ ?_)
   ·refine ⟨by omega, fun j hj => ?_⟩
    rcases Nat.lt_or_ge j k with h|h
    ·exact hall j h
    ·rw [show j = k by omega]; assumption
   ·omega
 ·have hu : bV ts s x = false := by
   cases q : bV ts s x with
   | false => rfl
   | true =>
    obtain ⟨v, hv, hs⟩ := (cH htl).1 q
    rw [← hL] at hv
    obtain ⟨j, hj, e⟩ := List.getElem_of_mem hv
    have h1 := hall j (by omega)
    rw [aZ _ _ hj, e, hs] at h1;cases h1
  rw [rM hu]
  have hd : cD ts s x = cJ ts s x.x.toNat ⟨true, x.n, ⟨0, 0⟩⟩ := by unfold cD;rw [if_pos ho]
  rw [hd]
  have hp := m8 ts bd pts s x.x ⟨true, x.n, ⟨0, 0⟩⟩ hm hsl hx
  repeat' (first|(apply aI;(apply kN (ts := ts) (bd := bd) (pts := pts) (s := s) (v := x.x) (y := ⟨true, x.n, ⟨0, 0⟩⟩);rfl;rfl;rfl;rfl;rfl;rfl;rfl;exact hp;rfl;rfl))|refine aD ?_|refine aE ?_|(refine aM ?_ ?_ <;> intro hc hq <;> try (exfalso;omega))|fail)
  (refine aF rfl ?_; refine aU () trivial ?_ ⟨.inr (Eq.trans (b := some _) rfl ?_), ⟨.inr (Eq.trans (b := some _) rfl ?_), ⟨.inr (Eq.trans (b := some _) rfl ?_), trivial⟩⟩⟩)
  ·rfl
  ·rfl
  ·rfl
  ·rfl
theorem O0 (ts : List Int) (bd : List AL.Stmt) (pts : List Pnt) (s : Mc) (x : Pnt) (htl : ts.length ≤ 6) (hm : OkM s.cells) (hsl : s.slots.length = ts.length) (ho : x.op = 2) (hn : 0 ≤ x.n ∧ x.n ≤ 9) (hx : 0 ≤ x.x ∧ x.x < ts.length) : MC Tryz.prog 140 [.optr 0 0, fL x] [(0, some (mO ts bd pts 1 2 s)), (1, some (flat eE s.slots)), (2, some (flat cI s.read))] 3 (fun _ : Unit => True) (fun _ => iv (dM ts s x).2) (fun _ => [(0, some (mO ts bd pts 1 2 (dM ts s x).1)), (1, some (flat eE (dM ts s x).1.slots)), (2, some (flat cI (dM ts s x).1.read))]) := by
 have hus := iB ts bd pts x htl
 have hsm : Sm (wS ts x [1, 2, 3]) := bY (by omega)
 obtain ⟨L, hL⟩ : ∃ L, L = a8 (wS ts x [1, 2, 3]) := ⟨_, rfl⟩
 have hLl : L.length ≤ 62 := by rw [hL]; exact cR _
 have hmem : ∀ k, k < L.length → 0 ≤ L[k]! ∧ L[k]! < s.slots.length := fun k hk => by
  rw [hsl]; exact gV (by rw [← hL]; exact aW _ _ hk)
 refine aX Tryz.func140 Tryz.ntmps140 ?_
 repeat' (first|(apply aI;first|(apply aA (k := 158);rfl;exact hus;exact Pur.pf;rfl)|(apply aA (k := 120);rfl;(apply fW <;> (assumption));(rfl);rfl))|refine aD ?_|refine aE ?_|refine b0 ?_|fail)
 rw [← hL]
 refine aK (σ := Nat) [0, 3, 26, 27] [0, 1, 2, 3] (fun k => [(28, iv (k : Int))]) (fun k => []) (fun k => k ≤ L.length ∧ ∀ j, j < k → s.slots[(L[j]!).toNat]!.set = true) (fun k => L.length - k) (0) ⟨Nat.zero_le _, fun j h => absurd h (by omega)⟩ ?_
 rintro k ⟨hk, hall⟩
 by_cases hkn : k < L.length
 ·have hmk := hmem k hkn
  repeat' (first|refine aD ?_|refine aE ?_|(refine aM ?_ ?_ <;> intro hc hq <;> try (exfalso;omega))|fail)
  ·have hu : bV ts s x = true := (cH htl).2 ⟨L[k]!, by rw [← hL]; exact aW _ _ hkn, by assumption⟩
   rw [vI hu]
   (refine aF rfl ?_; refine aU () trivial ?_ ⟨.inr (Eq.trans (b := some _) rfl ?_), ⟨.inr (Eq.trans (b := some _) rfl ?_), ⟨.inr (Eq.trans (b := some _) rfl ?_), trivial⟩⟩⟩)
   ·rfl
   ·rfl
   ·rfl
   ·rfl
  ·(refine bH (k + 1) (Le.renA [(3, 3)]) ?_ ?_)
   ·refine ⟨by omega, fun j hj => ?_⟩
    rcases Nat.lt_or_ge j k with h|h
    ·exact hall j h
    ·rw [show j = k by omega]; assumption
   ·omega
 ·have hu : bV ts s x = false := by
   cases q : bV ts s x with
   | false => rfl
   | true =>
    obtain ⟨v, hv, hs⟩ := (cH htl).1 q
    rw [← hL] at hv
    obtain ⟨j, hj, e⟩ := List.getElem_of_mem hv
    have h1 := hall j (by omega)
    rw [aZ _ _ hj, e, hs] at h1;cases h1
  rw [rM hu]
  have hml := hm.l
  have hnc := C4 s.cells hm x.n
  by_cases h2 : s.cells.length = 200
  ·rw [if_neg (by omega)] at hnc
   have hd : cD ts s x = (s, 1) := by unfold cD;rw [if_neg (show ¬ x.op = 1 by omega), if_pos ho, if_pos h2]
   rw [hd]
   repeat' (first|(apply aI;(apply aA (k := 198);rfl;exact hnc;exact Pur.pf;rfl))|refine aD ?_|refine aE ?_|(refine aM ?_ ?_ <;> intro hc hq <;> try (exfalso;omega))|refine b0 ?_|fail)
   (refine aF rfl ?_; refine aU () trivial ?_ ⟨.inr (Eq.trans (b := some _) rfl ?_), ⟨.inr (Eq.trans (b := some _) rfl ?_), ⟨.inr (Eq.trans (b := some _) rfl ?_), trivial⟩⟩⟩)
   ·rfl
   ·rfl
   ·rfl
   ·rfl
  ·rw [if_pos (by omega)] at hnc
   have hp := m8 ts bd pts ⟨s.slots, s.cells ++ [r8 x.n], s.read⟩ x.x ⟨true, 0, ⟨s.cells.length, 0⟩⟩ (hm.nw hn (by omega)) hsl hx
   have hd : cD ts s x = cJ ts ⟨s.slots, s.cells ++ [r8 x.n], s.read⟩ x.x.toNat ⟨true, 0, ⟨s.cells.length, 0⟩⟩ := by unfold cD;rw [if_neg (show ¬ x.op = 1 by omega), if_pos ho, if_neg h2]
   rw [hd]
   repeat' (first|(apply aI;first|(apply aA (k := 198);rfl;exact hnc;exact Pur.pf;rfl)|(apply kN (ts := ts) (bd := bd) (pts := pts) (s := ⟨s.slots, s.cells ++ [r8 x.n], s.read⟩) (v := x.x) (y := ⟨true, 0, ⟨s.cells.length, 0⟩⟩);rfl;rfl;rfl;rfl;rfl;rfl;rfl;exact hp;rfl;rfl))|refine aD ?_|refine aE ?_|(refine aM ?_ ?_ <;> intro hc hq <;> try (exfalso;omega))|refine b0 ?_|fail)
   (refine aF rfl ?_; refine aU () trivial ?_ ⟨.inr (Eq.trans (b := some _) rfl ?_), ⟨.inr (Eq.trans (b := some _) rfl ?_), ⟨.inr (Eq.trans (b := some _) rfl ?_), trivial⟩⟩⟩)
   ·rfl
   ·rfl
   ·rfl
   ·rfl
theorem Ow (ts : List Int) (bd : List AL.Stmt) (pts : List Pnt) (s : Mc) (x : Pnt) (htl : ts.length ≤ 6) (hm : OkM s.cells) (hsl : s.slots.length = ts.length) (ho : x.op = 3) (hx : 0 ≤ x.x ∧ x.x < ts.length) (hy : 0 ≤ x.y ∧ x.y < ts.length) : MC Tryz.prog 140 [.optr 0 0, fL x] [(0, some (mO ts bd pts 1 2 s)), (1, some (flat eE s.slots)), (2, some (flat cI s.read))] 3 (fun _ : Unit => True) (fun _ => iv (dM ts s x).2) (fun _ => [(0, some (mO ts bd pts 1 2 (dM ts s x).1)), (1, some (flat eE (dM ts s x).1.slots)), (2, some (flat cI (dM ts s x).1.read))]) := by
 have hus := iB ts bd pts x htl
 have hsm : Sm (wS ts x [1, 2, 3]) := bY (by omega)
 obtain ⟨L, hL⟩ : ∃ L, L = a8 (wS ts x [1, 2, 3]) := ⟨_, rfl⟩
 have hLl : L.length ≤ 62 := by rw [hL]; exact cR _
 have hmem : ∀ k, k < L.length → 0 ≤ L[k]! ∧ L[k]! < s.slots.length := fun k hk => by
  rw [hsl]; exact gV (by rw [← hL]; exact aW _ _ hk)
 refine aX Tryz.func140 Tryz.ntmps140 ?_
 repeat' (first|(apply aI;first|(apply aA (k := 158);rfl;exact hus;exact Pur.pf;rfl)|(apply aA (k := 120);rfl;(apply fW <;> (assumption));(rfl);rfl))|refine aD ?_|refine aE ?_|refine b0 ?_|fail)
 rw [← hL]
 refine aK (σ := Nat) [0, 3, 26, 27] [0, 1, 2, 3] (fun k => [(28, iv (k : Int))]) (fun k => []) (fun k => k ≤ L.length ∧ ∀ j, j < k → s.slots[(L[j]!).toNat]!.set = true) (fun k => L.length - k) (0) ⟨Nat.zero_le _, fun j h => absurd h (by omega)⟩ ?_
 rintro k ⟨hk, hall⟩
 by_cases hkn : k < L.length
 ·have hmk := hmem k hkn
  repeat' (first|refine aD ?_|refine aE ?_|(refine aM ?_ ?_ <;> intro hc hq <;> try (exfalso;omega))|fail)
  ·have hu : bV ts s x = true := (cH htl).2 ⟨L[k]!, by rw [← hL]; exact aW _ _ hkn, by assumption⟩
   rw [vI hu]
   (refine aF rfl ?_; refine aU () trivial ?_ ⟨.inr (Eq.trans (b := some _) rfl ?_), ⟨.inr (Eq.trans (b := some _) rfl ?_), ⟨.inr (Eq.trans (b := some _) rfl ?_), trivial⟩⟩⟩)
   ·rfl
   ·rfl
   ·rfl
   ·rfl
  ·(refine bH (k + 1) (Le.renA [(3, 3)]) ?_ ?_)
   ·refine ⟨by omega, fun j hj => ?_⟩
    rcases Nat.lt_or_ge j k with h|h
    ·exact hall j h
    ·rw [show j = k by omega]; assumption
   ·omega
 ·have hu : bV ts s x = false := by
   cases q : bV ts s x with
   | false => rfl
   | true =>
    obtain ⟨v, hv, hs⟩ := (cH htl).1 q
    rw [← hL] at hv
    obtain ⟨j, hj, e⟩ := List.getElem_of_mem hv
    have h1 := hall j (by omega)
    rw [aZ _ _ hj, e, hs] at h1;cases h1
  rw [rM hu]
  have hd : cD ts s x = cJ ts (if Ck ts[x.y.toNat]! = true then ⟨s.slots.set x.y.toNat lQ, s.cells, s.read⟩ else s) x.x.toNat s.slots[x.y.toNat]! := by unfold cD;rw [if_neg (show ¬ x.op = 1 by omega), if_neg (show ¬ x.op = 2 by omega), if_pos ho]
  rw [hd]
  have htk := yZ ts bd pts x.y hy
  by_cases hk : Ck ts[x.y.toNat]! = true
  ·rw [hk] at htk
   rw [if_pos hk]
   have hp := m8 ts bd pts ⟨s.slots.set x.y.toNat lQ, s.cells, s.read⟩ x.x s.slots[x.y.toNat]! hm (by show (s.slots.set _ _).length = _; rw [List.length_set]; exact hsl) hx
   repeat' (first|(apply aI;first|(apply aA (k := 199);rfl;exact htk;exact Pur.pf;rfl)|(apply kN (ts := ts) (bd := bd) (pts := pts) (s := ⟨s.slots.set x.y.toNat lQ, s.cells, s.read⟩) (v := x.x) (y := s.slots[x.y.toNat]!);rfl;rfl;rfl;rfl;rfl;rfl;rfl;exact hp;rfl;rfl)|(apply bT;rfl;rfl;rfl;rfl;rfl;(case hl => (first|(rw [aL]; simp only [hU] <;> omega)|(simp;done)));(exact DT (by (omega)))))|refine aD ?_|refine aE ?_|(refine aM ?_ ?_ <;> intro hc hq <;> try (exfalso;omega))|refine b0 ?_|fail)
   (refine aF rfl ?_; refine aU () trivial ?_ ⟨.inr (Eq.trans (b := some _) rfl ?_), ⟨.inr (Eq.trans (b := some _) rfl ?_), ⟨.inr (Eq.trans (b := some _) rfl ?_), trivial⟩⟩⟩)
   ·rfl
   ·rfl
   ·rfl
   ·rfl
  ·have hk2 : Ck ts[x.y.toNat]! = false := by simpa using hk
   rw [hk2] at htk
   rw [if_neg hk]
   have hp := m8 ts bd pts s x.x s.slots[x.y.toNat]! hm hsl hx
   repeat' (first|(apply aI;first|(apply aA (k := 199);rfl;exact htk;exact Pur.pf;rfl)|(apply kN (ts := ts) (bd := bd) (pts := pts) (s := s) (v := x.x) (y := s.slots[x.y.toNat]!);rfl;rfl;rfl;rfl;rfl;rfl;rfl;exact hp;rfl;rfl))|refine aD ?_|refine aE ?_|(refine aM ?_ ?_ <;> intro hc hq <;> try (exfalso;omega))|refine b0 ?_|fail)
   (refine aF rfl ?_; refine aU () trivial ?_ ⟨.inr (Eq.trans (b := some _) rfl ?_), ⟨.inr (Eq.trans (b := some _) rfl ?_), ⟨.inr (Eq.trans (b := some _) rfl ?_), trivial⟩⟩⟩)
   ·rfl
   ·rfl
   ·rfl
   ·rfl
theorem ND (ts : List Int) (bd : List AL.Stmt) (pts : List Pnt) (s : Mc) (x : Pnt) (htl : ts.length ≤ 6) (hm : OkM s.cells) (hsl : s.slots.length = ts.length) (ho : x.op = 4 ∨ x.op = 5) (hx : 0 ≤ x.x ∧ x.x < ts.length) (hy : 0 ≤ x.y ∧ x.y < ts.length) : MC Tryz.prog 140 [.optr 0 0, fL x] [(0, some (mO ts bd pts 1 2 s)), (1, some (flat eE s.slots)), (2, some (flat cI s.read))] 3 (fun _ : Unit => True) (fun _ => iv (dM ts s x).2) (fun _ => [(0, some (mO ts bd pts 1 2 (dM ts s x).1)), (1, some (flat eE (dM ts s x).1.slots)), (2, some (flat cI (dM ts s x).1.read))]) := by
 have hus := iB ts bd pts x htl
 have hsm : Sm (wS ts x [1, 2, 3]) := bY (by omega)
 obtain ⟨L, hL⟩ : ∃ L, L = a8 (wS ts x [1, 2, 3]) := ⟨_, rfl⟩
 have hLl : L.length ≤ 62 := by rw [hL]; exact cR _
 have hmem : ∀ k, k < L.length → 0 ≤ L[k]! ∧ L[k]! < s.slots.length := fun k hk => by
  rw [hsl]; exact gV (by rw [← hL]; exact aW _ _ hk)
 refine aX Tryz.func140 Tryz.ntmps140 ?_
 repeat' (first|(apply aI;first|(apply aA (k := 158);rfl;exact hus;exact Pur.pf;rfl)|(apply aA (k := 120);rfl;(apply fW <;> (assumption));(rfl);rfl))|refine aD ?_|refine aE ?_|refine b0 ?_|fail)
 rw [← hL]
 refine aK (σ := Nat) [0, 3, 26, 27] [0, 1, 2, 3] (fun k => [(28, iv (k : Int))]) (fun k => []) (fun k => k ≤ L.length ∧ ∀ j, j < k → s.slots[(L[j]!).toNat]!.set = true) (fun k => L.length - k) (0) ⟨Nat.zero_le _, fun j h => absurd h (by omega)⟩ ?_
 rintro k ⟨hk, hall⟩
 by_cases hkn : k < L.length
 ·have hmk := hmem k hkn
  repeat' (first|refine aD ?_|refine aE ?_|(refine aM ?_ ?_ <;> intro hc hq <;> try (exfalso;omega))|fail)
  ·have hu : bV ts s x = true := (cH htl).2 ⟨L[k]!, by rw [← hL]; exact aW _ _ hkn, by assumption⟩
   rw [vI hu]
   (refine aF rfl ?_; refine aU () trivial ?_ ⟨.inr (Eq.trans (b := some _) rfl ?_), ⟨.inr (Eq.trans (b := some _) rfl ?_), ⟨.inr (Eq.trans (b := some _) rfl ?_), trivial⟩⟩⟩)
   ·rfl
   ·rfl
   ·rfl
   ·rfl
  ·(refine bH (k + 1) (Le.renA [(3, 3)]) ?_ ?_)
   ·refine ⟨by omega, fun j hj => ?_⟩
    rcases Nat.lt_or_ge j k with h|h
    ·exact hall j h
    ·rw [show j = k by omega]; assumption
   ·omega
 ·have hu : bV ts s x = false := by
   cases q : bV ts s x with
   | false => rfl
   | true =>
    obtain ⟨v, hv, hs⟩ := (cH htl).1 q
    rw [← hL] at hv
    obtain ⟨j, hj, e⟩ := List.getElem_of_mem hv
    have h1 := hall j (by omega)
    rw [aZ _ _ hj, e, hs] at h1;cases h1
  rw [rM hu]
  have hle := Lg s.cells hm s.slots[x.y.toNat]!.ptr (decide (x.op = 5))
  by_cases hk : zP s.cells s.slots[x.y.toNat]!.ptr (decide (x.op = 5)) = 0
  ·have hp := m8 ts bd pts ⟨s.slots, vD s.cells s.slots[x.y.toNat]!.ptr (decide (x.op = 5)), s.read⟩ x.x ⟨true, 0, Gw s.cells s.slots[x.y.toNat]!.ptr (decide (x.op = 5))⟩ (hm.ln _ _) hsl hx
   have hd : cD ts s x = cJ ts ⟨s.slots, vD s.cells s.slots[x.y.toNat]!.ptr (decide (x.op = 5)), s.read⟩ x.x.toNat ⟨true, 0, Gw s.cells s.slots[x.y.toNat]!.ptr (decide (x.op = 5))⟩ := by unfold cD;rw [if_neg (show ¬ x.op = 1 by omega), if_neg (show ¬ x.op = 2 by omega), if_neg (show ¬ x.op = 3 by omega), if_pos ho, if_pos hk]
   rw [hd]
   rw [hk] at hle
   repeat' (first|(apply aI;first|(apply iU;(case hx|hH => rfl);(case hf|hg|hα => infer_instance);(case hk => omega);(case hj => decide);(case hc => exact (rfl:_=[_, _]));(case h0|hN => rfl))|(apply aA (k := 200);rfl;exact hle;exact Pur.pf;rfl)|(apply kN (ts := ts) (bd := bd) (pts := pts) (s := ⟨s.slots, vD s.cells s.slots[x.y.toNat]!.ptr (decide (x.op = 5)), s.read⟩) (v := x.x) (y := ⟨true, 0, Gw s.cells s.slots[x.y.toNat]!.ptr (decide (x.op = 5))⟩);(case ha0|ha1|ha2|hH0|hH1|hH2|hdd => rfl);(case hmc => exact hp);(case hM|hN => rfl)))|refine aD ?_|refine aE ?_|(refine aM ?_ ?_ <;> intro hc hq <;> try (exfalso;omega))|refine b0 ?_|fail)
   all_goals (
    (refine aF rfl ?_; refine aU () trivial ?_ ⟨.inr (Eq.trans (b := some _) rfl ?_), ⟨.inr (Eq.trans (b := some _) rfl ?_), ⟨.inr (Eq.trans (b := some _) rfl ?_), trivial⟩⟩⟩)
    ·rfl
    ·rfl
    ·rfl
    ·rfl)
  ·have hd : cD ts s x = (s, iP (zP s.cells s.slots[x.y.toNat]!.ptr (decide (x.op = 5)))) := by unfold cD; rw [if_neg (show ¬ x.op = 1 by omega), if_neg (show ¬ x.op = 2 by omega), if_neg (show ¬ x.op = 3 by omega), if_pos ho, if_neg hk]
   rw [hd]
   repeat' (first|(apply aI;first|(apply iU;(case hx|hH => rfl);(case hf|hg|hα => infer_instance);(case hk => omega);(case hj => decide);(case hc => exact (rfl:_=[_, _]));(case h0|hN => rfl))|(apply aA (k := 200);rfl;exact hle;exact Pur.pf;rfl)|(apply aA (k := 201);rfl;(apply rQ);(rfl);rfl))|refine aD ?_|refine aE ?_|(refine aM ?_ ?_ <;> intro hc hq <;> try (exfalso;omega))|refine b0 ?_|fail)
   all_goals (
    (refine aF rfl ?_; refine aU () trivial ?_ ⟨.inr (Eq.trans (b := some _) rfl ?_), ⟨.inr (Eq.trans (b := some _) rfl ?_), ⟨.inr (Eq.trans (b := some _) rfl ?_), trivial⟩⟩⟩)
    ·rfl
    ·rfl
    ·rfl
    ·rfl)
theorem OF (ts : List Int) (bd : List AL.Stmt) (pts : List Pnt) (s : Mc) (x : Pnt) (htl : ts.length ≤ 6) (hm : OkM s.cells) (hsl : s.slots.length = ts.length) (ho : x.op = 6) (hrl : s.read.length ≤ 1000) (hx : 0 ≤ x.x ∧ x.x < ts.length) (hy : 0 ≤ x.y ∧ x.y < ts.length) (hz : ¬ bJ s.cells s.slots[x.y.toNat]!.ptr false = 0) : MC Tryz.prog 140 [.optr 0 0, fL x] [(0, some (mO ts bd pts 1 2 s)), (1, some (flat eE s.slots)), (2, some (flat cI s.read))] 3 (fun _ : Unit => True) (fun _ => iv (dM ts s x).2) (fun _ => [(0, some (mO ts bd pts 1 2 (dM ts s x).1)), (1, some (flat eE (dM ts s x).1.slots)), (2, some (flat cI (dM ts s x).1.read))]) := by
 have hus := iB ts bd pts x htl
 have hsm : Sm (wS ts x [1, 2, 3]) := bY (by omega)
 obtain ⟨L, hL⟩ : ∃ L, L = a8 (wS ts x [1, 2, 3]) := ⟨_, rfl⟩
 have hLl : L.length ≤ 62 := by rw [hL]; exact cR _
 have hmem : ∀ k, k < L.length → 0 ≤ L[k]! ∧ L[k]! < s.slots.length := fun k hk => by
  rw [hsl]; exact gV (by rw [← hL]; exact aW _ _ hk)
 refine aX Tryz.func140 Tryz.ntmps140 ?_
 repeat' (first|(apply aI;first|(apply aA (k := 158);rfl;exact hus;exact Pur.pf;rfl)|(apply aA (k := 120);rfl;(apply fW <;> (assumption));(rfl);rfl))|refine aD ?_|refine aE ?_|refine b0 ?_|fail)
 rw [← hL]
 refine aK (σ := Nat) [0, 3, 26, 27] [0, 1, 2, 3] (fun k => [(28, iv (k : Int))]) (fun k => []) (fun k => k ≤ L.length ∧ ∀ j, j < k → s.slots[(L[j]!).toNat]!.set = true) (fun k => L.length - k) (0) ⟨Nat.zero_le _, fun j h => absurd h (by omega)⟩ ?_
 rintro k ⟨hk, hall⟩
 by_cases hkn : k < L.length
 ·have hmk := hmem k hkn
  repeat' (first|refine aD ?_|refine aE ?_|(refine aM ?_ ?_ <;> intro hc hq <;> try (exfalso;omega))|fail)
  ·have hu : bV ts s x = true := (cH htl).2 ⟨L[k]!, by rw [← hL]; exact aW _ _ hkn, by assumption⟩
   rw [vI hu]
   (refine aF rfl ?_; refine aU () trivial ?_ ⟨.inr (Eq.trans (b := some _) rfl ?_), ⟨.inr (Eq.trans (b := some _) rfl ?_), ⟨.inr (Eq.trans (b := some _) rfl ?_), trivial⟩⟩⟩)
   ·rfl
   ·rfl
   ·rfl
   ·rfl
  ·(refine bH (k + 1) (Le.renA [(3, 3)]) ?_ ?_)
   ·refine ⟨by omega, fun j hj => ?_⟩
    rcases Nat.lt_or_ge j k with h|h
    ·exact hall j h
    ·rw [show j = k by omega]; assumption
   ·omega
 ·have hu : bV ts s x = false := by
   cases q : bV ts s x with
   | false => rfl
   | true =>
    obtain ⟨v, hv, hs⟩ := (cH htl).1 q
    rw [← hL] at hv
    obtain ⟨j, hj, e⟩ := List.getElem_of_mem hv
    have h1 := hall j (by omega)
    rw [aZ _ _ hj, e, hs] at h1;cases h1
  rw [rM hu]
  have hrc := rC s.cells hm s.slots[x.y.toNat]!.ptr
  have hd : cD ts s x = (s, iP (bJ s.cells s.slots[x.y.toNat]!.ptr false)) := by unfold cD;rw [if_neg (show ¬ x.op = 1 by omega), if_neg (show ¬ x.op = 2 by omega), if_neg (show ¬ x.op = 3 by omega), if_neg (show ¬ (x.op = 4 ∨ x.op = 5) by omega), if_pos ho, if_neg hz]
  rw [hd]
  repeat' (first|(apply aI;first|(apply iU;(case hx|hH => rfl);(case hf|hg|hα => infer_instance);(case hk => omega);(case hj => decide);(case hc => exact (rfl:_=[_, _]));(case h0|hN => rfl))|(apply aA (k := 202);rfl;exact hrc;exact Pur.pf;rfl)|(apply aA (k := 201);rfl;(apply rQ);(rfl);rfl))|refine aD ?_|refine aE ?_|(refine aM ?_ ?_ <;> intro hc hq <;> try (exfalso;omega))|refine b0 ?_|fail)
  (refine aF rfl ?_; refine aU () trivial ?_ ⟨.inr (Eq.trans (b := some _) rfl ?_), ⟨.inr (Eq.trans (b := some _) rfl ?_), ⟨.inr (Eq.trans (b := some _) rfl ?_), trivial⟩⟩⟩)
  ·rfl
  ·rfl
  ·rfl
  ·rfl
theorem OR (ts : List Int) (bd : List AL.Stmt) (pts : List Pnt) (s : Mc) (x : Pnt) (htl : ts.length ≤ 6) (hm : OkM s.cells) (hsl : s.slots.length = ts.length) (ho : x.op = 7) (hx : 0 ≤ x.x ∧ x.x < ts.length) (hy : 0 ≤ x.y ∧ x.y < ts.length) : MC Tryz.prog 140 [.optr 0 0, fL x] [(0, some (mO ts bd pts 1 2 s)), (1, some (flat eE s.slots)), (2, some (flat cI s.read))] 3 (fun _ : Unit => True) (fun _ => iv (dM ts s x).2) (fun _ => [(0, some (mO ts bd pts 1 2 (dM ts s x).1)), (1, some (flat eE (dM ts s x).1.slots)), (2, some (flat cI (dM ts s x).1.read))]) := by
 have hus := iB ts bd pts x htl
 have hsm : Sm (wS ts x [1, 2, 3]) := bY (by omega)
 obtain ⟨L, hL⟩ : ∃ L, L = a8 (wS ts x [1, 2, 3]) := ⟨_, rfl⟩
 have hLl : L.length ≤ 62 := by rw [hL]; exact cR _
 have hmem : ∀ k, k < L.length → 0 ≤ L[k]! ∧ L[k]! < s.slots.length := fun k hk => by
  rw [hsl]; exact gV (by rw [← hL]; exact aW _ _ hk)
 refine aX Tryz.func140 Tryz.ntmps140 ?_
 repeat' (first|(apply aI;first|(apply aA (k := 158);rfl;exact hus;exact Pur.pf;rfl)|(apply aA (k := 120);rfl;(apply fW <;> (assumption));(rfl);rfl))|refine aD ?_|refine aE ?_|refine b0 ?_|fail)
 rw [← hL]
 refine aK (σ := Nat) [0, 3, 26, 27] [0, 1, 2, 3] (fun k => [(28, iv (k : Int))]) (fun k => []) (fun k => k ≤ L.length ∧ ∀ j, j < k → s.slots[(L[j]!).toNat]!.set = true) (fun k => L.length - k) (0) ⟨Nat.zero_le _, fun j h => absurd h (by omega)⟩ ?_
 rintro k ⟨hk, hall⟩
 by_cases hkn : k < L.length
 ·have hmk := hmem k hkn
  repeat' (first|refine aD ?_|refine aE ?_|(refine aM ?_ ?_ <;> intro hc hq <;> try (exfalso;omega))|fail)
  ·have hu : bV ts s x = true := (cH htl).2 ⟨L[k]!, by rw [← hL]; exact aW _ _ hkn, by assumption⟩
   rw [vI hu]
   (refine aF rfl ?_; refine aU () trivial ?_ ⟨.inr (Eq.trans (b := some _) rfl ?_), ⟨.inr (Eq.trans (b := some _) rfl ?_), ⟨.inr (Eq.trans (b := some _) rfl ?_), trivial⟩⟩⟩)
   ·rfl
   ·rfl
   ·rfl
   ·rfl
  ·(refine bH (k + 1) (Le.renA [(3, 3)]) ?_ ?_)
   ·refine ⟨by omega, fun j hj => ?_⟩
    rcases Nat.lt_or_ge j k with h|h
    ·exact hall j h
    ·rw [show j = k by omega]; assumption
   ·omega
 ·have hu : bV ts s x = false := by
   cases q : bV ts s x with
   | false => rfl
   | true =>
    obtain ⟨v, hv, hs⟩ := (cH htl).1 q
    rw [← hL] at hv
    obtain ⟨j, hj, e⟩ := List.getElem_of_mem hv
    have h1 := hall j (by omega)
    rw [aZ _ _ hj, e, hs] at h1;cases h1
  rw [rM hu]
  have hwr := zK s.cells hm s.slots[x.x.toNat]!.ptr s.slots[x.y.toNat]!.num
  have hd : cD ts s x = (⟨s.slots, yX s.cells s.slots[x.x.toNat]!.ptr s.slots[x.y.toNat]!.num, s.read⟩, nN (zQ s.cells s.slots[x.x.toNat]!.ptr s.slots[x.y.toNat]!.num)) := by unfold cD;rw [if_neg (show ¬ x.op = 1 by omega), if_neg (show ¬ x.op = 2 by omega), if_neg (show ¬ x.op = 3 by omega), if_neg (show ¬ (x.op = 4 ∨ x.op = 5) by omega), if_neg (show ¬ x.op = 6 by omega), if_pos ho]
  rw [hd]
  repeat' (first|(apply aI;first|(apply iU;(case hx|hH => rfl);(case hf|hg|hα => infer_instance);(case hk => omega);(case hj => decide);(case hc => exact (rfl:_=[_, _]));(case h0|hN => rfl))|(apply aA (k := 203);rfl;exact hwr;exact Pur.pf;rfl)|(apply aA (k := 201);rfl;(apply rQ);(rfl);rfl))|refine aD ?_|refine aE ?_|(refine aM ?_ ?_ <;> intro hc hq <;> try (exfalso;omega))|refine b0 ?_|fail)
  ·have hk : ¬ zQ s.cells s.slots[x.x.toNat]!.ptr s.slots[x.y.toNat]!.num = 0 := by assumption
   (refine aF rfl ?_; refine aU () trivial ?_ ⟨.inr (Eq.trans (b := some _) rfl ?_), ⟨.inr (Eq.trans (b := some _) rfl ?_), ⟨.inr (Eq.trans (b := some _) rfl ?_), trivial⟩⟩⟩)
   ·show iv (iP _) = iv (nN _)
    unfold nN;rw [if_neg hk]
   ·rfl
   ·rfl
   ·rfl
  ·have hk : zQ s.cells s.slots[x.x.toNat]!.ptr s.slots[x.y.toNat]!.num = 0 := by assumption
   (refine aF rfl ?_; refine aU () trivial ?_ ⟨.inr (Eq.trans (b := some _) rfl ?_), ⟨.inr (Eq.trans (b := some _) rfl ?_), ⟨.inr (Eq.trans (b := some _) rfl ?_), trivial⟩⟩⟩)
   ·rw [hk]; rfl
   ·rfl
   ·rfl
   ·rfl
theorem Pe (ts : List Int) (bd : List AL.Stmt) (pts : List Pnt) (s : Mc) (x : Pnt) (htl : ts.length ≤ 6) (hm : OkM s.cells) (hsl : s.slots.length = ts.length) (ho : x.op = 8) (hx : 0 ≤ x.x ∧ x.x < ts.length) : MC Tryz.prog 140 [.optr 0 0, fL x] [(0, some (mO ts bd pts 1 2 s)), (1, some (flat eE s.slots)), (2, some (flat cI s.read))] 3 (fun _ : Unit => True) (fun _ => iv (dM ts s x).2) (fun _ => [(0, some (mO ts bd pts 1 2 (dM ts s x).1)), (1, some (flat eE (dM ts s x).1.slots)), (2, some (flat cI (dM ts s x).1.read))]) := by
 have hus := iB ts bd pts x htl
 have hsm : Sm (wS ts x [1, 2, 3]) := bY (by omega)
 obtain ⟨L, hL⟩ : ∃ L, L = a8 (wS ts x [1, 2, 3]) := ⟨_, rfl⟩
 have hLl : L.length ≤ 62 := by rw [hL]; exact cR _
 have hmem : ∀ k, k < L.length → 0 ≤ L[k]! ∧ L[k]! < s.slots.length := fun k hk => by
  rw [hsl]; exact gV (by rw [← hL]; exact aW _ _ hk)
 refine aX Tryz.func140 Tryz.ntmps140 ?_
 repeat' (first|(apply aI;first|(apply aA (k := 158);rfl;exact hus;exact Pur.pf;rfl)|(apply aA (k := 120);rfl;(apply fW <;> (assumption));(rfl);rfl))|refine aD ?_|refine aE ?_|refine b0 ?_|fail)
 rw [← hL]
 refine aK (σ := Nat) [0, 3, 26, 27] [0, 1, 2, 3] (fun k => [(28, iv (k : Int))]) (fun k => []) (fun k => k ≤ L.length ∧ ∀ j, j < k → s.slots[(L[j]!).toNat]!.set = true) (fun k => L.length - k) (0) ⟨Nat.zero_le _, fun j h => absurd h (by omega)⟩ ?_
 rintro k ⟨hk, hall⟩
 by_cases hkn : k < L.length
 ·have hmk := hmem k hkn
  repeat' (first|refine aD ?_|refine aE ?_|(refine aM ?_ ?_ <;> intro hc hq <;> try (exfalso;omega))|fail)
  ·have hu : bV ts s x = true := (cH htl).2 ⟨L[k]!, by rw [← hL]; exact aW _ _ hkn, by assumption⟩
   rw [vI hu]
   (refine aF rfl ?_; refine aU () trivial ?_ ⟨.inr (Eq.trans (b := some _) rfl ?_), ⟨.inr (Eq.trans (b := some _) rfl ?_), ⟨.inr (Eq.trans (b := some _) rfl ?_), trivial⟩⟩⟩)
   ·rfl
   ·rfl
   ·rfl
   ·rfl
  ·(refine bH (k + 1) (Le.renA [(3, 3)]) ?_ ?_)
   ·refine ⟨by omega, fun j hj => ?_⟩
    rcases Nat.lt_or_ge j k with h|h
    ·exact hall j h
    ·rw [show j = k by omega]; assumption
   ·omega
 ·have hu : bV ts s x = false := by
   cases q : bV ts s x with
   | false => rfl
   | true =>
    obtain ⟨v, hv, hs⟩ := (cH htl).1 q
    rw [← hL] at hv
    obtain ⟨j, hj, e⟩ := List.getElem_of_mem hv
    have h1 := hall j (by omega)
    rw [aZ _ _ hj, e, hs] at h1;cases h1
  rw [rM hu]
  have hfr := IQ ts bd pts s x.x hm hsl hx
  have hd : cD ts s x = (⟨s.slots.set x.x.toNat lQ, kQ s.cells s.slots[x.x.toNat]!.ptr, s.read⟩, nN (bJ s.cells s.slots[x.x.toNat]!.ptr true)) := by unfold cD;rw [if_neg (show ¬ x.op = 1 by omega), if_neg (show ¬ x.op = 2 by omega), if_neg (show ¬ x.op = 3 by omega), if_neg (show ¬ (x.op = 4 ∨ x.op = 5) by omega), if_neg (show ¬ x.op = 6 by omega), if_neg (show ¬ x.op = 7 by omega), if_pos ho]
  rw [hd]
  repeat' (first|(apply aI;first|(apply F2 (ts := ts) (bd := bd) (pts := pts) (s := s) (v := x.x);rfl;rfl;rfl;rfl;rfl;rfl;exact hfr;rfl;rfl)|(apply bT;rfl;rfl;rfl;rfl;rfl;(rw [aL]; simp only [hU] <;> omega);(exact DT (by (omega)))))|refine aD ?_|refine aE ?_|(refine aM ?_ ?_ <;> intro hc hq <;> try (exfalso;omega))|refine b0 ?_|fail)
  (refine aF rfl ?_; refine aU () trivial ?_ ⟨.inr (Eq.trans (b := some _) rfl ?_), ⟨.inr (Eq.trans (b := some _) rfl ?_), ⟨.inr (Eq.trans (b := some _) rfl ?_), trivial⟩⟩⟩)
  ·rfl
  ·rfl
  ·rfl
  ·rfl
theorem Pm (ts : List Int) (bd : List AL.Stmt) (pts : List Pnt) (s : Mc) (x : Pnt) (htl : ts.length ≤ 6) (hm : OkM s.cells) (hsl : s.slots.length = ts.length) (ho : x.op = 9 ∨ x.op = 10 ∨ x.op = 11) : MC Tryz.prog 140 [.optr 0 0, fL x] [(0, some (mO ts bd pts 1 2 s)), (1, some (flat eE s.slots)), (2, some (flat cI s.read))] 3 (fun _ : Unit => True) (fun _ => iv (dM ts s x).2) (fun _ => [(0, some (mO ts bd pts 1 2 (dM ts s x).1)), (1, some (flat eE (dM ts s x).1.slots)), (2, some (flat cI (dM ts s x).1.read))]) := by
 have hus := iB ts bd pts x htl
 have hsm : Sm (wS ts x [1, 2, 3]) := bY (by omega)
 obtain ⟨L, hL⟩ : ∃ L, L = a8 (wS ts x [1, 2, 3]) := ⟨_, rfl⟩
 have hLl : L.length ≤ 62 := by rw [hL]; exact cR _
 have hmem : ∀ k, k < L.length → 0 ≤ L[k]! ∧ L[k]! < s.slots.length := fun k hk => by
  rw [hsl]; exact gV (by rw [← hL]; exact aW _ _ hk)
 refine aX Tryz.func140 Tryz.ntmps140 ?_
 repeat' (first|(apply aI;first|(apply aA (k := 158);rfl;exact hus;exact Pur.pf;rfl)|(apply aA (k := 120);rfl;(apply fW <;> (assumption));(rfl);rfl))|refine aD ?_|refine aE ?_|refine b0 ?_|fail)
 rw [← hL]
 refine aK (σ := Nat) [0, 3, 26, 27] [0, 1, 2, 3] (fun k => [(28, iv (k : Int))]) (fun k => []) (fun k => k ≤ L.length ∧ ∀ j, j < k → s.slots[(L[j]!).toNat]!.set = true) (fun k => L.length - k) (0) ⟨Nat.zero_le _, fun j h => absurd h (by omega)⟩ ?_
 rintro k ⟨hk, hall⟩
 by_cases hkn : k < L.length
 ·have hmk := hmem k hkn
  repeat' (first|refine aD ?_|refine aE ?_|(refine aM ?_ ?_ <;> intro hc hq <;> try (exfalso;omega))|fail)
  ·have hu : bV ts s x = true := (cH htl).2 ⟨L[k]!, by rw [← hL]; exact aW _ _ hkn, by assumption⟩
   rw [vI hu]
   (refine aF rfl ?_; refine aU () trivial ?_ ⟨.inr (Eq.trans (b := some _) rfl ?_), ⟨.inr (Eq.trans (b := some _) rfl ?_), ⟨.inr (Eq.trans (b := some _) rfl ?_), trivial⟩⟩⟩)
   ·rfl
   ·rfl
   ·rfl
   ·rfl
  ·(refine bH (k + 1) (Le.renA [(3, 3)]) ?_ ?_)
   ·refine ⟨by omega, fun j hj => ?_⟩
    rcases Nat.lt_or_ge j k with h|h
    ·exact hall j h
    ·rw [show j = k by omega]; assumption
   ·omega
 ·have hu : bV ts s x = false := by
   cases q : bV ts s x with
   | false => rfl
   | true =>
    obtain ⟨v, hv, hs⟩ := (cH htl).1 q
    rw [← hL] at hv
    obtain ⟨j, hj, e⟩ := List.getElem_of_mem hv
    have h1 := hall j (by omega)
    rw [aZ _ _ hj, e, hs] at h1;cases h1
  rw [rM hu]
  by_cases h11 : x.op = 11
  ·have hd : cD ts s x = cM ts ts.length 0 s := BM h11
   rw [hd]
   have hfi := No ts bd pts s hm hsl (by omega)
   repeat' (first|(apply aI;(apply Lf (ts := ts) (bd := bd) (pts := pts) (s := s);rfl;rfl;rfl;rfl;rfl;exact hfi;rfl;rfl))|refine aD ?_|refine aE ?_|(refine aM ?_ ?_ <;> intro hc hq <;> try (exfalso;omega))|fail)
   (refine aF rfl ?_; refine aU () trivial ?_ ⟨.inr (Eq.trans (b := some _) rfl ?_), ⟨.inr (Eq.trans (b := some _) rfl ?_), ⟨.inr (Eq.trans (b := some _) rfl ?_), trivial⟩⟩⟩)
   ·rfl
   ·rfl
   ·rfl
   ·rfl
  ·have hd : cD ts s x = (s, -1) := by unfold cD; rw [if_neg (show ¬ x.op = 1 by omega), if_neg (show ¬ x.op = 2 by omega), if_neg (show ¬ x.op = 3 by omega), if_neg (show ¬ (x.op = 4 ∨ x.op = 5) by omega), if_neg (show ¬ x.op = 6 by omega), if_neg (show ¬ x.op = 7 by omega), if_neg (show ¬ x.op = 8 by omega), if_neg (show ¬ x.op = 11 by omega)]
   rw [hd]
   repeat' (first|refine aD ?_|refine aE ?_|(refine aM ?_ ?_ <;> intro hc hq <;> try (exfalso;omega))|fail)
   (refine aF rfl ?_; refine aU () trivial ?_ ⟨.inr (Eq.trans (b := some _) rfl ?_), ⟨.inr (Eq.trans (b := some _) rfl ?_), ⟨.inr (Eq.trans (b := some _) rfl ?_), trivial⟩⟩⟩)
   ·rfl
   ·rfl
   ·rfl
   ·rfl
theorem NT (ts : List Int) (bd : List AL.Stmt) (pts : List Pnt) (s : Mc) (x : Pnt) (htl : ts.length ≤ 6) (hm : OkM s.cells) (hsl : s.slots.length = ts.length) (ho : x.op = 6) (hrl : s.read.length ≤ 1000) (hx : 0 ≤ x.x ∧ x.x < ts.length) (hy : 0 ≤ x.y ∧ x.y < ts.length) (hz : bJ s.cells s.slots[x.y.toNat]!.ptr false = 0) (hun : bV ts s x = false) : MC Tryz.prog 140 [.optr 0 0, fL x] [(0, some (mO ts bd pts 1 2 s)), (1, some (flat eE s.slots)), (2, some (flat cI s.read))] 3 (fun _ : Unit => True) (fun _ => iv (dM ts s x).2) (fun _ => [(0, some (mO ts bd pts 1 5 (dM ts s x).1)), (1, some (flat eE (dM ts s x).1.slots)), (5, some (flat cI (dM ts s x).1.read))]) := by
 have hus := iB ts bd pts x htl
 have hsm : Sm (wS ts x [1, 2, 3]) := bY (by omega)
 obtain ⟨L, hL⟩ : ∃ L, L = a8 (wS ts x [1, 2, 3]) := ⟨_, rfl⟩
 have hLl : L.length ≤ 62 := by rw [hL]; exact cR _
 have hmem : ∀ k, k < L.length → 0 ≤ L[k]! ∧ L[k]! < s.slots.length := fun k hk => by
  rw [hsl]; exact gV (by rw [← hL]; exact aW _ _ hk)
 refine aX Tryz.func140 Tryz.ntmps140 ?_
 repeat' (first|(apply aI;first|(apply aA (k := 158);rfl;exact hus;exact Pur.pf;rfl)|(apply aA (k := 120);rfl;(apply fW <;> (assumption));(rfl);rfl))|refine aD ?_|refine aE ?_|refine b0 ?_|fail)
 rw [← hL]
 refine aK (σ := Nat) [0, 3, 26, 27] [0, 1, 2, 3] (fun k => [(28, iv (k : Int))]) (fun k => []) (fun k => k ≤ L.length ∧ ∀ j, j < k → s.slots[(L[j]!).toNat]!.set = true) (fun k => L.length - k) (0) ⟨Nat.zero_le _, fun j h => absurd h (by omega)⟩ ?_
 rintro k ⟨hk, hall⟩
 by_cases hkn : k < L.length
 ·have hmk := hmem k hkn
  repeat' (first|refine aD ?_|refine aE ?_|(refine aM ?_ ?_ <;> intro hc hq <;> try (exfalso;omega))|fail)
  ·exfalso
   have hu : bV ts s x = true := (cH htl).2 ⟨L[k]!, by rw [← hL]; exact aW _ _ hkn, by assumption⟩
   rw [hun] at hu;cases hu
  ·(refine bH (k + 1) (Le.renA [(3, 3)]) ?_ ?_)
   ·refine ⟨by omega, fun j hj => ?_⟩
    rcases Nat.lt_or_ge j k with h|h
    ·exact hall j h
    ·rw [show j = k by omega]; assumption
   ·omega
 ·have hu : bV ts s x = false := by
   cases q : bV ts s x with
   | false => rfl
   | true =>
    obtain ⟨v, hv, hs⟩ := (cH htl).1 q
    rw [← hL] at hv
    obtain ⟨j, hj, e⟩ := List.getElem_of_mem hv
    have h1 := hall j (by omega)
    rw [aZ _ _ hj, e, hs] at h1;cases h1
  rw [rM hu]
  have hrc := rC s.cells hm s.slots[x.y.toNat]!.ptr
  have hp := m8 ts bd pts ⟨s.slots, j9 s.cells s.slots[x.y.toNat]!.ptr false, s.read ++ [zT s.cells s.slots[x.y.toNat]!.ptr]⟩ x.x ⟨true, zT s.cells s.slots[x.y.toNat]!.ptr, ⟨0, 0⟩⟩ (hm.tch _ _) hsl hx
  have hd : cD ts s x = cJ ts ⟨s.slots, j9 s.cells s.slots[x.y.toNat]!.ptr false, s.read ++ [zT s.cells s.slots[x.y.toNat]!.ptr]⟩ x.x.toNat ⟨true, zT s.cells s.slots[x.y.toNat]!.ptr, ⟨0, 0⟩⟩ := by unfold cD;rw [if_neg (show ¬ x.op = 1 by omega), if_neg (show ¬ x.op = 2 by omega), if_neg (show ¬ x.op = 3 by omega), if_neg (show ¬ (x.op = 4 ∨ x.op = 5) by omega), if_pos ho, if_pos hz]
  rw [hd]
  rw [hz] at hrc
  repeat' (first|(apply aI;first|(apply iU;(case hx|hH => rfl);(case hf|hg|hα => infer_instance);(case hk => omega);(case hj => decide);(case hc => exact (rfl:_=[_, _]));(case h0|hN => rfl))|(apply aA (k := 202);rfl;exact hrc;exact Pur.pf;rfl)|(with_reducible apply a7 (d := 184))|(apply aO (t := _);rfl;rfl;rfl;exact (rfl:_=some [_]);rfl;rfl))|refine aD ?_|refine aE ?_|(refine aM ?_ ?_ <;> intro hc hq <;> try (exfalso;omega))|refine b0 ?_|fail)
  refine cK ?_
  rw [show s.read.length + 1 = (s.read ++ [zT s.cells s.slots[x.y.toNat]!.ptr]).length from by rw [List.length_append]; rfl]
  repeat' (first|(apply aI;(apply kN (ts := ts) (bd := bd) (pts := pts) (s := ⟨s.slots, j9 s.cells s.slots[x.y.toNat]!.ptr false, s.read ++ [zT s.cells s.slots[x.y.toNat]!.ptr]⟩) (v := x.x) (y := ⟨true, zT s.cells s.slots[x.y.toNat]!.ptr, ⟨0, 0⟩⟩);rfl;rfl;rfl;rfl;rfl;rfl;rfl;exact hp;rfl;rfl))|refine aD ?_|refine aE ?_|fail)
  (refine aF rfl ?_; refine aU () trivial ?_ ⟨.inr (Eq.trans (b := some _) rfl ?_), ⟨.inr (Eq.trans (b := some _) rfl ?_), ⟨.inr (Eq.trans (b := some _) rfl ?_), trivial⟩⟩⟩)
  ·rfl
  ·rfl
  ·rfl
  ·rfl
theorem OH (ts : List Int) (bd : List AL.Stmt) (pts : List Pnt) (s : Mc) (x : Pnt) (htl : ts.length ≤ 6) (hm : OkM s.cells) (hsl : s.slots.length = ts.length) (hun : bV ts s x = true) : MC Tryz.prog 140 [.optr 0 0, fL x] [(0, some (mO ts bd pts 1 2 s)), (1, some (flat eE s.slots)), (2, some (flat cI s.read))] 3 (fun _ : Unit => True) (fun _ => iv (dM ts s x).2) (fun _ => [(0, some (mO ts bd pts 1 2 (dM ts s x).1)), (1, some (flat eE (dM ts s x).1.slots)), (2, some (flat cI (dM ts s x).1.read))]) := by
 have hus := iB ts bd pts x htl
 have hsm : Sm (wS ts x [1, 2, 3]) := bY (by omega)
 obtain ⟨L, hL⟩ : ∃ L, L = a8 (wS ts x [1, 2, 3]) := ⟨_, rfl⟩
 have hLl : L.length ≤ 62 := by rw [hL]; exact cR _
 have hmem : ∀ k, k < L.length → 0 ≤ L[k]! ∧ L[k]! < s.slots.length := fun k hk => by
  rw [hsl]; exact gV (by rw [← hL]; exact aW _ _ hk)
 refine aX Tryz.func140 Tryz.ntmps140 ?_
 repeat' (first|(apply aI;first|(apply aA (k := 158);rfl;exact hus;exact Pur.pf;rfl)|(apply aA (k := 120);rfl;(apply fW <;> (assumption));(rfl);rfl))|refine aD ?_|refine aE ?_|refine b0 ?_|fail)
 rw [← hL]
 refine aK (σ := Nat) [0, 3, 26, 27] [0, 1, 2, 3] (fun k => [(28, iv (k : Int))]) (fun k => []) (fun k => k ≤ L.length ∧ ∀ j, j < k → s.slots[(L[j]!).toNat]!.set = true) (fun k => L.length - k) (0) ⟨Nat.zero_le _, fun j h => absurd h (by omega)⟩ ?_
 rintro k ⟨hk, hall⟩
 by_cases hkn : k < L.length
 ·have hmk := hmem k hkn
  repeat' (first|refine aD ?_|refine aE ?_|(refine aM ?_ ?_ <;> intro hc hq <;> try (exfalso;omega))|fail)
  ·have hu : bV ts s x = true := (cH htl).2 ⟨L[k]!, by rw [← hL]; exact aW _ _ hkn, by assumption⟩
   rw [vI hu]
   (refine aF rfl ?_; refine aU () trivial ?_ ⟨.inr (Eq.trans (b := some _) rfl ?_), ⟨.inr (Eq.trans (b := some _) rfl ?_), ⟨.inr (Eq.trans (b := some _) rfl ?_), trivial⟩⟩⟩)
   ·rfl
   ·rfl
   ·rfl
   ·rfl
  ·(refine bH (k + 1) (Le.renA [(3, 3)]) ?_ ?_)
   ·refine ⟨by omega, fun j hj => ?_⟩
    rcases Nat.lt_or_ge j k with h|h
    ·exact hall j h
    ·rw [show j = k by omega]; assumption
   ·omega
 ·have hu : bV ts s x = false := by
   cases q : bV ts s x with
   | false => rfl
   | true =>
    obtain ⟨v, hv, hs⟩ := (cH htl).1 q
    rw [← hL] at hv
    obtain ⟨j, hj, e⟩ := List.getElem_of_mem hv
    have h1 := hall j (by omega)
    rw [aZ _ _ hj, e, hs] at h1;cases h1
  rw [rM hu]
  rw [hun] at hu;cases hu
theorem La {ts : List Int} {bd : List AL.Stmt} {pts : List Pnt} {s : Mc} {x : Pnt} {N : Nat} {Q : Exit → AS → Prop} {all : Array Oper} {rest : List Oper} {tsl : List (Nat × AV)} {hsl : List (Nat × Option (List AV))} {nidl : Nat} {z0 : Lo} {md : Md} {d : Nat} {ty : TypeId} {pos : String} {af : Array Edge} {tys : Array TypeId} {x0 x1 : Operand} {i0 i1 i2 : Nat} (ha0 : ev (lk tsl) x0 = some (.optr i0 0)) (ha1 : ev (lk tsl) x1 = some (fL x)) (hH0 : aS hsl i0 = some (mO ts bd pts i1 i2 s)) (hH1 : aS hsl i1 = some (flat eE s.slots)) (hH2 : aS hsl i2 = some (flat cI s.read)) (hdd : Go.AL.distinct [i0, i1, i2] = true) (hmc : MC Tryz.prog 140 [.optr 0 0, fL x] [(0, some (mO ts bd pts 1 2 s)), (1, some (flat eE s.slots)), (2, some (flat cI s.read))] 3 (fun _ : Unit => True) (fun _ => iv (dM ts s x).2) (fun _ => [(0, some (mO ts bd pts 1 5 (dM ts s x).1)), (1, some (flat eE (dM ts s x).1.slots)), (5, some (flat cI (dM ts s x).1.read))])) (hM : Nat.ble (nidl + 3) aY = true) (hN : Nat.blt d N = true) {md' : Md} [hmd : MdA md (fK [x0, x1] ++ [.inr i0, .inr i1, .inr i2]) (List.map Sum.inr (List.map Prod.fst ([(i0, some (mO ts bd pts i1 (nidl + 2) (dM ts s x).1)), (i1, some (flat eE (dM ts s x).1.slots)), ((nidl + 2), some (flat cI (dM ts s x).1.read)), (i2, none)] : List (Nat × Option (List AV)))) ++ [.inl d]) md'] (kk : RW Tryz.prog N all Q md' rest ⟨(d, iv (dM ts s x).2) :: tsl, gR hsl [(i0, some (mO ts bd pts i1 (nidl + 2) (dM ts s x).1)), (i1, some (flat eE (dM ts s x).1.slots)), ((nidl + 2), some (flat cI (dM ts s x).1.read)), (i2, none)], nidl + 3, z0⟩) : RW Tryz.prog N all Q md (⟨some d, .call ⟨.value (.func 140), #[x0, x1], tys⟩, ty, pos, af, none⟩ :: rest) ⟨tsl, hsl, nidl, z0⟩ := by
 refine a6 [i0, i1, i2] 6 [(i0, some (mO ts bd pts i1 (nidl + 2) (dM ts s x).1)), (i1, some (flat eE (dM ts s x).1.slots)), ((nidl + 2), some (flat cI (dM ts s x).1.read)), (i2, none)] hmc (avs := [.optr i0 0, fL x]) ?_ hdd ?_ rfl ?_ (by simpa using hM) ?_ ?_ ?_ hN (md' := md') (hmd := hmd) kk
 ·show evL (lk tsl) [x0, x1] = _
  simp only [evL, ha0, ha1]
 ·exact ⟨⟨_, _, rfl, hH0, by (repeat' (first|exact RnL.purI inferInstance|exact RnV.purI inferInstance|exact RnV.own rfl|refine RnL.cons ?_ ?_))⟩, ⟨⟨_, _, rfl, hH1, by (repeat' (exact RnL.purI inferInstance))⟩, ⟨⟨_, _, rfl, hH2, by (repeat' (exact RnL.purI inferInstance))⟩, trivial⟩⟩⟩
 ·(repeat' (first|exact RnL.purI inferInstance|exact RnV.optr rfl|refine RnL.cons ?_ ?_))
 ·(repeat' (exact RnV.purI inferInstance))
 ·simp [cA]
 ·(repeat' (first|exact trivial|(refine And.intro ⟨0, _, rfl, rfl, ?_⟩ ?_)|(refine And.intro ⟨1, _, rfl, rfl, ?_⟩ ?_)|(refine And.intro ⟨5, _, rfl, rfl, ?_⟩ ?_)|exact RnL.purI inferInstance|exact RnV.purI inferInstance|exact RnV.own rfl|refine RnL.cons ?_ ?_))
theorem Oo (ts : List Int) (bd : List AL.Stmt) (pts : List Pnt) (s : Mc) (x : Pnt) (htl : ts.length ≤ 6) (hm : OkM s.cells) (hsl : s.slots.length = ts.length) (hop : 1 ≤ x.op ∧ x.op ≤ 11) (hrl : s.read.length ≤ 1000)
  (hx : x.op ≤ 8 → 0 ≤ x.x ∧ x.x < ts.length) (hy : 3 ≤ x.op → x.op ≤ 7 → 0 ≤ x.y ∧ x.y < ts.length) (hn : x.op = 2 → 0 ≤ x.n ∧ x.n ≤ 9) (h6 : ¬ (x.op = 6 ∧ bJ s.cells s.slots[x.y.toNat]!.ptr false = 0 ∧ bV ts s x = false)) : MC Tryz.prog 140 [.optr 0 0, fL x] [(0, some (mO ts bd pts 1 2 s)), (1, some (flat eE s.slots)), (2, some (flat cI s.read))] 3 (fun _ : Unit => True) (fun _ => iv (dM ts s x).2) (fun _ => [(0, some (mO ts bd pts 1 2 (dM ts s x).1)), (1, some (flat eE (dM ts s x).1.slots)), (2, some (flat cI (dM ts s x).1.read))]) := by
 by_cases h1 : x.op = 1
 ·exact OG ts bd pts s x htl hm hsl h1 (hx (by omega))
 by_cases h2 : x.op = 2
 ·exact O0 ts bd pts s x htl hm hsl h2 (hn h2) (hx (by omega))
 by_cases h3 : x.op = 3
 ·exact Ow ts bd pts s x htl hm hsl h3 (hx (by omega)) (hy (by omega) (by omega))
 by_cases h4 : x.op = 4 ∨ x.op = 5
 ·exact ND ts bd pts s x htl hm hsl h4 (hx (by omega)) (hy (by omega) (by omega))
 by_cases h6' : x.op = 6
 ·by_cases hu : bV ts s x = true
  ·exact OH ts bd pts s x htl hm hsl hu
  ·exact OF ts bd pts s x htl hm hsl h6' hrl (hx (by omega)) (hy (by omega) (by omega)) (fun q => h6 ⟨h6', q, by simpa using hu⟩)
 by_cases h7 : x.op = 7
 ·exact OR ts bd pts s x htl hm hsl h7 (hx (by omega)) (hy (by omega) (by omega))
 by_cases h8 : x.op = 8
 ·exact Pe ts bd pts s x htl hm hsl h8 (hx (by omega))
 ·exact Pm ts bd pts s x htl hm hsl (by omega)
theorem Ca (x : Pnt) (h : x.next.length ≤ 1000000) : PC Tryz.prog 91 [fL x] (fun r => r = bv (decide (x.next.length = 2))) := by
 refine aB Tryz.func91 Tryz.ntmps91 ?_
 repeat' (first|refine aD ?_|refine aE ?_|fail)
 refine aF rfl ⟨?_, rfl⟩
 simp only [aQ, AV.v.injEq, Value.bool.injEq, decide_eq_decide]; omega
theorem OJ {pts : List Pnt} {a : Nat} {C : List Int} (h : pts[a]!.next.length = 2) (hC : 0 < C.length) : dX pts a C = ((pts[a]!.next[(C[0]! % 2).toNat]!).toNat, C.drop 1) := by
 cases C with
 | nil => simp at hC
 | cons c C => unfold dX;rw [if_pos h]; rfl
theorem Oh {pts : List Pnt} {a : Nat} (h : pts[a]!.next.length = 2) : dX pts a [] = ((pts[a]!.next[1]!).toNat, []) := by unfold dX; rw [if_pos h]
theorem Hb {pts : List Pnt} {n a b : Nat} {out C C2 : List Int} {q : List Int × Bool} (h : ¬ pts[a]!.op = 11) (ho : out.length ≤ n) (hs : dX pts a C = (b, C2)) (hq : q = (out ++ (wm pts (n - out.length) a C).1, (wm pts (n - out.length) a C).2)) :
  ((out ++ [(a : Int)]).length ≤ n ∧ q = ((out ++ [(a : Int)]) ++ (wm pts (n - (out ++ [(a : Int)]).length) b C2).1, (wm pts (n - (out ++ [(a : Int)]).length) b C2).2)) ∨ ((out ++ [(a : Int)]).length = n + 1 ∧ q = ((out ++ [(a : Int)]).take n, false)) := by
 have hl : (out ++ [(a : Int)]).length = out.length + 1 := by rw [List.length_append]; rfl
 rcases Nat.lt_or_ge out.length n with h1|h1
 ·exact .inl ⟨by omega, KS h h1 hs hq⟩
 ·refine .inr ⟨by omega, ?_⟩
  have e : out.length = n := by omega
  rw [hq, e, Nat.sub_self, NX h, ← e, List.take_left' rfl, List.append_nil]
theorem N9 (ts : List Int) (bd : List AL.Stmt) (pts : List Pnt) (cs : List Int) (n : Nat) (w : WG ts pts) (wa : WA ts pts) (hn : n ≤ 1000) (hcl : cs.length ≤ 1000000) : PC Tryz.prog 139 [aG ts bd pts, sl cI cs, iv (n : Int)] (fun r => r = .tup [sl cI (wm pts n 0 cs).1, bv (wm pts n 0 cs).2]) := by
 have hpl := w.pl
 have hp0 := w.p0
 refine aB Tryz.func139 Tryz.ntmps139 ?_
 repeat' (first|(apply aI;(apply gB (d := 8) (e := 1);rfl;rfl))|refine aD ?_|refine aE ?_|fail)
 refine aK (σ := Int × List Int × Nat × List Int) [0, 2] [] (fun k => [(9, iv k.1), (1, sl cI k.2.2.2), (8, .own 0 0 k.2.2.1 1)]) (fun k => [(0, some (flat cI k.2.1))]) (fun k => (0 ≤ k.1 ∧ k.1 < pts.length) ∧ k.2.2.1 = k.2.1.length ∧ k.2.2.2.length ≤ 1000000 ∧ ((k.2.1.length ≤ n ∧ wm pts n 0 cs = (k.2.1 ++ (wm pts (n - k.2.1.length) k.1.toNat k.2.2.2).1, (wm pts (n - k.2.1.length) k.1.toNat k.2.2.2).2)) ∨ (k.2.1.length = n + 1 ∧ wm pts n 0 cs = (k.2.1.take n, false)))) (fun k => n + 1 - k.2.1.length) (0, [], 0, cs) ⟨⟨Int.le_refl _, by show (0 : Int) < _; omega⟩, rfl, hcl, .inl ⟨Nat.zero_le _, rfl⟩⟩ ?_
 rintro ⟨a, out, m, C⟩ ⟨⟨ha0, ha⟩, hm, hC, hw⟩
 dsimp only at ha0 ha hm hC hw ⊢
 by_cases hout : out.length ≤ n
 ·have hw2 : wm pts n 0 cs = (out ++ (wm pts (n - out.length) a.toNat C).1, (wm pts (n - out.length) a.toNat C).2) := by
   rcases hw with h|h
   ·exact h.2
   ·omega
  have hat : (a.toNat : Int) = a := Int.toNat_of_nonneg ha0
  have hnx := w.nx a.toNat (by omega)
  have hnl := w.nl a.toNat (by omega)
  have hn1 := wa.n a.toNat (by omega)
  have hk : ∀ k, k < pts[a.toNat]!.next.length → 0 ≤ pts[a.toNat]!.next[k]! ∧ pts[a.toNat]!.next[k]! < pts.length := fun k h => hnx _ (aW _ _ h)
  have hch := Ca pts[a.toNat]! (by omega)
  repeat' (first|(apply aI;first|(apply aA (k := 91);rfl;exact hch;exact Pur.pf;rfl)|(apply K4;rfl;rfl;rfl)|(apply aO (t := _);rfl;rfl;rfl;exact (rfl:_=some [_]);rfl;rfl))|refine aD ?_|refine aE ?_|(refine aM ?_ ?_ <;> intro hc hq <;> try (exfalso;omega))|refine b0 ?_|fail)
  ·have hop : pts[a.toNat]!.op = 11 := by assumption
   have e : wm pts n 0 cs = (out ++ [a], true) := by rw [hw2, NU hop, hat]
   rw [e]
   (refine aV (Le.frzD (d := 6) (i := 2) rfl rfl) ?_; refine aF rfl ?_)
   refine ⟨?_, (by exact Pur.pf)⟩
   simp only [aQ, sl]
   rw [hm, List.length_append]; rfl
  ·have hop : ¬ pts[a.toNat]!.op = 11 := by assumption
   have hst := Hb hop hout (OU (by omega)) hw2
   rw [hat] at hst
   have hk := hk 0 (by omega)
   (refine bH (pts[a.toNat]!.next[0]!, _, _, C) (Le.renA [(0, 2)]) ?_ ?_)
   ·exact ⟨hk, by dsimp only;rw [List.length_append, hm]; rfl, hC, hst⟩
   ·dsimp only;rw [List.length_append]; simp only [List.length_singleton]; omega
  ·have hop : ¬ pts[a.toNat]!.op = 11 := by assumption
   have hC0 : 0 < C.length := by omega
   have hst := Hb hop hout (OJ (by omega) hC0) hw2
   rw [hat] at hst
   have hk := hk (C[0]! % 2).toNat (by omega)
   have hCe : List.take (C.length - Int.toNat 1) (List.drop (Int.toNat 1) C) = C.drop 1 := List.take_of_length_le (by rw [List.length_drop]; exact Nat.le_refl _)
   rw [hCe]
   (refine bH (pts[a.toNat]!.next[(C[0]! % 2).toNat]!, _, _, C.drop 1) (Le.renA [(0, 2)]) ?_ ?_)
   ·exact ⟨hk, by dsimp only;rw [List.length_append, hm]; rfl, by dsimp only;rw [List.length_drop]; omega, hst⟩
   ·dsimp only;rw [List.length_append]; simp only [List.length_singleton]; omega
  ·have hop : ¬ pts[a.toNat]!.op = 11 := by assumption
   have hC0 : C = [] := List.eq_nil_of_length_eq_zero (by omega)
   subst hC0
   have hst := Hb hop hout (Oh (by omega)) hw2
   rw [hat] at hst
   have hk := hk 1 (by omega)
   (refine bH (pts[a.toNat]!.next[1]!, _, _, []) (Le.renA [(0, 2)]) ?_ ?_)
   ·exact ⟨hk, by dsimp only;rw [List.length_append, hm]; rfl, hC, hst⟩
   ·dsimp only;rw [List.length_append]; simp only [List.length_singleton]; omega
 ·have hw2 : out.length = n + 1 ∧ wm pts n 0 cs = (out.take n, false) := by
   rcases hw with h|h
   ·omega
   ·exact h
  repeat' (first|(apply aI;(apply eY (d := 59) (l := 0) (h := n);rfl;rfl;rfl;exact k8 rfl (by omega);exact if_pos (by omega);rfl))|refine aD ?_|refine aE ?_|(refine aM ?_ ?_ <;> intro hc hq <;> try (exfalso;omega))|fail)
  refine aV (Le.cut (i := 0) (n * 1) rfl) ?_
  refine aV (Le.frzD (d := 6) (i := 0) rfl rfl) ?_
  rw [hw2.2, dC cI (e := 1)]
  refine aF (l := [.imm (n - 0) (flat cI (out.take n)), bv false]) rfl ⟨?_, (by exact Pur.pf)⟩
  rw [nR (by rw [List.length_take]; omega)]
  rfl
theorem Ep {p : Prg} {cs : List Int} {n : Int} {N : Nat} {Q : Exit → AS → Prop} {all : Array Oper} {rest : List Oper} {tsl : List (Nat × AV)} {hsl : List (Nat × Option (List AV))} {nidl : Nat} {z0 : Lo} {md : Md} {d : Nat} {ty : TypeId} {pos : String} {af : Array Edge} {tys : Array TypeId} {x0 x1 x2 : Operand} (ha0 : ev (lk tsl) x0 = some (bQ p)) (ha1 : ev (lk tsl) x1 = some (sl cI cs)) (ha2 : ev (lk tsl) x2 = some (iv n)) (hmc : MC Tryz.prog 69 [bQ p, sl cI cs, iv n] [] 0 (fun _ : Unit => True) (fun _ => .tup [.optr 1 0, iv 5, iv 0]) (fun _ => [(1, some ([.v (.pointer none), .imm 0 [], .imm 0 [], .imm 0 []]))])) (hM : Nat.ble (nidl + 2) aY = true) (hN : Nat.blt d N = true) {md' : Md} [hmd : MdA md (fK [x0, x1, x2] ++ []) (List.map Sum.inr (List.map Prod.fst ([((nidl + 1), some ([.v (.pointer none), .imm 0 [], .imm 0 [], .imm 0 []]))] : List (Nat × Option (List AV)))) ++ [.inl d]) md'] (kk : RW Tryz.prog N all Q md' rest ⟨(d, .tup [.optr (nidl + 1) 0, iv 5, iv 0]) :: tsl, gR hsl [((nidl + 1), some ([.v (.pointer none), .imm 0 [], .imm 0 [], .imm 0 []]))], nidl + 2, z0⟩) : RW Tryz.prog N all Q md (⟨some d, .call ⟨.value (.func 69), #[x0, x1, x2], tys⟩, ty, pos, af, none⟩ :: rest) ⟨tsl, hsl, nidl, z0⟩ := by
 refine a6 [] 2 [((nidl + 1), some ([.v (.pointer none), .imm 0 [], .imm 0 [], .imm 0 []]))] hmc (avs := [bQ p, sl cI cs, iv n]) ?_ rfl ?_ rfl ?_ (by simpa using hM) ?_ ?_ ?_ hN (md' := md') (hmd := hmd) kk
 ·show evL (lk tsl) [x0, x1, x2] = _
  simp only [evL, ha0, ha1, ha2]
 ·exact trivial
 ·(repeat' (exact RnL.purI inferInstance))
 ·(repeat' (first|exact RnL.purI inferInstance|exact RnV.optr rfl|refine RnL.cons ?_ ?_|refine RnV.tup ?_))
 ·simp [cA]
 ·(repeat' (first|exact trivial|(refine And.intro ⟨1, _, rfl, rfl, ?_⟩ ?_)|exact RnL.purI inferInstance))
theorem Le.nilMid {ts : List (Nat × AV)} {hs : List (Nat × Option (List AV))} {n : Nat} {z0 : Lo} {i : Nat} (c1 : List AV) {c2 : List AV} (hi : aS hs i = some (c1 ++ .v (.slice none 0 0) :: c2)) :
  Le ⟨ts, hs, n, z0⟩ ⟨ts, (i, some (c1 ++ .imm 0 [] :: c2)) :: hs, n, z0⟩ :=
 Le.cells hi (by simp) fun w bad ι b β h => sB (fun y hy => by have := lU (av := .v (.slice none 0 0)) hy;exact this) c1 c2 b β h
theorem Nm {ts : List Int} {pts : List Pnt} {a last : Nat} {l : List Nat} {s : Mc} : gO ts pts (a :: l) s last = if (dM ts s pts[a]!).2 = -1 then gO ts pts l (dM ts s pts[a]!).1 a else ((dM ts s pts[a]!).1, (dM ts s pts[a]!).2, a) := by
 rw [gO]
 by_cases h : bV ts s pts[a]! = true
 ·rw [if_pos h, vI h, if_neg (show ¬ (2 : Int) = -1 by decide)]
 ·have h2 : bV ts s pts[a]! = false := by simpa using h
  rw [if_neg h, rM h2]
theorem OV {ts : List Int} {nt : Nat} {s : Mc} (h : OkS nt s) {x : Pnt} (hx : PtN x) : OkS nt (dM ts s x).1 := by
 unfold dM;split
 ·exact h
 ·exact h.do hx
theorem Kr {ts : List Int} {s : Mc} {x : Pnt} : (dM ts s x).1.read.length ≤ s.read.length + 1 := by
 unfold dM;split
 ·dsimp only;omega
 ·exact BR
theorem PL {ts : List Int} {s : Mc} {x : Pnt} (ho : x.op = 6) (hz : bJ s.cells s.slots[x.y.toNat]!.ptr false = 0) (hu : bV ts s x = false) (ht : ts[x.x.toNat]! = 1) : (dM ts s x).2 = -1 := by
 rw [rM hu]
 unfold cD
 rw [if_neg (show ¬ x.op = 1 by omega), if_neg (show ¬ x.op = 2 by omega), if_neg (show ¬ x.op = 3 by omega), if_neg (show ¬ (x.op = 4 ∨ x.op = 5) by omega), if_pos ho, if_pos hz]
 unfold cJ
 rw [if_neg (fun h => by have := h.1;omega)]
theorem HX (p : Prg) (cs : List Int) (n : Int) (hl : p.types.length ≤ 1000000) (hs : aP p.body ≤ 1000000) (hr : Gp p n = false) : MC Tryz.prog 69 [bQ p, sl cI cs, iv n] [] 0 (fun _ : Unit => True) (fun _ => .tup [.optr 1 0, iv 5, iv 0]) (fun _ => [(1, some ([.v (.pointer none), .imm 0 [], .imm 0 [], .imm 0 []]))]) := by
 have hg := kG p hl hs
 unfold Gp at hr
 by_cases hv : bB p = true
 ·rw [if_pos hv] at hg
  rw [hv] at hr
  have hnn : ¬ (0 ≤ n ∧ n ≤ 150) := fun h => by rw [decide_eq_true h.1, decide_eq_true h.2] at hr;cases hr
  refine aX Tryz.func69 Tryz.ntmps69 ?_
  repeat' (first|(apply aI;first|(apply aA (k := 72);rfl;exact hg;exact Pur.pf;rfl)|(apply aA (k := 54);rfl;(apply cO);(rfl);rfl))|refine aD ?_|refine aE ?_|(refine aM ?_ ?_ <;> intro hc hq <;> try (exfalso;omega))|fail)
  ·(refine aF rfl ?_; refine aU () trivial ?_ ⟨.inr (Eq.trans (b := some _) rfl ?_), trivial⟩)
   ·rfl
   ·rfl
 ·rw [if_neg hv] at hg
  refine aX Tryz.func69 Tryz.ntmps69 ?_
  repeat' (first|(apply aI;(apply aA (k := 72);rfl;exact hg;exact Pur.pf;rfl))|refine aD ?_|refine aE ?_|fail)
  (refine aF rfl ?_; refine aU () trivial ?_ ⟨.inr (Eq.trans (b := some _) rfl ?_), trivial⟩)
  ·rfl
  ·rfl
theorem H6 (p : Prg) (cs : List Int) (n : Nat) (q : Mc × Int × Nat) (hqq : q = cQ p.types (aC p) cs n) (hv : bB p = true) (hl : p.types.length ≤ 1000000) (hs : aP p.body ≤ 1000000) (hn : n ≤ 150) (hcl : cs.length ≤ 1000000) : MC Tryz.prog 69 [bQ p, sl cI cs, iv (n : Int)] [] 0 (fun _ : Unit => True) (fun _ => .tup [.optr 2 0, iv q.2.1, iv (q.2.2 : Int)]) (fun _ => [(2, some (mO p.types p.body (aC p) 1 3 q.1)), (1, some (flat eE q.1.slots)), (3, some (flat cI q.1.read))]) := by
 have hg := kG p hl hs
 rw [if_pos hv] at hg
 have w := WG.of_valid hv
 have wa := WA.of_valid hv
 have hru := N9 p.types p.body (aC p) cs n w wa (by omega) hcl
 have htl := w.tl
 have hpl := w.pl
 have hL := Jt w wa n 0 cs w.p0
 have hLl := y6 (pts := aC p) n 0 cs
 unfold cQ at hqq
 unfold wm at hru
 obtain ⟨L, hLe⟩ : ∃ L, L = (eT (aC p) n 0 cs).1 := ⟨_, rfl⟩
 obtain ⟨dn, hdn⟩ : ∃ dn, dn = (eT (aC p) n 0 cs).2 := ⟨_, rfl⟩
 rw [← hLe, ← hdn] at hru
 rw [← hLe] at hqq hL hLl
 have hgx : ∀ i, i < L.length → (L.map (fun a : Nat => (a : Int)))[i]! = (L[i]! : Int) := fun i h => by rw [aZ _ _ (by rw [List.length_map]; exact h), List.getElem_map, aZ _ _ h]
 have hml : (L.map (fun a : Nat => (a : Int))).length = L.length := List.length_map _
 generalize (L.map (fun a : Nat => (a : Int))) = LI at *
 generalize hP : aC p = pts at *
 refine aX Tryz.func69 Tryz.ntmps69 ?_
 repeat' (first|(apply aI;first|(apply aA (k := 72);rfl;exact hg;exact Pur.pf;rfl)|(with_reducible apply a7 (d := 40))|(apply aA (k := 54);rfl;(apply cO);(rfl);rfl))|refine aD ?_|refine aE ?_|(refine aM ?_ ?_ <;> intro hc hq <;> try (exfalso;omega))|fail)
 refine cK ?_
 rw [show (List.replicate p.types.length ([Value.bool false, Value.int .i64 0, Value.int .i64 0, Value.int .i64 0].map AV.v)).flatten = flat eE (List.replicate p.types.length lQ) from xY rfl]
 apply lV
 case hl => rfl
 case hf => exact (rfl:_=some [_, _, AV.v (.slice none 0 0), AV.v (.slice none 0 0)])
 case hN => rfl
 repeat' (first|(apply aI;(with_reducible apply a7 (d := 43)))|refine aD ?_|refine aE ?_|fail)
 refine cK (dW ?_ (Le.nilMid (i := 2) [_, _] rfl))
 refine dW ?_ (Le.nilCell (i := 2) 1 [_, _, _] rfl (by decide) (by decide))
 repeat' (first|(apply aI;(apply aA (k := 139);rfl;exact hru;exact Pur.pf;rfl))|refine aD ?_|refine aE ?_|fail)
 refine aK (σ := Nat × Mc × Nat) [9, 11, 49, 50] [] (fun k => [(51, iv (k.1 : Int)), (14, iv (k.2.2 : Int))]) (fun k => [(2, some (mO p.types p.body pts 1 3 k.2.1)), (1, some (flat eE k.2.1.slots)), (3, some (flat cI k.2.1.read))]) (fun k => k.1 ≤ L.length ∧ gO p.types pts (L.drop k.1) k.2.1 k.2.2 = q ∧ OkS p.types.length k.2.1 ∧ k.2.1.read.length ≤ k.1) (fun k => L.length - k.1) (0, mc0 p.types.length, 0) ⟨Nat.zero_le _, hqq.symm, OkS.mc0 _, Nat.le_refl _⟩ ?_
 rintro ⟨i, s, last⟩ ⟨hi, hf, hok, hrd⟩
 dsimp only at hi hf hok hrd ⊢
 by_cases hiL : i < L.length
 ·have hap := hL L[i]! (aW _ _ hiL)
  have hop := w.op L[i]! hap
  have hwx := w.x L[i]! hap
  have hwy := w.y L[i]! hap
  have hA := wa.a L[i]! hap
  have hg2 := hgx i hiL
  have hdr : L.drop i = L[i]! :: L.drop (i + 1) := by rw [List.drop_eq_getElem_cons hiL, aZ _ _ hiL]
  rw [hdr, Nm] at hf
  have hpt : PtN pts[L[i]!]! := ⟨fun h => hA.n (.inr h)⟩
  have hdo := OV (ts := p.types) hok hpt
  have hdr2 := Kr (ts := p.types) (s := s) (x := pts[L[i]!]!)
  by_cases h6 : pts[L[i]!]!.op = 6 ∧ bJ s.cells s.slots[(pts[L[i]!]!).y.toNat]!.ptr false = 0 ∧ bV p.types s pts[L[i]!]! = false
  ·have hm6 := NT p.types p.body pts s pts[L[i]!]! htl hok.m hok.l h6.1 (by omega) (by omega) (by omega) h6.2.1 h6.2.2
   repeat' (first|(apply aI;(with_reducible apply a7 (d := 16)))|refine aD ?_|refine aE ?_|(refine aM ?_ ?_ <;> intro hc hq <;> try (exfalso;omega))|fail)
   refine cK ?_
   rw [hg2]
   repeat' (first|(apply aI;(apply La (ts := p.types) (bd := p.body) (pts := pts) (s := s) (x := pts[L[i]!]!);rfl;rfl;rfl;rfl;rfl;rfl;exact hm6;rfl;rfl))|refine aD ?_|refine aE ?_|(refine aM ?_ ?_ <;> intro hc hq <;> try (exfalso;omega))|fail)
   ·exfalso
    have h9 : ¬ (dM p.types s pts[L[i]!]!).2 = -1 := by assumption
    exact h9 (PL h6.1 h6.2.1 h6.2.2 (hA.t6 h6.1).1)
   ·(refine bH (i + 1, (dM p.types s pts[L[i]!]!).1, L[i]!) (Le.renA [(1, 1), (2, 2), (3, 6)]) ?_ ?_)
    ·refine ⟨by dsimp only; omega, ?_, hdo, by dsimp only; omega⟩
     dsimp only
     rw [if_pos (by assumption)] at hf
     exact hf
    ·dsimp only;omega
  ·have hmd := Oo p.types p.body pts s pts[L[i]!]! htl hok.m hok.l hop (by omega) (fun h => by omega) (fun h h2 => by omega) (fun h => hA.n (.inr h)) h6
   repeat' (first|(apply aI;(with_reducible apply a7 (d := 16)))|refine aD ?_|refine aE ?_|(refine aM ?_ ?_ <;> intro hc hq <;> try (exfalso;omega))|fail)
   refine cK ?_
   rw [hg2]
   repeat' (first|(apply aI;(apply Ns (ts := p.types) (bd := p.body) (pts := pts) (s := s) (x := pts[L[i]!]!);rfl;rfl;rfl;rfl;rfl;rfl;exact hmd;rfl;rfl))|refine aD ?_|refine aE ?_|(refine aM ?_ ?_ <;> intro hc hq <;> try (exfalso;omega))|fail)
   ·have h9 : ¬ (dM p.types s pts[L[i]!]!).2 = -1 := by assumption
    rw [if_neg h9] at hf
    rw [← hf]
    (refine aF rfl ?_; refine aU () trivial ?_ ⟨.inr (Eq.trans (b := some _) rfl ?_), ⟨.inr (Eq.trans (b := some _) rfl ?_), ⟨.inr (Eq.trans (b := some _) rfl ?_), trivial⟩⟩⟩)
    ·rfl
    ·rfl
    ·rfl
    ·rfl
   ·(refine bH (i + 1, (dM p.types s pts[L[i]!]!).1, L[i]!) (Le.renA [(1, 1), (2, 2), (3, 3)]) ?_ ?_)
    ·refine ⟨by dsimp only; omega, ?_, hdo, by dsimp only; omega⟩
     dsimp only
     rw [if_pos (by assumption)] at hf
     exact hf
    ·dsimp only;omega
 ·repeat' (first | refine aD ?_ | refine aE ?_ | (refine aM ?_ ?_ <;> intro hc hq <;> try (exfalso; omega))|fail)
  have hie : i = L.length := by omega
  have hq2 : q = (s, 1, last) := by rw [← hf, hie, List.drop_length]; rfl
  rw [hq2]
  (refine aF rfl ?_; refine aU () trivial ?_ ⟨.inr (Eq.trans (b := some _) rfl ?_), ⟨.inr (Eq.trans (b := some _) rfl ?_), ⟨.inr (Eq.trans (b := some _) rfl ?_), trivial⟩⟩⟩)
  ·rfl
  ·rfl
  ·rfl
  ·rfl
theorem AU {p : Prg} {cs : List Int} {n : Int} {q : Mc × Int × Nat} {N : Nat} {Q : Exit → AS → Prop} {all : Array Oper} {rest : List Oper} {tsl : List (Nat × AV)} {hsl : List (Nat × Option (List AV))} {nidl : Nat} {z0 : Lo} {md : Md} {d : Nat} {ty : TypeId} {pos : String} {af : Array Edge} {tys : Array TypeId} {x0 x1 x2 : Operand} (ha0 : ev (lk tsl) x0 = some (bQ p)) (ha1 : ev (lk tsl) x1 = some (sl cI cs)) (ha2 : ev (lk tsl) x2 = some (iv n)) (hmc : MC Tryz.prog 69 [bQ p, sl cI cs, iv n] [] 0 (fun _ : Unit => True) (fun _ => .tup [.optr 2 0, iv q.2.1, iv (q.2.2 : Int)]) (fun _ => [(2, some (mO p.types p.body (aC p) 1 3 q.1)), (1, some (flat eE q.1.slots)), (3, some (flat cI q.1.read))])) (hM : Nat.ble (nidl + 4) aY = true) (hN : Nat.blt d N = true) {md' : Md} [hmd : MdA md (fK [x0, x1, x2] ++ []) (List.map Sum.inr (List.map Prod.fst ([((nidl + 2), some (mO p.types p.body (aC p) (nidl + 1) (nidl + 3) q.1)), ((nidl + 1), some (flat eE q.1.slots)), ((nidl + 3), some (flat cI q.1.read))] : List (Nat × Option (List AV)))) ++ [.inl d]) md'] (kk : RW Tryz.prog N all Q md' rest ⟨(d, .tup [.optr (nidl + 2) 0, iv q.2.1, iv (q.2.2 : Int)]) :: tsl, gR hsl [((nidl + 2), some (mO p.types p.body (aC p) (nidl + 1) (nidl + 3) q.1)), ((nidl + 1), some (flat eE q.1.slots)), ((nidl + 3), some (flat cI q.1.read))], nidl + 4, z0⟩) : RW Tryz.prog N all Q md (⟨some d, .call ⟨.value (.func 69), #[x0, x1, x2], tys⟩, ty, pos, af, none⟩ :: rest) ⟨tsl, hsl, nidl, z0⟩ := by
 refine a6 [] 4 [((nidl + 2), some (mO p.types p.body (aC p) (nidl + 1) (nidl + 3) q.1)), ((nidl + 1), some (flat eE q.1.slots)), ((nidl + 3), some (flat cI q.1.read))] hmc (avs := [bQ p, sl cI cs, iv n]) ?_ rfl ?_ rfl ?_ (by simpa using hM) ?_ ?_ ?_ hN (md' := md') (hmd := hmd) kk
 ·show evL (lk tsl) [x0, x1, x2] = _
  simp only [evL, ha0, ha1, ha2]
 ·exact trivial
 ·(repeat' (exact RnL.purI inferInstance))
 ·(repeat' (first|exact RnL.purI inferInstance|exact RnV.optr rfl|refine RnL.cons ?_ ?_|refine RnV.tup ?_))
 ·simp [cA]
 ·(repeat' (first|exact trivial|(refine And.intro ⟨1, _, rfl, rfl, ?_⟩ ?_)|(refine And.intro ⟨2, _, rfl, rfl, ?_⟩ ?_)|(refine And.intro ⟨3, _, rfl, rfl, ?_⟩ ?_)|exact RnL.purI inferInstance|exact RnV.purI inferInstance|exact RnV.own rfl|refine RnL.cons ?_ ?_))
theorem tM (p : Prg) (cs : List Int) (most : Int) (hl : p.types.length ≤ 1000000) (hs : aP p.body ≤ 1000000) (hcl : cs.length ≤ 1000000) : PC Tryz.prog 18 [bQ p, sl cI cs, iv most] (fun r => r = .tup (if Gp p most = true then [sl cI (cQ p.types (aC p) cs most.toNat).1.read, iv (cQ p.types (aC p) cs most.toNat).2.1] else [sl cI [], iv 5])) := by
 by_cases h : Gp p most = true
 ·have h' := h
  unfold Gp at h'
  simp only [Bool.and_eq_true, decide_eq_true_eq] at h'
  obtain ⟨hv, h0, h1⟩ := h'
  have hru := H6 p cs most.toNat _ rfl hv hl hs (by omega) hcl
  have hok := H3 (cs := cs) (n := most.toNat) hv
  have hrl := n5 (ts := p.types) (pts := aC p) (cs := cs) (n := most.toNat) (by omega)
  have htl := (WG.of_valid hv).tl
  rw [Int.toNat_of_nonneg h0] at hru
  rw [if_pos h]
  have hon := Int.toNat_of_nonneg h0
  have hm := hok.m
  have hml := hm.l
  have hsl := hok.l
  generalize cQ p.types (aC p) cs most.toNat = q at *
  refine aB Tryz.func18 Tryz.ntmps18 ?_
  repeat' (first|(apply aI;(apply AU (p := p) (cs := cs) (n := most) (q := q);rfl;rfl;rfl;exact hru;rfl;rfl))|refine aD ?_|refine aE ?_|fail)
  refine aV (Le.frzD (d := 6) (i := 4) rfl rfl) ?_
  exact aF (l := [sl cI q.1.read, iv q.2.1]) rfl ⟨rfl, by exact Pur.pf⟩
 ·rw [if_neg h]
  have h2 : Gp p most = false := by simpa using h
  refine aB Tryz.func18 Tryz.ntmps18 ?_
  repeat' (first|(apply aI;(apply Ep (p := p) (cs := cs) (n := most);rfl;rfl;rfl;exact HX p cs most hl hs h2;rfl;rfl))|refine aD ?_|refine aE ?_|fail)
  exact aF (l := [sl cI [], iv 5]) rfl ⟨rfl, rfl⟩
theorem KF {m : List Cl} {k : Nat} (h : m[k]!.alive = true) : (((List.range (k + 1)).filter (fun k => m[k]!.alive)).map (fun k : Nat => (k : Int))) = (((List.range k).filter (fun k => m[k]!.alive)).map (fun k : Nat => (k : Int))) ++ [(k : Int)] := by
 rw [List.range_succ, List.filter_append, List.map_append, w8 (p := fun k => m[k]!.alive) (a := k) h]; rfl
theorem GS {m : List Cl} {k : Nat} (h : m[k]!.alive = false) : (((List.range (k + 1)).filter (fun k => m[k]!.alive)).map (fun k : Nat => (k : Int))) = (((List.range k).filter (fun k => m[k]!.alive)).map (fun k : Nat => (k : Int))) := by
 rw [List.range_succ, List.filter_append, List.map_append, p9 (p := fun k => m[k]!.alive) (a := k) h]; exact List.append_nil _
theorem zI (p : Prg) (cs : List Int) (most : Int) (hl : p.types.length ≤ 1000000) (hs : aP p.body ≤ 1000000) (hcl : cs.length ≤ 1000000) : PC Tryz.prog 19 [bQ p, sl cI cs, iv most] (fun r => r = .tup (if Gp p most = true then [iv (cQ p.types (aC p) cs most.toNat).1.cells.length, iv ((cQ p.types (aC p) cs most.toNat).1.cells.length - (rI (cQ p.types (aC p) cs most.toNat).1.cells).length), iv (cQ p.types (aC p) cs most.toNat).2.1] else [iv 0, iv 0, iv 5])) := by
 by_cases h : Gp p most = true
 ·have h' := h
  unfold Gp at h'
  simp only [Bool.and_eq_true, decide_eq_true_eq] at h'
  obtain ⟨hv, h0, h1⟩ := h'
  have hru := H6 p cs most.toNat _ rfl hv hl hs (by omega) hcl
  have hok := H3 (cs := cs) (n := most.toNat) hv
  have hrl := n5 (ts := p.types) (pts := aC p) (cs := cs) (n := most.toNat) (by omega)
  have htl := (WG.of_valid hv).tl
  rw [Int.toNat_of_nonneg h0] at hru
  rw [if_pos h]
  have hon := Int.toNat_of_nonneg h0
  have hm := hok.m
  have hml := hm.l
  have hsl := hok.l
  generalize cQ p.types (aC p) cs most.toNat = q at *
  have hal : (rI q.1.cells).length ≤ q.1.cells.length := by
   unfold rI;rw [List.length_map]; exact Nat.le_trans (List.length_filter_le _ _) (by rw [List.length_range]; exact Nat.le_refl _)
  refine aB Tryz.func19 Tryz.ntmps19 ?_
  repeat' (first|(apply aI;(apply AU (p := p) (cs := cs) (n := most) (q := q);rfl;rfl;rfl;exact hru;rfl;rfl))|refine aD ?_|refine aE ?_|fail)
  refine aK (σ := Nat × Int) [9, 10, 26, 27] [3] (fun k => [(28, iv (k.1 : Int)), (12, iv k.2)]) (fun k => []) (fun k => k.1 ≤ q.1.cells.length ∧ k.2 = (k.1 : Int) - (((List.range k.1).filter (fun k => q.1.cells[k]!.alive)).map (fun v : Nat => (v : Int))).length) (fun k => q.1.cells.length - k.1) (0, 0) ⟨Nat.zero_le _, rfl⟩ ?_
  rintro ⟨i, fr⟩ ⟨hi, hfr⟩
  dsimp only at hi hfr ⊢
  have hb : (((List.range i).filter (fun k => q.1.cells[k]!.alive)).map (fun v : Nat => (v : Int))).length ≤ i := by
   rw [List.length_map]; exact Nat.le_trans (List.length_filter_le _ _) (by rw [List.length_range]; exact Nat.le_refl _)
  have hfb : 0 ≤ fr ∧ fr ≤ i := by omega
  repeat' (first|refine aD ?_|refine aE ?_|(refine aM ?_ ?_ <;> intro hc hq <;> try (exfalso;omega))|fail)
  ·(refine bH (i + 1, fr + 1) (Le.renA [(2, 2), (3, 3), (4, 4)]) ?_ ?_)
   ·refine ⟨by dsimp only; omega, ?_⟩
    dsimp only
    rw [GS (by assumption)]; omega
   ·dsimp only;omega
  ·(refine bH (i + 1, fr) (Le.renA [(2, 2), (3, 3), (4, 4)]) ?_ ?_)
   ·refine ⟨by dsimp only; omega, ?_⟩
    dsimp only
    rw [KF (by assumption), List.length_append, List.length_singleton]; omega
   ·dsimp only;omega
  ·have hie : i = q.1.cells.length := by omega
   have hfe : fr = (q.1.cells.length : Int) - (rI q.1.cells).length := by rw [hfr, hie]; rfl
   rw [← hfe]
   exact aF (l := [iv q.1.cells.length, iv fr, iv q.2.1]) rfl ⟨rfl, rfl⟩
 ·rw [if_neg h]
  have h2 : Gp p most = false := by simpa using h
  refine aB Tryz.func19 Tryz.ntmps19 ?_
  repeat' (first|(apply aI;(apply Ep (p := p) (cs := cs) (n := most);rfl;rfl;rfl;exact HX p cs most hl hs h2;rfl;rfl))|refine aD ?_|refine aE ?_|fail)
  refine aK (σ := Unit) [9, 10, 12, 26, 27] [2] (fun _u => [(28, iv 0)]) (fun _u => []) (fun _u => True) (fun _u => 0) () trivial ?_
  intro _ _
  repeat' (first|refine aD ?_|refine aE ?_|fail)
  exact aF (l := [iv 0, iv 0, iv 5]) rfl ⟨rfl, rfl⟩
theorem FV (bs : List UInt8) (p : Nat) (hb : bs.length ≤ 2000) (hp : p ≤ 10000) : MC Tryz.prog 138 [.optr 0 0] [(0, some (dP bs p))] 1 (fun x : List Int × Nat => x.1.length ≤ 8 ∧ x.2 ≤ 20000) (fun x => sl cI x.1) (fun x => [(0, some (dP bs x.2))]) := by
 have hn := yQ bs p [4, 2, 6, 0, 8] 0 8 (by decide) (by decide)
 refine aX Tryz.func138 Tryz.ntmps138 ?_
 repeat' (first|(apply aI;(apply m5;rfl;rfl;rfl;rfl;infer_instance;rfl;(rfl);assumption;omega;(decide);(decide);rfl;rfl))|refine aD ?_|refine aE ?_|fail)
 refine aK (σ := Int × List Int × Nat × Nat) [0] [] (fun k => [(4, iv k.1), (3, .own 1 0 k.2.2.1 1)]) (fun k => [(0, some (dP bs k.2.2.2)), (1, some (flat cI k.2.1))]) (fun k => (0 ≤ k.1 ∧ k.1 + k.2.1.length ≤ 8) ∧ k.2.2.1 = k.2.1.length ∧ k.2.2.2 ≤ 10001 + k.2.1.length) (fun k => k.1.toNat) (fT bs p [4, 2, 6, 0, 8], [], 0, p + 1) ⟨⟨hn.1, by show _ + ((0 : Nat) : Int) ≤ 8;omega⟩, rfl, by dsimp only;omega⟩ ?_
 rintro ⟨i, xs, m, p'⟩ ⟨⟨hi, hx⟩, hm, hp'⟩
 dsimp only at hi hx hm hp' ⊢
 repeat' (first|(apply aI;first|(apply aO (t := _);rfl;rfl;rfl;(first|exact (rfl:_=some [_])|exact (rfl:_=some [_, _, _, _, _, _]));rfl;rfl)|(apply HC;rfl;rfl;infer_instance;rfl;(rfl);assumption;omega;(decide);(decide);rfl;rfl))|refine aD ?_|refine aE ?_|(refine aM ?_ ?_ <;> intro hc hq <;> try (exfalso;omega))|fail)
 ·(refine bH (i - 1, xs ++ [fT bs p' [0, 1, 0, 1, -1, 2]], m + 1, p' + 1) (Le.renA [(1, 5)]) ?_ ?_)
  ·refine ⟨⟨by dsimp only; omega, ?_⟩, by dsimp only; rw [List.length_append, hm]; rfl, ?_⟩
   ·dsimp only;rw [List.length_append]; simp only [List.length_singleton]; omega
   ·dsimp only;rw [List.length_append]; simp only [List.length_singleton]; omega
  ·dsimp only;omega
 ·refine aV (Le.frzD (d := 2) (i := 1) rfl rfl) ?_
  refine aF rfl ?_
  refine aU (xs, p') ⟨by dsimp only;omega, by dsimp only;omega⟩ ?_ ⟨.inr rfl, trivial⟩
  show AV.imm m (flat cI xs) = sl cI xs
  rw [hm]
theorem Fv {P : Program} {N : Nat} {Q : Exit → AS → Prop} {all : Array Oper} {rest : List Oper} {ts : List (Nat × AV)} {hs : List (Nat × Option (List AV))} {n : Nat} {z0 : Lo} {ty : TypeId} {pos : String} {af : Array Edge} {d : Nat} {args : Array Operand} {tys : Array TypeId}
  {k : FuncId} {p0 : List Int × Nat → Prop} {i p : Nat} {bs : List UInt8} (h : MC P k [.optr 0 0] [(0, some (dP bs p))] 1 p0 (fun x => sl cI x.1) (fun x => [(0, some (dP bs x.2))])) [hc : CaT P k] (ha : evL (lk ts) args.toList = some [.optr i 0])
  (hH : aS hs i = some (dP bs p)) (hM : Nat.ble (n + 0) aY = true) (hN : Nat.blt d N = true) (kk : ∀ x, p0 x → RW P N all Q .txt rest ⟨(d, sl cI x.1) :: ts, (i, some (dP bs x.2)) :: hs, n + 0, z0⟩) :
  RW P N all Q .txt (⟨some d, .call ⟨.value (.func k), args, tys⟩, ty, pos, af, none⟩ :: rest) ⟨ts, hs, n, z0⟩ :=
 Ao (σ := List Int × Nat) [i] 1 (fun x : List Int × Nat => [(i, some (dP bs x.2))]) h ha rfl ⟨⟨_, _, rfl, hH, RnL.purI inferInstance⟩, trivial⟩ rfl (RnL.cons (RnV.optr rfl) .nil) (by simpa using hM)
  (fun x _ => RnV.purI inferInstance) (fun x _ => by simp [cA]) (fun x _ => ⟨⟨0, _, rfl, rfl, RnL.purI inferInstance⟩, trivial⟩) hN kk
theorem KB (bs : List UInt8) (hb : bs.length ≤ 1048576) : PC Tryz.prog 68 [sl cU bs] (fun r => ∃ (q : Prg) (cs : List Int) (n : Int), r = .tup [bQ q, sl cI cs, iv n] ∧ aP q.body ≤ 20000 ∧ q.types.length ≤ 1000 ∧ cs.length ≤ 8 ∧ -1 ≤ n ∧ n ≤ 151) := by
 have hb2 : (bs.take 2000).length ≤ 2000 := by rw [List.length_take]; omega
 refine aB Tryz.func68 Tryz.ntmps68 ?_
 repeat' (first|(apply aI;first|(apply k6 (k := 94);exact Ja (bs.take 2000) 0 hb2 (by decide);rfl;rfl;rfl;rfl;rfl;(rintro ⟨q, p1⟩ ⟨hq1, hq2, hq3⟩);(dsimp only at hq1 hq2 hq3))|(apply k6 (k := 93);exact Bg (bs.take 2000) p1 q hb2 (by omega) (by omega) (by omega);rfl;exact Pur.pf;rfl;rfl;rfl;(rintro ⟨q2, p2⟩ ⟨hr1, hr2, hr3⟩);(dsimp only at hr1 hr2 hr3))|(apply Fv (k := 138);exact FV (bs.take 2000) p2 hb2 (by omega);rfl;rfl;rfl;rfl;(rintro ⟨cs, p3⟩ ⟨hc1, hc2⟩);(dsimp only at hc1 hc2);(have hn9 := yQ (bs.take 2000) p3 [100, 150, 60, 5, 0, 151, -1] (-1) 151 (by decide) (by decide)))|(first|(apply nY;rfl;(apply qB <;> (assumption));rfl;rfl)|(apply m5;rfl;rfl;rfl;rfl;infer_instance;rfl;(rfl);assumption;omega;(decide);(decide);rfl;rfl)))|refine aD ?_|refine aE ?_|refine b0 ?_|fail)
 exact aF (l := [bQ q2, sl cI cs, iv (fT (bs.take 2000) p3 [100, 150, 60, 5, 0, 151, -1])]) rfl ⟨⟨q2, cs, _, rfl, by omega, by omega, hc1, hn9.1, hn9.2⟩, Pur.pf⟩
theorem ER (bs : List UInt8) (hb : bs.length ≤ 1048576) : PC Tryz.prog 17 [sl cU bs] (fun r => ∃ (q : Prg) (cs : List Int) (n : Int), r = .tup [bQ q, sl cI cs, iv n] ∧ aP q.body ≤ 20000 ∧ q.types.length ≤ 1000 ∧ cs.length ≤ 8 ∧ -1 ≤ n ∧ n ≤ 151) := by
 refine aB Tryz.func17 Tryz.ntmps17 ?_
 repeat' (first|(apply aI;(apply gF (k := 68);rfl;exact KB bs hb;exact Pur.pf;rfl;(rintro _ ⟨q, cs, n, rfl, h1, h2, h3, h4, h5⟩ _)))|refine aD ?_|refine aE ?_|fail)
 exact aF (l := [bQ q, sl cI cs, iv n]) rfl ⟨⟨q, cs, n, rfl, h1, h2, h3, h4, h5⟩, Pur.pf⟩
end Go.Proofs.YtahdccneecdmmaaGreat
