/-
 A part of the proofs over this program: rules and contracts of its functions (the contracts).
-/
import Derived.Test.YtjcpngimjdckmaaGreatQ1B04
set_option linter.unusedVariables false
set_option linter.unusedSimpArgs false
set_option maxHeartbeats 8000000
set_option maxRecDepth 4000
attribute [local irreducible] Go.AL.RW Go.AL.AW Go.AL.Stop
namespace Go.Proofs.YtjcpngimjdckmaaGreat
open Go.AL Go.RowKit
theorem DB {xs : List Tg} {k n : Nat} {N : Nat} {Q : Exit → AS → Prop} {all : Array Oper} {rest : List Oper} {tsl : List (Nat × AV)} {hsl : List (Nat × Option (List AV))} {nidl : Nat} {z0 : Lo} {md : Md} {d : Nat} {ty : TypeId} {pos : String} {af : Array Edge} {tys : Array TypeId} {x0 : Operand} {i0 : Nat} (ha0 : ev (lk tsl) x0 = some (.own i0 (0 + k * 2) n 2)) (hH0 : cJ hsl i0 = some (aH eJ xs)) (hmc : MC Tryz.prog 209 [.own 0 (0 + k * 2) n 2] [(0, some (aH eJ xs))] 1 (fun _ : Unit => True) (fun _ => .own 2 0 n 2) (fun _ => [(0, some (aH eJ xs)), (2, some (aH eJ (xs.drop k)))])) (hM : Nat.ble (nidl + 2) fG = true) (hN : Nat.blt d N = true) {md' : Md} [hmd : MdA md (hG [x0] ++ [.inr i0]) (List.map Sum.inr (List.map Prod.fst ([(i0, some (aH eJ xs)), ((nidl + 1), some (aH eJ (xs.drop k)))] : List (Nat × Option (List AV)))) ++ [.inl d]) md'] (kk : RW Tryz.prog N all Q md' rest ⟨(d, .own (nidl + 1) 0 n 2) :: tsl, jF hsl [(i0, some (aH eJ xs)), ((nidl + 1), some (aH eJ (xs.drop k)))], nidl + 2, z0⟩) : RW Tryz.prog N all Q md (⟨some d, .call ⟨.value (.func 209), #[x0], tys⟩, ty, pos, af, none⟩ :: rest) ⟨tsl, hsl, nidl, z0⟩ := by
 refine cM [i0] 3 [(i0, some (aH eJ xs)), ((nidl + 1), some (aH eJ (xs.drop k)))] hmc (avs := [.own i0 (0 + k * 2) n 2]) ?_ rfl ?_ rfl ?_ (by simpa using hM) ?_ ?_ ?_ hN (md' := md') (hmd := hmd) kk
 ·show evL (lk tsl) [x0] = _
  simp only [evL, ha0]
 ·exact ⟨⟨_, _, rfl, hH0, by (repeat' (exact RnL.purI inferInstance))⟩, trivial⟩
 ·(repeat' (first|exact RnL.purI inferInstance|exact RnV.own rfl|refine RnL.cons ?_ ?_))
 ·(repeat' (exact RnV.own rfl))
 ·simp [eA]
 ·(repeat' (first|exact trivial|(refine And.intro ⟨0, _, rfl, rfl, ?_⟩ ?_)|(refine And.intro ⟨2, _, rfl, rfl, ?_⟩ ?_)|exact RnL.purI inferInstance))
theorem Gi (xs : List Tg) (k n : Nat) (hn : n = xs.length - k) (hl : xs.length ≤ 1000000) : MC Tryz.prog 209 [.own 0 (0 + k * 2) n 2] [(0, some (aH eJ xs))] 1 (fun _ : Unit => True) (fun _ => .own 2 0 n 2) (fun _ => [(0, some (aH eJ xs)), (2, some (aH eJ (xs.drop k)))]) := by
 subst hn
 (refine cD Tryz.func209 rfl (by simp [Tryz.ntmps209]) ?_; rw [Tryz.ntmps209])
 repeat' (first|(apply aM;first|(apply Eb;rfl;rfl;(intro b hb))|(apply cH;rfl;rfl;rfl;rfl;rfl;(decide);exact C5 rfl rfl;omega;omega;(exact mH rfl);rfl;rfl)|(apply aE;rfl;rfl)|(apply aC;rfl;rfl)|(apply aF;kernel_rfl)|(apply cG;rfl;rfl;rfl;(rfl);rfl;rfl))|(apply aN;first|apply aI|apply aB|(apply aO;rfl;all_goals intro hc;have hq:=hc;(try simp only [cF] at hq);try exfalso;omega)|apply aS|apply aQ)|with_reducible apply aA|with_reducible apply bK)
 ·have h0 : xs.length - k = 0 := hb (by assumption)
  have h1 : xs.drop k = [] := List.drop_eq_nil_of_le (by omega)
  refine cE (Le.bump 1) ?_
  refine cE (Le.nilOwn (d := 2) 2 rfl (by decide)) ?_
  (refine aP rfl ?_; refine bY () trivial ?_ ⟨.inr (Eq.trans (b := some _) rfl ?_), ⟨.inr (Eq.trans (b := some _) rfl ?_), trivial⟩⟩)
  ·show AV.own 2 0 0 2 = _; rw [h0]
  ·rfl
  ·rw [h1]; rfl
 ·(refine aP rfl ?_; refine bY () trivial ?_ ⟨.inr (Eq.trans (b := some _) rfl ?_), ⟨.inr (Eq.trans (b := some _) rfl ?_), trivial⟩⟩)
  ·show AV.own 2 0 (0 + (xs.length - k)) 2 = _
   rw [Nat.zero_add]
  ·rfl
  ·rfl
theorem wP {m : List Cl} {j : Nat} {t : Int} {r : List Tg} {n : Nat} {N : Nat} {Q : Exit → AS → Prop} {all : Array Oper} {rest : List Oper} {tsl : List (Nat × AV)} {hsl : List (Nat × Option (List AV))} {nidl : Nat} {z0 : Lo} {md : Md} {d : Nat} {ty : TypeId} {pos : String} {af : Array Edge} {tys : Array TypeId} {x0 x1 x2 : Operand} {i0 i1 : Nat} (ha0 : ev (lk tsl) x0 = some (.own i0 0 n 4)) (ha1 : ev (lk tsl) x1 = some (.agg [iv (j : Int), iv t])) (ha2 : ev (lk tsl) x2 = some (bv false)) (hH0 : cJ hsl i0 = some (aH gR (e6 m j (.own i1 0 m[j]!.stk.length 2)))) (hH1 : cJ hsl i1 = some (aH eJ m[j]!.stk)) (hdd : Go.AL.distinct [i0, i1] = true) (hmc : MC Tryz.prog 190 [.own 0 0 n 4, .agg [iv (j : Int), iv t], bv false] [(0, some (aH gR (e6 m j (.own 1 0 m[j]!.stk.length 2)))), (1, some (aH eJ m[j]!.stk))] 2 (fun _ : Unit => True) (fun _ => iv 0) (fun _ => [(0, some (aH gR (e6 m j (.own 5 0 r.length 2)))), (5, some (aH eJ r))])) (hM : Nat.ble (nidl + 4) fG = true) (hN : Nat.blt d N = true) {md' : Md} [hmd : MdA md (hG [x0, x1, x2] ++ [.inr i0, .inr i1]) (List.map Sum.inr (List.map Prod.fst ([(i0, some (aH gR (e6 m j (.own (nidl + 3) 0 r.length 2)))), ((nidl + 3), some (aH eJ r)), (i1, none)] : List (Nat × Option (List AV)))) ++ [.inl d]) md'] (kk : RW Tryz.prog N all Q md' rest ⟨(d, iv 0) :: tsl, jF hsl [(i0, some (aH gR (e6 m j (.own (nidl + 3) 0 r.length 2)))), ((nidl + 3), some (aH eJ r)), (i1, none)], nidl + 4, z0⟩) : RW Tryz.prog N all Q md (⟨some d, .call ⟨.value (.func 190), #[x0, x1, x2], tys⟩, ty, pos, af, none⟩ :: rest) ⟨tsl, hsl, nidl, z0⟩ := by
 refine cM [i0, i1] 6 [(i0, some (aH gR (e6 m j (.own (nidl + 3) 0 r.length 2)))), ((nidl + 3), some (aH eJ r)), (i1, none)] hmc (avs := [.own i0 0 n 4, .agg [iv (j : Int), iv t], bv false]) ?_ hdd ?_ rfl ?_ (by simpa using hM) ?_ ?_ ?_ hN (md' := md') (hmd := hmd) kk
 ·show evL (lk tsl) [x0, x1, x2] = _
  simp only [evL, ha0, ha1, ha2]
 ·exact ⟨⟨_, _, rfl, hH0, by (repeat' (exact nM rfl))⟩, ⟨⟨_, _, rfl, hH1, by (repeat' (exact RnL.purI inferInstance))⟩, trivial⟩⟩
 ·(repeat' (first|exact RnL.purI inferInstance|exact RnV.own rfl|refine RnL.cons ?_ ?_))
 ·(repeat' (exact RnV.purI inferInstance))
 ·simp [eA]
 ·(repeat' (first|exact trivial|(refine And.intro ⟨0, _, rfl, rfl, ?_⟩ ?_)|(refine And.intro ⟨5, _, rfl, rfl, ?_⟩ ?_)|exact RnL.purI inferInstance|exact nM rfl))
theorem zL (m : List Cl) (j : Nat) (t : Int) (r : List Tg) (k n : Nat) (hm : OkM m) (hn : n = m.length) (hj : j < m.length) (hk : dP m[j]!.stk t = (k : Int)) (hal : m[j]!.alive = true) (hr : r = gW m[j]!.stk k false) : MC Tryz.prog 190 [.own 0 0 n 4, .agg [iv (j : Int), iv t], bv false] [(0, some (aH gR (e6 m j (.own 1 0 m[j]!.stk.length 2)))), (1, some (aH eJ m[j]!.stk))] 2 (fun _ : Unit => True) (fun _ => iv 0) (fun _ => [(0, some (aH gR (e6 m j (.own 5 0 r.length 2)))), (5, some (aH eJ r))]) := by
 subst hn
 have hml := hm.l
 have hcv := iD m hm
 have hst : m[j]!.stk.length ≤ 200 := (((iZ m).1 hm).2 j hj).l.2
 have hbd := g0 m[j]!.stk t
 rw [hk] at hbd
 have hidx := xE m[j]!.stk (j : Int) t (by omega)
 rw [hk] at hidx
 have hog := iY (m := m) (j := j) (X := .own 1 0 m[j]!.stk.length 2) hj
 have hol := eT (m := m) (j := j) (X := .own 1 0 m[j]!.stk.length 2)
 (refine cD Tryz.func190 rfl (by simp [Tryz.ntmps190]) ?_; rw [Tryz.ntmps190])
 repeat' (first|(apply aM;first|((with_reducible apply o4 (k := 187) (D := [0, 1]) (h := hcv));(case ha => rfl);(case hl => exact .cons (.own (by simp) rfl (Dd (by simp) rfl hj)) .nil);(case hfr|hN => rfl))|(with_reducible apply dE (d := 35))|(apply aE;rfl;rfl)|(first|(apply cX;(case hx|hH => rfl);(case hf|hg|hα => infer_instance);(case hk => omega);(case hc|hN => rfl))|(apply aL;rfl;rfl;rfl;rfl))|(apply aD;rfl;rfl;rfl)|(apply a6;rfl;rfl;rfl;(rfl))|(apply fU;rfl;rfl;omega;rfl)|(apply aC;rfl;rfl)|(apply bF;rfl;(rfl);rfl;rfl)|(apply cL;rfl;rfl;(assumption);rfl)|((with_reducible apply aJ (k := 50));(case ha => rfl);(case h => (apply eD <;> (fail)));(case hp => (rfl));(case hN => rfl))|(apply a8;rfl;rfl;rfl)|(apply aF;kernel_rfl)|(apply cC;rfl;rfl)|(apply bW;rfl;rfl;rfl)|(apply b0;rfl;rfl;rfl;rfl))|(apply aN;first|apply aI|apply aB|(apply aO;rfl;all_goals intro hc;have hq:=hc;(try simp only [cF] at hq);try exfalso;omega)|apply aS|apply aQ)|with_reducible apply aA|with_reducible apply bK)
 all_goals (try (exfalso;omega))
 ·exfalso
  have h : (e6 m j (.own 1 0 m[j]!.stk.length 2))[j]!.alive = false := by assumption
  rw [hog] at h;simp only [hal] at h;cases h
 refine eR ?_
 rw [hog]
 dsimp only
 repeat' (first|(apply aM;first|((apply iS 4);(case hx|hH|hc|hN => rfl))|((with_reducible apply o4 (k := 210) (D := [1]) (h := hidx));(case ha => rfl);(case hl => exact .cons (.own (by simp) rfl (.pur (inferInstance : Pur (aH eJ _)).pf)) (.cons (.pur rfl) .nil));(case hfr|hN => rfl))|(with_reducible apply dE (d := 41))|(apply aE;rfl;rfl)|(apply cX;(case hx|hH => rfl);(case hf|hg|hα => infer_instance);(case hk => omega);(case hc|hN => rfl))|(apply aD;rfl;rfl;rfl)|(apply bD;rfl;rfl;rfl;(rfl))|(apply aR;rfl;rfl;rfl;rfl)|(apply aC;rfl;rfl)|(apply bF;rfl;(rfl);rfl;rfl)|(apply aF;kernel_rfl)|(apply bW;rfl;rfl;rfl))|(apply aN;first|apply aI|apply aB|(apply cS;rfl;(rfl))|apply aK)|with_reducible apply aA)
 refine eR ?_
 rw [hog]
 dsimp only
 repeat' (first|(apply aM;first|((apply iP (d := 43) (l := k + 1) (h := m[j]!.stk.length));(case hx|hn => rfl);(case hl => exact pP rfl (by omega));(case hh => rfl);(case hp => exact if_pos (by omega));(case hN => rfl))|(apply DB;rfl;rfl;exact Gi _ _ _ rfl (by omega);rfl;rfl)|(apply IE;rfl;rfl;rfl;exact Jj _ _ (by rw [List.length_drop]) (by omega);rfl;rfl)|(with_reducible apply dE (d := 51))|(apply aE;rfl;rfl)|(apply cX;(case hx|hH => rfl);(case hf|hg|hα => infer_instance);(case hk => omega);(case hc|hN => rfl))|(apply aD;rfl;rfl;rfl)|(apply bU;rfl;rfl;omega;rfl)|(apply aC;rfl;rfl)|(apply aF;kernel_rfl)|(apply bW;rfl;rfl;rfl))|(apply aN;(apply aB))|with_reducible apply aA)
 refine eR ?_
 rw [hog]
 dsimp only
 have hfl : (aH eJ m[j]!.stk).length = m[j]!.stk.length * 2 := aT eJ _
 have hsl : (shr (List.drop (k + 1) m[j]!.stk)).length ≤ 200 := Nat.le_trans (List.length_filter_le _ _) (by rw [List.length_drop]; omega)
 repeat' (first|(apply aM;first|((apply iP (d := 53) (l := 0) (h := k + 1));(case hx|hn|hl => rfl);(case hh => exact pP rfl (by omega));(case hp => exact if_pos (by omega));(case hN => rfl))|(apply cH;rfl;rfl;rfl;rfl;rfl;(rw [hfl]; omega);exact C5 (k := 0) rfl rfl;omega;omega;rfl;rfl;rfl)|(apply aE;rfl;rfl)|(apply aD;rfl;rfl;rfl)|(apply bU;rfl;rfl;omega;rfl)|(apply aC;rfl;rfl)|(apply aF;kernel_rfl)|(apply bW;rfl;rfl;rfl)|(apply aW;rfl;rfl;rfl;rfl;rfl;(rw [aT]; simp only [gX] <;> omega);(exact yG (by (assumption)))))|(apply aN;first|apply aI|apply aB|apply aQ)|with_reducible apply aA|with_reducible apply aX)
 have hre : r = m[j]!.stk.take (k + 1) ++ shr (m[j]!.stk.drop (k + 1)) := by rw [hr]; rfl
 have hrl : r.length = k + 1 + (shr (List.drop (k + 1) m[j]!.stk)).length := by rw [hre, List.length_append, List.length_take]; omega
 (refine aP rfl ?_; refine bY () trivial ?_ ⟨.inr (Eq.trans (b := some _) rfl ?_), ⟨.inr (Eq.trans (b := some _) rfl ?_), trivial⟩⟩)
 ·rfl
 ·refine congrArg some ?_
  show aH gR (e6 m j (AV.own 5 0 (k + 1 - 0 + (shr (List.drop (k + 1) m[j]!.stk)).length) 2)) = _
  rw [hrl]; rfl
 ·refine congrArg some ?_
  show (List.drop 0 (aH eJ m[j]!.stk)).take ((k + 1) * 2) ++ aH eJ (List.drop 0 (shr (List.drop (k + 1) m[j]!.stk))) = _
  rw [List.drop_zero, List.drop_zero, fA eJ (e := 2), dZ, ← hre]
theorem H5 {m : List Cl} {j : Nat} {X : AV} {v : Int} (h : j < m.length) : iJ (aH gR (e6 m j X)) (0 + j * 4 + 0) [iv v] = aH gR (e6 (m.set j { m[j]! with val := v }) j X) := by
 have e : e6 (m.set j { m[j]! with val := v }) j X = (e6 m j X).set j ⟨v, m[j]!.alive, m[j]!.next, X⟩ := by
  have e2 : (m.set j { m[j]! with val := v })[j]! = { m[j]! with val := v } := by rw [cK _ _ (by rw [List.length_set]; exact h), List.getElem_set_self]
  unfold e6
  rw [e2, List.map_set, List.set_set, List.set_set]; rfl
 rw [e]
 exact fH (by rw [eT]; exact h) (by simp) (by rw [iY h]; rfl)
theorem Iz {m : List Cl} {j : Nat} {X : AV} {b : Bool} (h : j < m.length) : iJ (aH gR (e6 m j X)) (0 + j * 4 + 1) [.v (.bool b)] = aH gR (e6 (m.set j { m[j]! with alive := b }) j X) := by
 have e : e6 (m.set j { m[j]! with alive := b }) j X = (e6 m j X).set j ⟨m[j]!.val, b, m[j]!.next, X⟩ := by
  have e2 : (m.set j { m[j]! with alive := b })[j]! = { m[j]! with alive := b } := by rw [cK _ _ (by rw [List.length_set]; exact h), List.getElem_set_self]
  unfold e6
  rw [e2, List.map_set, List.set_set, List.set_set]; rfl
 rw [e]
 exact fH (by rw [eT]; exact h) (by simp) (by rw [iY h]; rfl)
theorem qA (m : List Cl) (hm : OkM m) (x : Pt) : PC Tryz.prog 157 [sl eG m, FZ x] (fun r => r = .tup [sl eG (gQ m x false), iv (A6 m x), iv (dB m x false)]) := by
 have hml := hm.l
 by_cases hk : dB m x false = 0
 ·obtain ⟨c, t⟩ := x
  obtain ⟨h1, h2, h3, h4, _⟩ := iV hk
  obtain ⟨j, rfl⟩ := Int.eq_ofNat_of_zero_le (show 0 ≤ c from h1)
  have hj : j < m.length := by have : (j : Int) < m.length := h2;omega
  obtain ⟨k, hkk⟩ := Int.eq_ofNat_of_zero_le (show 0 ≤ dP m[j]!.stk t from h4)
  obtain ⟨r, hr⟩ : ∃ r, r = gW m[j]!.stk k false := ⟨_, rfl⟩
  have hto := zL m j t r k m.length hm rfl hj hkk h3 hr
  have hog := iY (m := m) (j := j) (X := .own (0 + 1 + 3 + 3) 0 r.length 2) hj
  have hol := eT (m := m) (j := j) (X := .own (0 + 1 + 3 + 3) 0 r.length 2)
  (refine aU Tryz.func157 rfl (by simp [Tryz.ntmps157]) ?_; rw [Tryz.ntmps157])
  repeat' (first|(apply aM;first|((apply o3 (j := j));(case ha0 => rfl);(case hmc => exact tK m j hm hj);(case hM|hN => rfl))|((apply wP (m := m) (j := j) (t := t) (r := r) (n := m.length));(case ha0|ha1|ha2|hH0|hH1|hdd => rfl);(case hmc => exact hto);(case hM|hN => rfl))|(apply aE;rfl;rfl)|(first|(apply cX;(case hx|hH => rfl);(case hf|hg|hα => infer_instance);(case hk => omega);(case hc|hN => rfl))|(apply aL;rfl;rfl;rfl;rfl)|(apply aY;rfl;rfl;(exact (rfl:_=[_, _]));rfl;rfl;rfl))|(apply aD;rfl;rfl;rfl)|(apply aR;rfl;rfl;rfl;rfl)|(apply aC;rfl;rfl)|(apply cL;rfl;rfl;(assumption);rfl)|(apply aF;kernel_rfl)|(apply b0;rfl;rfl;rfl;rfl))|(apply aN;first|apply aI|apply aB|(apply b8;kernel_rfl)|(apply cS;rfl;(rfl))|apply aS|apply aQ)|with_reducible apply aA)
  refine cE (Le.cls (o := 2) (q := 7) (j := j) (k := r.length) (m := m) (r := r) rfl rfl rfl hj (by decide)) ?_
  refine cE (Le.frzD (d := 4) (i := 2) rfl rfl) ?_
  rw [hog]
  refine aP (l := [.imm m.length (aH eG (m.set j { m[j]! with stk := r })), iv m[j]!.val, iv 0]) rfl ?_
  have eM : gQ m ⟨j, t⟩ false = m.set j { m[j]! with stk := r } := by
   unfold gQ iQ;rw [if_pos hk]; dsimp only
   rw [Int.toNat_natCast, hkk, Int.toNat_natCast, hr]
  have eN : A6 m ⟨j, t⟩ = m[j]!.val := by unfold A6;rw [if_pos hk]; rfl
  rw [eM, eN, hk, nN (by rw [List.length_set])]
  exact ⟨rfl, by (exact Pur.pf)⟩
 ·(refine aU Tryz.func157 rfl (by simp [Tryz.ntmps157]) ?_; rw [Tryz.ntmps157])
  repeat' (first|(apply aM;first|(apply iC;rfl;exact kK m hm;rfl;rfl)|((apply m5 (m := m) (x := x) (wr := false) (n := m.length));(case ha0|ha1|ha2|hH0 => rfl);(case hmc => exact oI m x false _ hm rfl hk);(case hM|hN => rfl))|(apply aE;rfl;rfl)|(apply aY;rfl;rfl;(exact (rfl:_=[_, _]));rfl;rfl;rfl)|(apply aR;rfl;rfl;rfl;rfl)|(apply aC;rfl;rfl)|(apply aF;kernel_rfl)|(apply b0;rfl;rfl;rfl;rfl))|(apply aN;first|apply aI|apply aB|(apply aO;rfl;all_goals intro hc;have hq:=hc;(try simp only [cF] at hq);try exfalso;omega)|apply aQ)|with_reducible apply aA|with_reducible apply bK)
  (refine cE (Le.frzD (d := 4) (i := 2) rfl rfl) ?_; refine aP rfl ?_)
  refine ⟨?_, by (exact Pur.pf)⟩
  simp only [b9]
  unfold gQ A6;rw [if_neg hk, if_neg hk]
theorem zE (m : List Cl) (hm : OkM m) (x : Pt) : PC Tryz.prog 191 [sl eG m, FZ x] (fun r => r = .tup [sl eG (jW m x), iv (dB m x true)]) := by
 have hml := hm.l
 by_cases hk : dB m x true = 0
 ·obtain ⟨c, t⟩ := x
  obtain ⟨h1, h2, h3, h4, hu⟩ := iV hk
  obtain ⟨j, rfl⟩ := Int.eq_ofNat_of_zero_le (show 0 ≤ c from h1)
  have hj : j < m.length := by have : (j : Int) < m.length := h2;omega
  obtain ⟨k, hkk⟩ := Int.eq_ofNat_of_zero_le (show 0 ≤ dP m[j]!.stk t from h4)
  have huk : m[j]!.stk[k]!.uq = true := by
   have h : m[j]!.stk[(dP m[j]!.stk t).toNat]!.uq = true := hu rfl
   rwa [hkk, Int.toNat_natCast] at h
  have htw := sT m j t k m.length hm rfl hj hkk h3 huk
  have hrl : (m[j]!.stk.take (k + 1)).length = k + 1 := by
   have hb := g0 m[j]!.stk t
   rw [List.length_take]; omega
  have hol := eT (m := m) (j := j) (X := .own (0 + 1 + 2) 0 (k + 1) 2)
  have hls : (m.set j { m[j]! with alive := false }).length = m.length := List.length_set
  (refine aU Tryz.func191 rfl (by simp [Tryz.ntmps191]) ?_; rw [Tryz.ntmps191])
  repeat' (first|(apply aM;first|((apply o3 (j := j));(case ha0 => rfl);(case hmc => exact tK m j hm hj);(case hM|hN => rfl))|((apply wC (m := m) (j := j) (t := t) (k := k) (n := m.length));(case ha0|ha1|ha2|hH0|hH1|hdd => rfl);(case hmc => exact htw);(case hM|hN => rfl))|(apply aW;rfl;rfl;rfl;rfl;rfl;(rw [aT]; simp only [List.length_append, List.length_cons, List.length_nil]; omega);exact Iz hj)|(apply aE;rfl;rfl)|(first|(apply aL;rfl;rfl;rfl;rfl)|(apply aY;rfl;rfl;(exact (rfl:_=[_, _]));rfl;rfl;rfl))|(apply aD;rfl;rfl;rfl)|(apply aR;rfl;rfl;rfl;rfl)|(apply aC;rfl;rfl)|(apply cL;rfl;rfl;(assumption);rfl)|(apply aF;kernel_rfl)|(apply b0;rfl;rfl;rfl;rfl))|(apply aN;first|apply aI|apply aB|(apply bZ;rfl;(rfl))|apply aQ)|with_reducible apply aA)
  refine cE (Le.cls (o := 2) (q := 3) (j := j) (k := k + 1) (m := m.set j { m[j]! with alive := false }) (r := m[j]!.stk.take (k + 1)) rfl rfl hrl.symm (by rw [hls]; exact hj) (by decide)) ?_
  refine cE (Le.frzD (d := 4) (i := 2) rfl rfl) ?_
  rw [qV hj, set_set]
  refine aP (l := [.imm m.length (aH eG (m.set j { m[j]! with alive := false, stk := m[j]!.stk.take (k + 1) })), iv 0]) rfl ?_
  have eM : jW m ⟨j, t⟩ = m.set j { m[j]! with alive := false, stk := m[j]!.stk.take (k + 1) } := by
   unfold jW iQ;rw [if_pos hk]; dsimp only
   rw [Int.toNat_natCast, hkk, Int.toNat_natCast]; unfold gW;rw [if_pos rfl]
  rw [eM, hk, nN (by rw [List.length_set])]
  exact ⟨rfl, by (exact Pur.pf)⟩
 ·(refine aU Tryz.func191 rfl (by simp [Tryz.ntmps191]) ?_; rw [Tryz.ntmps191])
  repeat' (first|(apply aM;first|(apply iC;rfl;exact kK m hm;rfl;rfl)|((apply m5 (m := m) (x := x) (wr := true) (n := m.length));(case ha0|ha1|ha2|hH0 => rfl);(case hmc => exact oI m x true _ hm rfl hk);(case hM|hN => rfl))|(apply aE;rfl;rfl)|(apply aY;rfl;rfl;(exact (rfl:_=[_, _]));rfl;rfl;rfl)|(apply aR;rfl;rfl;rfl;rfl)|(apply aC;rfl;rfl)|(apply aF;kernel_rfl)|(apply b0;rfl;rfl;rfl;rfl))|(apply aN;first|apply aI|apply aB|(apply aO;rfl;all_goals intro hc;have hq:=hc;(try simp only [cF] at hq);try exfalso;omega)|apply aS|apply aQ)|with_reducible apply aA)
  (refine cE (Le.frzD (d := 4) (i := 2) rfl rfl) ?_; refine aP rfl ?_)
  refine ⟨?_, by (exact Pur.pf)⟩
  simp only [b9]
  unfold jW;rw [if_neg hk]
theorem xO (m : List Cl) (hm : OkM m) (x : Pt) (v : Int) : PC Tryz.prog 158 [sl eG m, FZ x, iv v] (fun r => r = .tup [sl eG (qR m x v), iv (vY m x v)]) := by
 have hml := hm.l
 by_cases hv : 0 ≤ v ∧ v ≤ 9
 case neg =>
  have hwk : vY m x v = 4 := by unfold vY;rw [if_neg hv]
  have e : qR m x v = m := by unfold qR;rw [if_neg (by rw [hwk]; decide)]
  (refine aU Tryz.func158 rfl (by simp [Tryz.ntmps158]) ?_; rw [Tryz.ntmps158])
  repeat' (first|(apply aM;first|(apply iC;rfl;exact kK m hm;rfl;rfl)|(apply aE;rfl;rfl)|(apply aC;rfl;rfl)|((with_reducible apply aJ (k := 50));(case ha => rfl);(case h => (apply eD <;> (fail)));(case hp => (rfl));(case hN => rfl))|(apply aF;kernel_rfl)|(apply cC;rfl;rfl)|(apply b0;rfl;rfl;rfl;rfl))|(apply aN;first|apply aI|apply aB|(apply aO;rfl;all_goals intro hc;have hq:=hc;(try simp only [cF] at hq);try exfalso;omega)|apply aQ)|with_reducible apply aA|with_reducible apply bK)
  all_goals (try (exfalso;omega))
  all_goals (
   (refine cE (Le.frzD (d := 6) (i := 2) rfl rfl) ?_; refine aP rfl ?_)
   refine ⟨?_, by (exact Pur.pf)⟩
   simp only [b9]
   rw [e, hwk])
 case pos =>
 have hwk : vY m x v = dB m x true := by unfold vY;rw [if_pos hv]
 by_cases hk : dB m x true = 0
 ·obtain ⟨c, t⟩ := x
  obtain ⟨h1, h2, h3, h4, hu⟩ := iV hk
  obtain ⟨j, rfl⟩ := Int.eq_ofNat_of_zero_le (show 0 ≤ c from h1)
  have hj : j < m.length := by have : (j : Int) < m.length := h2;omega
  obtain ⟨k, hkk⟩ := Int.eq_ofNat_of_zero_le (show 0 ≤ dP m[j]!.stk t from h4)
  have huk : m[j]!.stk[k]!.uq = true := by
   have h : m[j]!.stk[(dP m[j]!.stk t).toNat]!.uq = true := hu rfl
   rwa [hkk, Int.toNat_natCast] at h
  have htw := sT m j t k m.length hm rfl hj hkk h3 huk
  have hrl : (m[j]!.stk.take (k + 1)).length = k + 1 := by
   have hb := g0 m[j]!.stk t
   rw [List.length_take]; omega
  have hol := eT (m := m) (j := j) (X := .own (0 + 1 + 2) 0 (k + 1) 2)
  have hls : (m.set j { m[j]! with val := v }).length = m.length := List.length_set
  (refine aU Tryz.func158 rfl (by simp [Tryz.ntmps158]) ?_; rw [Tryz.ntmps158])
  repeat' (first|(apply aM;first|((apply o3 (j := j));(case ha0 => rfl);(case hmc => exact tK m j hm hj);(case hM|hN => rfl))|((apply wC (m := m) (j := j) (t := t) (k := k) (n := m.length));(case ha0|ha1|ha2|hH0|hH1|hdd => rfl);(case hmc => exact htw);(case hM|hN => rfl))|(apply aW;rfl;rfl;rfl;rfl;rfl;(rw [aT]; simp only [List.length_append, List.length_cons, List.length_nil]; omega);exact H5 hj)|(apply aE;rfl;rfl)|(first|(apply aL;rfl;rfl;rfl;rfl)|(apply aY;rfl;rfl;(exact (rfl:_=[_, _]));rfl;rfl;rfl))|(apply aD;rfl;rfl;rfl)|(apply aR;rfl;rfl;rfl;rfl)|(apply aC;rfl;rfl)|(apply cL;rfl;rfl;(assumption);rfl)|((with_reducible apply aJ (k := 50));(case ha => rfl);(case h => (apply eD <;> (fail)));(case hp => (rfl));(case hN => rfl))|(apply aF;kernel_rfl)|(apply cC;rfl;rfl)|(apply b0;rfl;rfl;rfl;rfl))|(apply aN;first|apply aI|apply aB|(apply bZ;rfl;(rfl))|(apply aO;rfl;all_goals intro hc;have hq:=hc;(try simp only [cF] at hq);try exfalso;omega)|apply aS|apply aQ)|with_reducible apply aA)
  refine cE (Le.cls (o := 2) (q := 3) (j := j) (k := k + 1) (m := m.set j { m[j]! with val := v }) (r := m[j]!.stk.take (k + 1)) rfl rfl hrl.symm (by rw [hls]; exact hj) (by decide)) ?_
  refine cE (Le.frzD (d := 6) (i := 2) rfl rfl) ?_
  rw [qV hj, set_set]
  refine aP (l := [.imm m.length (aH eG (m.set j { m[j]! with val := v, stk := m[j]!.stk.take (k + 1) })), iv 0]) rfl ?_
  have eM : qR m ⟨j, t⟩ v = m.set j { m[j]! with val := v, stk := m[j]!.stk.take (k + 1) } := by
   unfold qR iQ;rw [hwk, if_pos hk]; dsimp only
   rw [Int.toNat_natCast, hkk, Int.toNat_natCast]; unfold gW;rw [if_pos rfl]
  rw [eM, hwk, hk, nN (by rw [List.length_set])]
  exact ⟨rfl, by (exact Pur.pf)⟩
 ·(refine aU Tryz.func158 rfl (by simp [Tryz.ntmps158]) ?_; rw [Tryz.ntmps158])
  repeat' (first|(apply aM;first|(apply iC;rfl;exact kK m hm;rfl;rfl)|((apply m5 (m := m) (x := x) (wr := true) (n := m.length));(case ha0|ha1|ha2|hH0 => rfl);(case hmc => exact oI m x true _ hm rfl hk);(case hM|hN => rfl))|(apply aE;rfl;rfl)|(apply aY;rfl;rfl;(exact (rfl:_=[_, _]));rfl;rfl;rfl)|(apply aR;rfl;rfl;rfl;rfl)|(apply aC;rfl;rfl)|((with_reducible apply aJ (k := 50));(case ha => rfl);(case h => (apply eD <;> (fail)));(case hp => (rfl));(case hN => rfl))|(apply aF;kernel_rfl)|(apply cC;rfl;rfl)|(apply b0;rfl;rfl;rfl;rfl))|(apply aN;first|apply aI|apply aB|(apply aO;rfl;all_goals intro hc;have hq:=hc;(try simp only [cF] at hq);try exfalso;omega)|apply aS|apply aQ)|with_reducible apply aA)
  (refine cE (Le.frzD (d := 6) (i := 2) rfl rfl) ?_; refine aP rfl ?_)
  refine ⟨?_, by (exact Pur.pf)⟩
  simp only [b9]
  unfold qR;rw [hwk, if_neg hk]
theorem BR (m : List Cl) (hm : OkM m) (v : Int) : PC Tryz.prog 188 [sl eG m, iv v] (fun r => r = .tup [sl eG (m ++ [tZ v]), .agg [iv m.length, iv 0]]) := by
 have hml := hm.l
 (refine aU Tryz.func188 rfl (by simp [Tryz.ntmps188]) ?_; rw [Tryz.ntmps188])
 repeat' (first|(apply aM;first|(apply iC;rfl;exact kK m hm;rfl;rfl)|(apply aE;rfl;rfl)|(apply aC;rfl;rfl)|(first|(apply a8;rfl;rfl;rfl)|(apply cH;rfl;rfl;rfl;rfl;rfl;(rw [aT]; omega);(rfl);omega;omega;(rfl);rfl;rfl))|(apply aF;kernel_rfl)|(apply bV;rfl;(first|exact (rfl:_=some [_, _])|exact (rfl:_=some [_, _, _, _]));(first|exact (rfl:_=[_, _])|exact (rfl:_=[_, _, _, _]));rfl)|(apply bE;rfl;rfl)|((apply bS (t := _));(case hze|hsm|hl => rfl);(case hfl => (first|exact (rfl:_=some [_, _])|exact (rfl:_=some [_, _, _, _])));(case hM|hN => rfl))|(apply aW;rfl;rfl;rfl;rfl;rfl;(case hl => (simp;done));(exact (rfl:_=[_, _]))))|(apply aN;first|apply aI|apply aB|apply aQ)|with_reducible apply aA)
 have e2 : AV.imm (m.length + 1) (((aH eG m).drop 0).take (m.length * 4) ++ [iv v, bv true, iv 1, .imm 1 [iv 0, bv true]]) = sl eG (m ++ [tZ v]) := by
  have e : ((aH eG m).drop 0).take (m.length * 4) ++ [iv v, bv true, iv 1, .imm 1 [iv 0, bv true]] = aH eG (m ++ [tZ v]) := gS rfl rfl
  rw [e]; exact nN (by rw [List.length_append]; rfl)
 refine cE (Le.frzD (d := 4) (i := 5) rfl rfl) ?_
 refine aP (l := [AV.imm (m.length + 1) (((aH eG m).drop 0).take (m.length * 4) ++ [iv v, bv true, iv 1, .imm 1 [iv 0, bv true]]), .agg [iv m.length, iv 0]]) rfl ?_
 rw [e2]
 exact ⟨rfl, by (exact Pur.pf)⟩
theorem BZ (m : List Cl) (hm : OkM m) (v : Int) : PC Tryz.prog 153 [sl eG m, iv v] (fun r => r = .tup (if 0 ≤ v ∧ v ≤ 9 ∧ m.length < 200 then [sl eG (m ++ [tZ v]), .agg [iv m.length, iv 0], bv true] else [sl eG [], .agg [iv 0, iv 0], bv false])) := by
 have hml := hm.l
 have hcv := iD m hm
 have hnc := BR m hm v
 (refine aU Tryz.func153 rfl (by simp [Tryz.ntmps153]) ?_; rw [Tryz.ntmps153])
 repeat' (first|(apply aM;first|((with_reducible apply aJ (k := 187));(case ha => rfl);(case h => exact hcv);(case hp => (exact Pur.pf));(case hN => rfl))|((with_reducible apply aJ (k := 188));(case ha => rfl);(case h => exact hnc);(case hp => (exact Pur.pf));(case hN => rfl))|(apply aE;rfl;rfl)|(apply aY;rfl;rfl;(exact (rfl:_=[_, _]));rfl;rfl;rfl)|(first|(apply a6;rfl;rfl;rfl;(first|rfl|assumption))|(apply bD;rfl;rfl;rfl;(assumption))|(apply bO;(case hj|hb|hN => rfl);all_goals (intro hg;have hq := hg;(try simp only [cF] at hq);(try (exfalso;omega)))))|(apply aR;rfl;rfl;rfl;rfl)|(apply aC;rfl;rfl)|(first|(apply bR;rfl;(assumption);rfl;rfl)|(apply bF;rfl;(first|rfl|assumption);rfl;rfl))|((with_reducible apply aJ (k := 50));(case ha => rfl);(case h => (apply eD <;> (fail)));(case hp => (rfl));(case hN => rfl))|(apply a8;rfl;rfl;rfl)|(apply aF;kernel_rfl)|(apply bV;rfl;(exact (rfl:_=some [_, _]));(exact (rfl:_=[_, _]));rfl)|(apply cC;rfl;rfl)|(apply bE;rfl;rfl)|(apply cB;rfl;rfl;rfl)|(apply aW;rfl;rfl;rfl;rfl;rfl;(case hl => (first|decide|(simp;done)));(exact (rfl:_=[_, _]))))|(apply aN;first|apply aI|apply aB|(apply b8;kernel_rfl)|(apply bZ;rfl;(rfl))|(apply aO;rfl;all_goals intro hc;have hq:=hc;(try simp only [cF] at hq);try exfalso;omega)|apply aS|apply aQ)|with_reducible apply aA|with_reducible apply bK)
 ·refine cE (Le.nilImm (d := 4) rfl) ?_
  exact aP (l := [sl eG [], .agg [iv 0, iv 0], bv false]) rfl ⟨by rw [if_neg (by omega)]; rfl, rfl⟩
 ·exact aP (l := [sl eG (m ++ [tZ v]), .agg [iv m.length, iv 0], bv true]) rfl ⟨by rw [if_pos (by omega)]; rfl, by (exact Pur.pf)⟩
 ·refine cE (Le.nilImm (d := 4) rfl) ?_
  exact aP (l := [sl eG [], .agg [iv 0, iv 0], bv false]) rfl ⟨by rw [if_neg (by omega)]; rfl, rfl⟩
theorem EC {m : List Cl} {j : Nat} {t : Int} {r : List Tg} {n : Nat} {N : Nat} {Q : Exit → AS → Prop} {all : Array Oper} {rest : List Oper} {tsl : List (Nat × AV)} {hsl : List (Nat × Option (List AV))} {nidl : Nat} {z0 : Lo} {md : Md} {d : Nat} {ty : TypeId} {pos : String} {af : Array Edge} {tys : Array TypeId} {x0 x1 x2 : Operand} {i0 i1 : Nat} (ha0 : ev (lk tsl) x0 = some (.own i0 0 n 4)) (ha1 : ev (lk tsl) x1 = some (.agg [iv (j : Int), iv t])) (ha2 : ev (lk tsl) x2 = some (bv true)) (hH0 : cJ hsl i0 = some (aH gR (e6 m j (.own i1 0 m[j]!.stk.length 2)))) (hH1 : cJ hsl i1 = some (aH eJ m[j]!.stk)) (hdd : Go.AL.distinct [i0, i1] = true) (hmc : MC Tryz.prog 190 [.own 0 0 n 4, .agg [iv (j : Int), iv t], bv true] [(0, some (aH gR (e6 m j (.own 1 0 m[j]!.stk.length 2)))), (1, some (aH eJ m[j]!.stk))] 2 (fun _ : Unit => True) (fun _ => iv 0) (fun _ => [(0, some (aH gR (e6 m j (.own 1 0 r.length 2)))), (1, some (aH eJ r))])) (hM : Nat.ble (nidl + 0) fG = true) (hN : Nat.blt d N = true) {md' : Md} [hmd : MdA md (hG [x0, x1, x2] ++ [.inr i0, .inr i1]) (List.map Sum.inr (List.map Prod.fst ([(i0, some (aH gR (e6 m j (.own i1 0 r.length 2)))), (i1, some (aH eJ r))] : List (Nat × Option (List AV)))) ++ [.inl d]) md'] (kk : RW Tryz.prog N all Q md' rest ⟨(d, iv 0) :: tsl, jF hsl [(i0, some (aH gR (e6 m j (.own i1 0 r.length 2)))), (i1, some (aH eJ r))], nidl + 0, z0⟩) : RW Tryz.prog N all Q md (⟨some d, .call ⟨.value (.func 190), #[x0, x1, x2], tys⟩, ty, pos, af, none⟩ :: rest) ⟨tsl, hsl, nidl, z0⟩ := by
 refine cM [i0, i1] 2 [(i0, some (aH gR (e6 m j (.own i1 0 r.length 2)))), (i1, some (aH eJ r))] hmc (avs := [.own i0 0 n 4, .agg [iv (j : Int), iv t], bv true]) ?_ hdd ?_ rfl ?_ (by simpa using hM) ?_ ?_ ?_ hN (md' := md') (hmd := hmd) kk
 ·show evL (lk tsl) [x0, x1, x2] = _
  simp only [evL, ha0, ha1, ha2]
 ·exact ⟨⟨_, _, rfl, hH0, by (repeat' (exact nM rfl))⟩, ⟨⟨_, _, rfl, hH1, by (repeat' (exact RnL.purI inferInstance))⟩, trivial⟩⟩
 ·(repeat' (first|exact RnL.purI inferInstance|exact RnV.own rfl|refine RnL.cons ?_ ?_))
 ·(repeat' (exact RnV.purI inferInstance))
 ·simp [eA]
 ·(repeat' (first|exact trivial|(refine And.intro ⟨0, _, rfl, rfl, ?_⟩ ?_)|(refine And.intro ⟨1, _, rfl, rfl, ?_⟩ ?_)|exact RnL.purI inferInstance|exact nM rfl))
theorem Gw (m : List Cl) (j : Nat) (t : Int) (r : List Tg) (k n : Nat) (hm : OkM m) (hn : n = m.length) (hj : j < m.length) (hk : dP m[j]!.stk t = (k : Int)) (hal : m[j]!.alive = true) (hu : m[j]!.stk[k]!.uq = true) (hre : m[j]!.stk.take (k + 1) = r) (hrk : k + 1 = r.length) : MC Tryz.prog 190 [.own 0 0 n 4, .agg [iv (j : Int), iv t], bv true] [(0, some (aH gR (e6 m j (.own 1 0 m[j]!.stk.length 2)))), (1, some (aH eJ m[j]!.stk))] 2 (fun _ : Unit => True) (fun _ => iv 0) (fun _ => [(0, some (aH gR (e6 m j (.own 1 0 r.length 2)))), (1, some (aH eJ r))]) := by
 have h := sT m j t k n hm hn hj hk hal hu
 rw [hre, hrk] at h
 exact h
theorem Io (m : List Cl) (hm : OkM m) (j k : Nat) (t : Int) (r : List Tg) (hj : j < m.length) (hkk : dP m[j]!.stk t = (k : Int)) (hk : dB m ⟨(j : Int), t⟩ false = 0) (hr : r = gW m[j]!.stk k false) : PC Tryz.prog 155 [sl eG m, .agg [iv (j : Int), iv t], bv false] (fun z => z = .tup [sl eG (oT m m j false r), FZ (qI m j r), iv (oZ m j r)]) := by
 have hml := hm.l
 obtain ⟨h1, h2, h3, h4, hu⟩ := iV hk
 have hc := ((iZ m).1 hm).2 j hj
 have hb := g0 m[j]!.stk t
 have hrl : r.length ≤ 200 := by rw [hr]; exact Nat.le_trans tchS_sub.length_le hc.l.2
 have hnx := hc.n
 obtain ⟨_, e2, _⟩ := m8 hk (r := r) (by rw [hr]; show _ = gW m[j]!.stk (dP m[j]!.stk t).toNat false;rw [hkk]; rfl)
 have e2' : o7 m ⟨(j : Int), t⟩ false = oT m m j false r := e2
 have hok := hm.ln ⟨(j : Int), t⟩ false
 rw [e2'] at hok
 have hto := zL m j t r k m.length hm rfl hj hkk h3 hr
 have hog := iY (m := m) (j := j) (X := .own (0 + 1 + 1 + 3 + 3) 0 r.length 2) hj
 have hol := eT (m := m) (j := j) (X := .own (0 + 1 + 1 + 3 + 3) 0 r.length 2)
 have hol2 := eT (m := m) (j := j) (X := .own (0 + 1 + 1 + 3 + 4 + 1) 0 (r.length + 1) 2)
 have hm2 : (m.set j { m[j]! with next := m[j]!.next + 1 }).length = m.length := List.length_set
 (refine aU Tryz.func155 rfl (by simp [Tryz.ntmps155]) ?_; rw [Tryz.ntmps155])
 repeat' (first|(apply aM;first|((apply o3 (j := j));(case ha0 => rfl);(case hmc => exact tK m j hm hj);(case hM|hN => rfl))|((apply wP (m := m) (j := j) (t := t) (r := r) (n := m.length));(case ha0|ha1|ha2|hH0|hH1|hdd => rfl);(case hmc => exact hto);(case hM|hN => rfl))|(with_reducible apply dE (d := 32))|(apply aE;rfl;rfl)|(first|(apply cX;(case hx|hH => rfl);(case hf|hg|hα => infer_instance);(case hk => omega);(case hc|hN => rfl))|(apply aL;rfl;rfl;rfl;rfl)|(apply aY;rfl;rfl;(exact (rfl:_=[_, _]));rfl;rfl;rfl))|(apply aD;rfl;rfl;rfl)|(apply aR;rfl;rfl;rfl;rfl)|(apply aC;rfl;rfl)|(apply cL;rfl;rfl;(assumption);rfl)|(apply aF;kernel_rfl)|(apply bW;rfl;rfl;rfl)|(apply b0;rfl;rfl;rfl;rfl)|(apply bE;rfl;rfl))|(apply aN;first|apply aI|apply aB|(apply cS;rfl;(rfl))|apply aS)|with_reducible apply aA)
 refine eR ?_
 rw [hog]
 dsimp only
 by_cases hf : tA m j r
 ·have eM : oT m m j false r = m := by unfold oT; rw [if_pos hf]
  have eP : qI m j r = ⟨0, 0⟩ := by unfold qI;rw [if_pos hf]
  have eK : oZ m j r = 4 := by unfold oZ;rw [if_pos hf]
  rw [eM, eP, eK]
  unfold tA at hf
  repeat' (first|(apply aM;first|(apply iC;rfl;exact kK m hm;rfl;rfl)|(with_reducible apply dE (d := 44))|(apply aE;rfl;rfl)|(apply cX;(case hx|hH => rfl);(case hf|hg|hα => infer_instance);(case hk => omega);(case hc|hN => rfl))|(apply aD;rfl;rfl;rfl)|(first|(apply a6;rfl;rfl;rfl;(assumption))|(apply bD;rfl;rfl;rfl;(assumption))|(apply bO;(case hj|hb|hN => rfl);all_goals (intro hg;have hq := hg;(try simp only [cF] at hq);(try (exfalso;omega)))))|(apply aR;rfl;rfl;rfl;rfl)|(apply aC;rfl;rfl)|(first|(apply bR;rfl;(assumption);rfl;rfl)|(apply bF;rfl;(assumption);rfl;rfl))|(apply a8;rfl;rfl;rfl)|(apply aF;kernel_rfl)|(apply bV;rfl;(exact (rfl:_=some [_, _]));(exact (rfl:_=[_, _]));rfl)|(apply bW;rfl;rfl;rfl)|(apply aW;rfl;rfl;rfl;rfl;rfl;(decide);(exact (rfl:_=[_, _]))))|(apply aN;first|apply aI|apply aB|(apply bZ;rfl;(rfl))|(apply aO;rfl;all_goals intro hc;have hq:=hc;(try simp only [cF] at hq);try exfalso;omega)|apply aS|apply aQ)|with_reducible apply aA|with_reducible apply bK)
  ·refine cE (Le.frzD (d := 6) (i := 10) rfl rfl) ?_
   exact aP (l := [sl eG m, .agg [iv 0, iv 0], iv 4]) rfl ⟨rfl, by (exact Pur.pf)⟩
  ·exfalso
   have h : ¬ (e6 m j (.own (0 + 1 + 1 + 3 + 3) 0 r.length 2))[j]!.next = 1000 := by assumption
   rw [hog] at h
   dsimp only at h
   omega
  ·refine cE (Le.frzD (d := 6) (i := 10) rfl rfl) ?_
   exact aP (l := [sl eG m, .agg [iv 0, iv 0], iv 4]) rfl ⟨rfl, by (exact Pur.pf)⟩
 ·have eM : oT m m j false r = m.set j (psh { m[j]! with stk := r } false) := by unfold oT; rw [if_neg hf]
  have eP : qI m j r = ⟨j, m[j]!.next⟩ := by unfold qI;rw [if_neg hf]
  have eK : oZ m j r = 0 := by unfold oZ;rw [if_neg hf]
  rw [eM] at hok
  rw [eM, eP, eK]
  unfold tA at hf
  have hown := kK _ hok
  repeat' (first|(apply aM;first|(with_reducible apply dE (d := 41))|(with_reducible apply dE (d := 54))|(apply aE;rfl;rfl)|(apply cX;(case hx|hH => rfl);(case hf|hg|hα => infer_instance);(case hk => omega);(case hc|hN => rfl))|(apply aD;rfl;rfl;rfl)|(first|(apply a6;rfl;rfl;rfl;(assumption))|(apply bO;(case hj|hb|hN => rfl);all_goals (intro hg;have hq := hg;(try simp only [cF] at hq);(try (exfalso;omega)))))|(apply aR;rfl;rfl;rfl;rfl)|(apply aC;rfl;rfl)|(apply bF;rfl;(assumption);rfl;rfl)|(apply a8;rfl;rfl;rfl)|(apply aF;kernel_rfl)|(apply bW;rfl;rfl;rfl))|(apply aN;first|apply aI|apply aB|(apply aO;rfl;all_goals intro hc;have hq:=hc;(try simp only [cF] at hq);try exfalso;omega)|apply aS)|with_reducible apply aA)
  ·exfalso
   have h : (e6 m j (.own (0 + 1 + 1 + 3 + 3) 0 r.length 2))[j]!.next = 1000 := by assumption
   rw [hog] at h
   dsimp only at h
   omega
  ·refine eR ?_
   rw [hog]
   dsimp only
   repeat' (first|(apply aM;first|(apply aW;rfl;rfl;rfl;rfl;rfl;(rw [aT, eT]; simp only [List.length_append, List.length_cons, List.length_nil]; omega);(first|exact yG hj|exact Dq hj))|(apply aE;rfl;rfl)|(apply aD;rfl;rfl;rfl)|(apply bU;rfl;rfl;omega;rfl)|(apply cH;rfl;rfl;rfl;rfl;rfl;(rw [aT]; omega);(rfl);omega;omega;(exact FU (by (omega)));rfl;rfl)|(apply aF;kernel_rfl)|(apply bV;rfl;(exact (rfl:_=some [_, _]));(exact (rfl:_=[_, _]));rfl)|(apply bW;rfl;rfl;rfl)|((apply bS (t := _));(case hze|hsm|hl => rfl);(case hfl => (exact (rfl:_=some [_, _])));(case hM|hN => rfl)))|(apply aN;(apply aI))|with_reducible apply aA)
   refine AW.le ?_ (Le.cls (o := 3) (q := 0 + 1 + 1 + 3 + 4 + 1) (j := j) (k := r.length + 1) (m := m.set j { m[j]! with next := m[j]!.next + 1 }) (r := r ++ [⟨m[j]!.next, false⟩]) rfl rfl (by (rw [List.length_append]; rfl)) (by omega) (by decide))
   refine AW.le ?_ (Le.frzD (d := 9) (i := 3) rfl rfl)
   have e : (m.set j { m[j]! with next := m[j]!.next + 1 }).set j { (m.set j { m[j]! with next := m[j]!.next + 1 })[j]! with stk := r ++ [⟨m[j]!.next, false⟩] } = m.set j (psh { m[j]! with stk := r } false) := by
    rw [qV hj, set_set]; rfl
   rw [e, nN (f := eG) (xs := m.set j (psh { m[j]! with stk := r } false)) (by rw [List.length_set])]
   repeat' (first|(apply aM;first|(apply iC;rfl;exact hown;rfl;rfl)|(apply aE;rfl;rfl)|(apply aL;rfl;rfl;rfl;rfl)|(apply aD;rfl;rfl;rfl)|(apply aC;rfl;rfl)|(apply aF;kernel_rfl)|(apply bV;rfl;(exact (rfl:_=some [_, _]));(exact (rfl:_=[_, _]));rfl)|(apply aW;rfl;rfl;rfl;rfl;rfl;(case hl => (simp;done));(exact (rfl:_=[_, _]))))|(apply aN;first|(apply b8;kernel_rfl)|apply aQ)|with_reducible apply aA)
   refine cE (Le.frzD (d := 6) (i := 12) rfl rfl) ?_
   exact aP (l := [sl eG (m.set j (psh { m[j]! with stk := r } false)), .agg [iv (j : Int), iv m[j]!.next], iv 0]) rfl ⟨rfl, by (exact Pur.pf)⟩
  all_goals (exfalso;omega)
theorem Ho (m : List Cl) (hm : OkM m) (j k : Nat) (t : Int) (r : List Tg) (hj : j < m.length) (hkk : dP m[j]!.stk t = (k : Int)) (hk : dB m ⟨(j : Int), t⟩ true = 0) (hr : r = gW m[j]!.stk k true) : PC Tryz.prog 155 [sl eG m, .agg [iv (j : Int), iv t], bv true] (fun z => z = .tup [sl eG (oT m m j true r), FZ (qI m j r), iv (oZ m j r)]) := by
 have hml := hm.l
 obtain ⟨h1, h2, h3, h4, hu⟩ := iV hk
 have hc := ((iZ m).1 hm).2 j hj
 have hb := g0 m[j]!.stk t
 have hrl : r.length ≤ 200 := by rw [hr]; exact Nat.le_trans tchS_sub.length_le hc.l.2
 have hnx := hc.n
 obtain ⟨_, e2, _⟩ := m8 hk (r := r) (by rw [hr]; show _ = gW m[j]!.stk (dP m[j]!.stk t).toNat true;rw [hkk]; rfl)
 have e2' : o7 m ⟨(j : Int), t⟩ true = oT m m j true r := e2
 have hok := hm.ln ⟨(j : Int), t⟩ true
 rw [e2'] at hok
 have huk : m[j]!.stk[k]!.uq = true := by
  have h : m[j]!.stk[(dP m[j]!.stk t).toNat]!.uq = true := hu rfl
  rwa [hkk, Int.toNat_natCast] at h
 have hre : m[j]!.stk.take (k + 1) = r := by rw [hr]; unfold gW;rw [if_pos rfl]
 have hrk : k + 1 = r.length := by rw [← hre, List.length_take]; omega
 have hto := Gw m j t r k m.length hm rfl hj hkk h3 huk hre hrk
 clear hre hrk huk hu hr hkk
 have hog := iY (m := m) (j := j) (X := .own (0 + 1 + 1 + 2) 0 r.length 2) hj
 have hol := eT (m := m) (j := j) (X := .own (0 + 1 + 1 + 2) 0 r.length 2)
 have hol2 := eT (m := m) (j := j) (X := .own (0 + 1 + 1 + 3 + 0 + 1) 0 (r.length + 1) 2)
 have hm2 : (m.set j { m[j]! with next := m[j]!.next + 1 }).length = m.length := List.length_set
 (refine aU Tryz.func155 rfl (by simp [Tryz.ntmps155]) ?_; rw [Tryz.ntmps155])
 repeat' (first|(apply aM;first|((apply o3 (j := j));(case ha0 => rfl);(case hmc => exact tK m j hm hj);(case hM|hN => rfl))|((apply EC (m := m) (j := j) (t := t) (r := r) (n := m.length));(case ha0|ha1|ha2|hH0|hH1|hdd => rfl);(case hmc => exact hto);(case hM|hN => rfl))|(with_reducible apply dE (d := 32))|(apply aE;rfl;rfl)|(first|(apply cX;(case hx|hH => rfl);(case hf|hg|hα => infer_instance);(case hk => omega);(case hc|hN => rfl))|(apply aL;rfl;rfl;rfl;rfl)|(apply aY;rfl;rfl;(exact (rfl:_=[_, _]));rfl;rfl;rfl))|(apply aD;rfl;rfl;rfl)|(apply aR;rfl;rfl;rfl;rfl)|(apply aC;rfl;rfl)|(apply cL;rfl;rfl;(assumption);rfl)|(apply aF;kernel_rfl)|(apply bW;rfl;rfl;rfl)|(apply b0;rfl;rfl;rfl;rfl)|(apply bE;rfl;rfl))|(apply aN;first|apply aI|apply aB|(apply cS;rfl;(rfl))|apply aS)|with_reducible apply aA)
 refine eR ?_
 rw [hog]
 dsimp only
 by_cases hf : tA m j r
 ·have eM : oT m m j true r = m := by unfold oT; rw [if_pos hf]
  have eP : qI m j r = ⟨0, 0⟩ := by unfold qI;rw [if_pos hf]
  have eK : oZ m j r = 4 := by unfold oZ;rw [if_pos hf]
  rw [eM, eP, eK]
  unfold tA at hf
  repeat' (first|(apply aM;first|(apply iC;rfl;exact kK m hm;rfl;rfl)|(with_reducible apply dE (d := 44))|(apply aE;rfl;rfl)|(apply cX;(case hx|hH => rfl);(case hf|hg|hα => infer_instance);(case hk => omega);(case hc|hN => rfl))|(apply aD;rfl;rfl;rfl)|(first|(apply a6;rfl;rfl;rfl;(assumption))|(apply bD;rfl;rfl;rfl;(assumption))|(apply bO;(case hj|hb|hN => rfl);all_goals (intro hg;have hq := hg;(try simp only [cF] at hq);(try (exfalso;omega)))))|(apply aR;rfl;rfl;rfl;rfl)|(apply aC;rfl;rfl)|(first|(apply bR;rfl;(assumption);rfl;rfl)|(apply bF;rfl;(assumption);rfl;rfl))|(apply a8;rfl;rfl;rfl)|(apply aF;kernel_rfl)|(apply bV;rfl;(exact (rfl:_=some [_, _]));(exact (rfl:_=[_, _]));rfl)|(apply bW;rfl;rfl;rfl)|(apply aW;rfl;rfl;rfl;rfl;rfl;(decide);(exact (rfl:_=[_, _]))))|(apply aN;first|apply aI|apply aB|(apply bZ;rfl;(rfl))|(apply aO;rfl;all_goals intro hc;have hq:=hc;(try simp only [cF] at hq);try exfalso;omega)|apply aS|apply aQ)|with_reducible apply aA|with_reducible apply bK)
  ·refine cE (Le.frzD (d := 6) (i := 6) rfl rfl) ?_
   exact aP (l := [sl eG m, .agg [iv 0, iv 0], iv 4]) rfl ⟨rfl, by (exact Pur.pf)⟩
  ·exfalso
   have h : ¬ (e6 m j (.own (0 + 1 + 1 + 2) 0 r.length 2))[j]!.next = 1000 := by assumption
   rw [hog] at h
   dsimp only at h
   omega
  ·refine cE (Le.frzD (d := 6) (i := 6) rfl rfl) ?_
   exact aP (l := [sl eG m, .agg [iv 0, iv 0], iv 4]) rfl ⟨rfl, by (exact Pur.pf)⟩
 ·have eM : oT m m j true r = m.set j (psh { m[j]! with stk := r } true) := by unfold oT; rw [if_neg hf]
  have eP : qI m j r = ⟨j, m[j]!.next⟩ := by unfold qI;rw [if_neg hf]
  have eK : oZ m j r = 0 := by unfold oZ;rw [if_neg hf]
  rw [eM] at hok
  rw [eM, eP, eK]
  unfold tA at hf
  have hown := kK _ hok
  repeat' (first|(apply aM;first|(with_reducible apply dE (d := 41))|(with_reducible apply dE (d := 54))|(apply aE;rfl;rfl)|(apply cX;(case hx|hH => rfl);(case hf|hg|hα => infer_instance);(case hk => omega);(case hc|hN => rfl))|(apply aD;rfl;rfl;rfl)|(first|(apply a6;rfl;rfl;rfl;(assumption))|(apply bO;(case hj|hb|hN => rfl);all_goals (intro hg;have hq := hg;(try simp only [cF] at hq);(try (exfalso;omega)))))|(apply aR;rfl;rfl;rfl;rfl)|(apply aC;rfl;rfl)|(apply bF;rfl;(assumption);rfl;rfl)|(apply a8;rfl;rfl;rfl)|(apply aF;kernel_rfl)|(apply bW;rfl;rfl;rfl))|(apply aN;first|apply aI|apply aB|(apply aO;rfl;all_goals intro hc;have hq:=hc;(try simp only [cF] at hq);try exfalso;omega)|apply aS)|with_reducible apply aA)
  ·exfalso
   have h : (e6 m j (.own (0 + 1 + 1 + 2) 0 r.length 2))[j]!.next = 1000 := by assumption
   rw [hog] at h
   dsimp only at h
   omega
  ·refine eR ?_
   rw [hog]
   dsimp only
   repeat' (first|(apply aM;first|(apply aW;rfl;rfl;rfl;rfl;rfl;(rw [aT, eT]; simp only [List.length_append, List.length_cons, List.length_nil]; omega);(first|exact yG hj|exact Dq hj))|(apply aE;rfl;rfl)|(apply aD;rfl;rfl;rfl)|(apply bU;rfl;rfl;omega;rfl)|(apply cH;rfl;rfl;rfl;rfl;rfl;(rw [aT]; omega);(rfl);omega;omega;(exact FU (by (omega)));rfl;rfl)|(apply aF;kernel_rfl)|(apply bV;rfl;(exact (rfl:_=some [_, _]));(exact (rfl:_=[_, _]));rfl)|(apply bW;rfl;rfl;rfl)|((apply bS (t := _));(case hze|hsm|hl => rfl);(case hfl => (exact (rfl:_=some [_, _])));(case hM|hN => rfl)))|(apply aN;(apply aI))|with_reducible apply aA)
   refine AW.le ?_ (Le.cls (o := 3) (q := 0 + 1 + 1 + 3 + 0 + 1) (j := j) (k := r.length + 1) (m := m.set j { m[j]! with next := m[j]!.next + 1 }) (r := r ++ [⟨m[j]!.next, true⟩]) rfl rfl (by (rw [List.length_append]; rfl)) (by omega) (by decide))
   refine AW.le ?_ (Le.frzD (d := 9) (i := 3) rfl rfl)
   have e : (m.set j { m[j]! with next := m[j]!.next + 1 }).set j { (m.set j { m[j]! with next := m[j]!.next + 1 })[j]! with stk := r ++ [⟨m[j]!.next, true⟩] } = m.set j (psh { m[j]! with stk := r } true) := by
    rw [qV hj, set_set]; rfl
   rw [e, nN (f := eG) (xs := m.set j (psh { m[j]! with stk := r } true)) (by rw [List.length_set])]
   repeat' (first|(apply aM;first|(apply iC;rfl;exact hown;rfl;rfl)|(apply aE;rfl;rfl)|(apply aL;rfl;rfl;rfl;rfl)|(apply aD;rfl;rfl;rfl)|(apply aC;rfl;rfl)|(apply aF;kernel_rfl)|(apply bV;rfl;(exact (rfl:_=some [_, _]));(exact (rfl:_=[_, _]));rfl)|(apply aW;rfl;rfl;rfl;rfl;rfl;(case hl => (simp;done));(exact (rfl:_=[_, _]))))|(apply aN;first|(apply b8;kernel_rfl)|apply aQ)|with_reducible apply aA)
   refine cE (Le.frzD (d := 6) (i := 8) rfl rfl) ?_
   exact aP (l := [sl eG (m.set j (psh { m[j]! with stk := r } true)), .agg [iv (j : Int), iv m[j]!.next], iv 0]) rfl ⟨rfl, by (exact Pur.pf)⟩
  all_goals (exfalso;omega)
theorem HN (m : List Cl) (hm : OkM m) (x : Pt) (u : Bool) : PC Tryz.prog 155 [sl eG m, FZ x, bv u] (fun r => r = .tup [sl eG (o7 m x u), FZ (CL m x u), iv (uP m x u)]) := by
 have hml := hm.l
 by_cases hk : dB m x u = 0
 ·obtain ⟨c, t⟩ := x
  obtain ⟨h1, h2, h3, h4, hu⟩ := iV hk
  obtain ⟨j, rfl⟩ := Int.eq_ofNat_of_zero_le (show 0 ≤ c from h1)
  have hj : j < m.length := by have : (j : Int) < m.length := h2;omega
  obtain ⟨k, hkk⟩ := Int.eq_ofNat_of_zero_le (show 0 ≤ dP m[j]!.stk t from h4)
  obtain ⟨r, hr⟩ : ∃ r, r = gW m[j]!.stk k u := ⟨_, rfl⟩
  obtain ⟨e1, e2, e3⟩ := m8 hk (r := r) (by rw [hr]; show _ = gW m[j]!.stk (dP m[j]!.stk t).toNat u;rw [hkk]; rfl)
  rw [e1, e2, e3]
  cases u
  ·exact Io m hm j k t r hj hkk hk hr
  ·exact Ho m hm j k t r hj hkk hk hr
 ·obtain ⟨e1, e2, e3⟩ := Lh hk
  rw [e1, e2, e3]
  (refine aU Tryz.func155 rfl (by simp [Tryz.ntmps155]) ?_; rw [Tryz.ntmps155])
  repeat' (first|(apply aM;first|(apply iC;rfl;exact kK m hm;rfl;rfl)|((apply m5 (m := m) (x := x) (wr := u) (n := m.length));(case ha0|ha1|ha2|hH0 => rfl);(case hmc => exact oI m x u _ hm rfl hk);(case hM|hN => rfl))|(apply aE;rfl;rfl)|(apply aY;rfl;rfl;(exact (rfl:_=[_, _]));rfl;rfl;rfl)|(apply aR;rfl;rfl;rfl;rfl)|(apply aC;rfl;rfl)|(apply aF;kernel_rfl)|(apply bV;rfl;(exact (rfl:_=some [_, _]));(exact (rfl:_=[_, _]));rfl)|(apply b0;rfl;rfl;rfl;rfl)|(apply bE;rfl;rfl)|(apply aW;rfl;rfl;rfl;rfl;rfl;(decide);(exact (rfl:_=[_, _]))))|(apply aN;first|apply aI|apply aB|(apply aO;rfl;all_goals intro hc;have hq:=hc;(try simp only [cF] at hq);try exfalso;omega)|apply aQ)|with_reducible apply aA|with_reducible apply bK)
  refine cE (Le.frzD (d := 6) (i := 3) rfl rfl) ?_
  exact aP (l := [sl eG m, .agg [iv 0, iv 0], iv (dB m x u)]) rfl ⟨rfl, by (exact Pur.pf)⟩
abbrev mO (ts : List Int) (bd : List AL.Stmt) (pts : List Pnt) (i1 i2 : Nat) (s : Mc) : List AV := [aG ts bd pts, .own i1 0 ts.length 4, sl eG s.cells, .own i2 0 s.read.length 1]
theorem Ad {ts : List Int} {bd : List AL.Stmt} {pts : List Pnt} {s : Mc} {v : Nat} {N : Nat} {Q : Exit → AS → Prop} {all : Array Oper} {rest : List Oper} {tsl : List (Nat × AV)} {hsl : List (Nat × Option (List AV))} {nidl : Nat} {z0 : Lo} {md : Md} {d : Nat} {ty : TypeId} {pos : String} {af : Array Edge} {tys : Array TypeId} {x0 x1 : Operand} {i0 i1 i2 : Nat} (ha0 : ev (lk tsl) x0 = some (.optr i0 0)) (ha1 : ev (lk tsl) x1 = some (iv (v : Int))) (hH0 : cJ hsl i0 = some (mO ts bd pts i1 i2 s)) (hH1 : cJ hsl i1 = some (aH fD s.slots)) (hH2 : cJ hsl i2 = some (aH cI s.read)) (hdd : Go.AL.distinct [i0, i1, i2] = true) (hmc : MC Tryz.prog 159 [.optr 0 0, iv (v : Int)] [(0, some (mO ts bd pts 1 2 s)), (1, some (aH fD s.slots)), (2, some (aH cI s.read))] 3 (fun _ : Unit => True) (fun _ => iv (qW (dB s.cells s.slots[v]!.ptr true))) (fun _ => [(0, some ([aG ts bd pts, .own 1 0 ts.length 4, sl eG (jW s.cells s.slots[v]!.ptr), .own 2 0 s.read.length 1])), (1, some (aH fD s.slots)), (2, some (aH cI s.read))])) (hM : Nat.ble (nidl + 0) fG = true) (hN : Nat.blt d N = true) {md' : Md} [hmd : MdA md (hG [x0, x1] ++ [.inr i0, .inr i1, .inr i2]) (List.map Sum.inr (List.map Prod.fst ([(i0, some ([aG ts bd pts, .own i1 0 ts.length 4, sl eG (jW s.cells s.slots[v]!.ptr), .own i2 0 s.read.length 1])), (i1, some (aH fD s.slots)), (i2, some (aH cI s.read))] : List (Nat × Option (List AV)))) ++ [.inl d]) md'] (kk : RW Tryz.prog N all Q md' rest ⟨(d, iv (qW (dB s.cells s.slots[v]!.ptr true))) :: tsl, jF hsl [(i0, some ([aG ts bd pts, .own i1 0 ts.length 4, sl eG (jW s.cells s.slots[v]!.ptr), .own i2 0 s.read.length 1])), (i1, some (aH fD s.slots)), (i2, some (aH cI s.read))], nidl + 0, z0⟩) : RW Tryz.prog N all Q md (⟨some d, .call ⟨.value (.func 159), #[x0, x1], tys⟩, ty, pos, af, none⟩ :: rest) ⟨tsl, hsl, nidl, z0⟩ := by
 refine cM [i0, i1, i2] 3 [(i0, some ([aG ts bd pts, .own i1 0 ts.length 4, sl eG (jW s.cells s.slots[v]!.ptr), .own i2 0 s.read.length 1])), (i1, some (aH fD s.slots)), (i2, some (aH cI s.read))] hmc (avs := [.optr i0 0, iv (v : Int)]) ?_ hdd ?_ rfl ?_ (by simpa using hM) ?_ ?_ ?_ hN (md' := md') (hmd := hmd) kk
 ·show evL (lk tsl) [x0, x1] = _
  simp only [evL, ha0, ha1]
 ·exact ⟨⟨_, _, rfl, hH0, by (repeat' (first|exact RnL.purI inferInstance|exact RnV.purI inferInstance|exact RnV.own rfl|refine RnL.cons ?_ ?_))⟩, ⟨⟨_, _, rfl, hH1, by (repeat' (exact RnL.purI inferInstance))⟩, ⟨⟨_, _, rfl, hH2, by (repeat' (exact RnL.purI inferInstance))⟩, trivial⟩⟩⟩
 ·(repeat' (first|exact RnL.purI inferInstance|exact RnV.optr rfl|refine RnL.cons ?_ ?_))
 ·(repeat' (exact RnV.purI inferInstance))
 ·simp [eA]
 ·(repeat' (first|exact trivial|(refine And.intro ⟨0, _, rfl, rfl, ?_⟩ ?_)|(refine And.intro ⟨1, _, rfl, rfl, ?_⟩ ?_)|(refine And.intro ⟨2, _, rfl, rfl, ?_⟩ ?_)|exact RnL.purI inferInstance|exact RnV.purI inferInstance|exact RnV.own rfl|refine RnL.cons ?_ ?_))
theorem xV (ts : List Int) (bd : List AL.Stmt) (pts : List Pnt) (s : Mc) (v : Nat) (hm : OkM s.cells) (hsl : s.slots.length = ts.length) (hv : v < ts.length) : MC Tryz.prog 159 [.optr 0 0, iv (v : Int)] [(0, some (mO ts bd pts 1 2 s)), (1, some (aH fD s.slots)), (2, some (aH cI s.read))] 3 (fun _ : Unit => True) (fun _ => iv (qW (dB s.cells s.slots[v]!.ptr true))) (fun _ => [(0, some ([aG ts bd pts, .own 1 0 ts.length 4, sl eG (jW s.cells s.slots[v]!.ptr), .own 2 0 s.read.length 1])), (1, some (aH fD s.slots)), (2, some (aH cI s.read))]) := by
 have hfc := zE s.cells hm s.slots[v]!.ptr
 (refine cD Tryz.func159 rfl (by simp [Tryz.ntmps159]) ?_; rw [Tryz.ntmps159])
 repeat' (first|(apply aM;first|(apply jG;(case hx|hH => rfl);(case hf|hg|hα => infer_instance);(case hk => omega);(case hj => decide);(case hc => exact (rfl:_=[_, _]));(case h0|hN => rfl))|((with_reducible apply aJ (k := 191));(case ha => rfl);(case h => exact hfc);(case hp => (exact Pur.pf));(case hN => rfl))|(apply aE;rfl;rfl)|(apply aL;rfl;rfl;rfl;rfl)|(apply aD;rfl;rfl;rfl)|(apply aR;rfl;rfl;rfl;rfl)|(apply aC;rfl;rfl)|(apply cL;rfl;rfl;(assumption);rfl)|((with_reducible apply aJ (k := 156));(case ha => rfl);(case h => (apply rI <;> (fail)));(case hp => (rfl));(case hN => rfl))|(apply aF;kernel_rfl)|(apply bW;rfl;rfl;rfl)|(apply cB;rfl;rfl;rfl)|(apply aW;rfl;rfl;rfl;rfl;rfl;(case hl => (simp;done));(exact (rfl:_=[_, _, _, _]))))|(apply aN;first|apply aI|apply aB|(apply b8;kernel_rfl)|(apply aO;rfl;all_goals intro hc;have hq:=hc;(try simp only [cF] at hq);try exfalso;omega)|apply aS|apply aQ)|with_reducible apply aA|with_reducible apply bK)
 ·have hk : ¬ dB s.cells s.slots[v]!.ptr true = 0 := by assumption
  (refine aP rfl ?_; refine bY () trivial ?_ ⟨.inr (Eq.trans (b := some _) rfl ?_), ⟨.inr (Eq.trans (b := some _) rfl ?_), ⟨.inr (Eq.trans (b := some _) rfl ?_), trivial⟩⟩⟩)
  ·show iv (lM _) = iv (qW _)
   unfold qW;rw [if_neg hk]
  ·rfl
  ·rfl
  ·rfl
 ·have hk : dB s.cells s.slots[v]!.ptr true = 0 := by assumption
  (refine aP rfl ?_; refine bY () trivial ?_ ⟨.inr (Eq.trans (b := some _) rfl ?_), ⟨.inr (Eq.trans (b := some _) rfl ?_), ⟨.inr (Eq.trans (b := some _) rfl ?_), trivial⟩⟩⟩)
  ·rw [hk]; rfl
  ·rfl
  ·rfl
  ·rfl
theorem KQ (ts : List Int) (bd : List AL.Stmt) (pts : List Pnt) (s : Mc) (v : Nat) (y : Sl) (hm : OkM s.cells) (hsl : s.slots.length = ts.length) (hv : v < ts.length) : MC Tryz.prog 152 [.optr 0 0, iv (v : Int), Ml y] [(0, some (mO ts bd pts 1 2 s)), (1, some (aH fD s.slots)), (2, some (aH cI s.read))] 3 (fun _ : Unit => True) (fun _ => iv (dY ts s v y).2) (fun _ => [(0, some (mO ts bd pts 1 2 (dY ts s v y).1)), (1, some (aH fD (dY ts s v y).1.slots)), (2, some (aH cI (dY ts s v y).1.read))]) := by
 have hfr := xV ts bd pts s v hm hsl hv
 (refine cD Tryz.func152 rfl (by simp [Tryz.ntmps152]) ?_; rw [Tryz.ntmps152])
 repeat' (first|(apply aM;first|((apply Ad (ts := ts) (bd := bd) (pts := pts) (s := s) (v := v));(case ha0|ha1|hH0|hH1|hH2|hdd => rfl);(case hmc => exact hfr);(case hM|hN => rfl))|(apply aE;rfl;rfl)|(first|(apply cX;(case hx|hH => rfl);(case hf|hg|hα => infer_instance);(case hk => omega);(case hc|hN => rfl))|(apply aL;rfl;rfl;rfl;rfl)|(apply aY;rfl;rfl;(exact (rfl:_=[_, _, _, _]));rfl;rfl;rfl))|(apply aD;rfl;rfl;rfl)|(first|(apply a6;rfl;rfl;rfl;(assumption))|(apply bD;rfl;rfl;rfl;(assumption))|(apply bO;(case hj|hb|hN => rfl);all_goals (intro hg;have hq := hg;(try simp only [cF] at hq);(try (exfalso;omega)))))|(apply aR;rfl;rfl;rfl;rfl)|(apply aC;rfl;rfl)|(first|(apply bR;rfl;(assumption);rfl;rfl)|(apply bF;rfl;(assumption);rfl;rfl))|(first|(apply a7;(case hx|hi => rfl);(case hm => (assumption));(case hml => (rfl));(case hα | hf|hg => infer_instance);(case hN => rfl))|(apply cL;rfl;rfl;(assumption);rfl))|(apply aF;kernel_rfl)|(apply bW;rfl;rfl;rfl)|(apply b0;rfl;rfl;rfl;rfl)|(apply aW;rfl;rfl;rfl;rfl;rfl;(rw [aT]; simp only [gX] <;> omega);(exact Cq (by (omega)))))|(apply aN;first|apply aI|apply aB|(apply b8;kernel_rfl)|(apply cS;rfl;(rfl))|(apply aO;rfl;all_goals intro hc;have hq:=hc;(try simp only [cF] at hq);try exfalso;omega)|apply aS|apply aQ)|with_reducible apply aA)
 ·have hp : dY ts s v y = (⟨s.slots.set v y, jW s.cells s.slots[v]!.ptr, s.read⟩, qW (dB s.cells s.slots[v]!.ptr true)) := if_pos ⟨by assumption, by assumption⟩
  rw [hp]
  (refine aP rfl ?_; refine bY () trivial ?_ ⟨.inr (Eq.trans (b := some _) rfl ?_), ⟨.inr (Eq.trans (b := some _) rfl ?_), ⟨.inr (Eq.trans (b := some _) rfl ?_), trivial⟩⟩⟩)
  ·rfl
  ·rfl
  ·rfl
  ·rfl
 all_goals (
  have hp : dY ts s v y = (⟨s.slots.set v y, s.cells, s.read⟩, -1) := if_neg (by
   rintro ⟨q1, q2⟩
   first|(exact (by assumption : ¬ ts[v]! = 2) q1)|(rw [(by assumption : s.slots[v]!.set = false)] at q2;exact absurd q2 (by decide)))
  rw [hp]
  (refine aP rfl ?_; refine bY () trivial ?_ ⟨.inr (Eq.trans (b := some _) rfl ?_), ⟨.inr (Eq.trans (b := some _) rfl ?_), ⟨.inr (Eq.trans (b := some _) rfl ?_), trivial⟩⟩⟩)
  ·rfl
  ·rfl
  ·rfl
  ·rfl)
theorem Ip {ts : List Int} {bd : List AL.Stmt} {pts : List Pnt} {s : Mc} {N : Nat} {Q : Exit → AS → Prop} {all : Array Oper} {rest : List Oper} {tsl : List (Nat × AV)} {hsl : List (Nat × Option (List AV))} {nidl : Nat} {z0 : Lo} {md : Md} {d : Nat} {ty : TypeId} {pos : String} {af : Array Edge} {tys : Array TypeId} {x0 : Operand} {i0 i1 i2 : Nat} (ha0 : ev (lk tsl) x0 = some (.optr i0 0)) (hH0 : cJ hsl i0 = some (mO ts bd pts i1 i2 s)) (hH1 : cJ hsl i1 = some (aH fD s.slots)) (hH2 : cJ hsl i2 = some (aH cI s.read)) (hdd : Go.AL.distinct [i0, i1, i2] = true) (hmc : MC Tryz.prog 160 [.optr 0 0] [(0, some (mO ts bd pts 1 2 s)), (1, some (aH fD s.slots)), (2, some (aH cI s.read))] 3 (fun _ : Unit => True) (fun _ => iv (eI ts ts.length 0 s).2) (fun _ => [(0, some (mO ts bd pts 1 2 (eI ts ts.length 0 s).1)), (1, some (aH fD (eI ts ts.length 0 s).1.slots)), (2, some (aH cI (eI ts ts.length 0 s).1.read))])) (hM : Nat.ble (nidl + 0) fG = true) (hN : Nat.blt d N = true) {md' : Md} [hmd : MdA md (hG [x0] ++ [.inr i0, .inr i1, .inr i2]) (List.map Sum.inr (List.map Prod.fst ([(i0, some (mO ts bd pts i1 i2 (eI ts ts.length 0 s).1)), (i1, some (aH fD (eI ts ts.length 0 s).1.slots)), (i2, some (aH cI (eI ts ts.length 0 s).1.read))] : List (Nat × Option (List AV)))) ++ [.inl d]) md'] (kk : RW Tryz.prog N all Q md' rest ⟨(d, iv (eI ts ts.length 0 s).2) :: tsl, jF hsl [(i0, some (mO ts bd pts i1 i2 (eI ts ts.length 0 s).1)), (i1, some (aH fD (eI ts ts.length 0 s).1.slots)), (i2, some (aH cI (eI ts ts.length 0 s).1.read))], nidl + 0, z0⟩) : RW Tryz.prog N all Q md (⟨some d, .call ⟨.value (.func 160), #[x0], tys⟩, ty, pos, af, none⟩ :: rest) ⟨tsl, hsl, nidl, z0⟩ := by
 refine cM [i0, i1, i2] 3 [(i0, some (mO ts bd pts i1 i2 (eI ts ts.length 0 s).1)), (i1, some (aH fD (eI ts ts.length 0 s).1.slots)), (i2, some (aH cI (eI ts ts.length 0 s).1.read))] hmc (avs := [.optr i0 0]) ?_ hdd ?_ rfl ?_ (by simpa using hM) ?_ ?_ ?_ hN (md' := md') (hmd := hmd) kk
 ·show evL (lk tsl) [x0] = _
  simp only [evL, ha0]
 ·exact ⟨⟨_, _, rfl, hH0, by (repeat' (first|exact RnL.purI inferInstance|exact RnV.purI inferInstance|exact RnV.own rfl|refine RnL.cons ?_ ?_))⟩, ⟨⟨_, _, rfl, hH1, by (repeat' (exact RnL.purI inferInstance))⟩, ⟨⟨_, _, rfl, hH2, by (repeat' (exact RnL.purI inferInstance))⟩, trivial⟩⟩⟩
 ·(repeat' (first|exact RnL.purI inferInstance|exact RnV.optr rfl|refine RnL.cons ?_ ?_))
 ·(repeat' (exact RnV.purI inferInstance))
 ·simp [eA]
 ·(repeat' (first|exact trivial|(refine And.intro ⟨0, _, rfl, rfl, ?_⟩ ?_)|(refine And.intro ⟨1, _, rfl, rfl, ?_⟩ ?_)|(refine And.intro ⟨2, _, rfl, rfl, ?_⟩ ?_)|exact RnL.purI inferInstance|exact RnV.purI inferInstance|exact RnV.own rfl|refine RnL.cons ?_ ?_))
theorem JZ (ts : List Int) (bd : List AL.Stmt) (pts : List Pnt) (s : Mc) (hm : OkM s.cells) (hsl : s.slots.length = ts.length) (hl : ts.length ≤ 1000000) : MC Tryz.prog 160 [.optr 0 0] [(0, some (mO ts bd pts 1 2 s)), (1, some (aH fD s.slots)), (2, some (aH cI s.read))] 3 (fun _ : Unit => True) (fun _ => iv (eI ts ts.length 0 s).2) (fun _ => [(0, some (mO ts bd pts 1 2 (eI ts ts.length 0 s).1)), (1, some (aH fD (eI ts ts.length 0 s).1.slots)), (2, some (aH cI (eI ts ts.length 0 s).1.read))]) := by
 (refine cD Tryz.func160 rfl (by simp [Tryz.ntmps160]) ?_; rw [Tryz.ntmps160])
 repeat' (first|(apply aM;first|(apply aE;rfl;rfl)|(apply aL;rfl;rfl;rfl;rfl)|(apply aD;rfl;rfl;rfl)|(apply aC;rfl;rfl)|(apply a8;rfl;rfl;rfl)|(apply aF;kernel_rfl)|(apply bW;rfl;rfl;rfl))|(apply aN;first|apply aI|apply aB|apply aK)|with_reducible apply aA)
 refine bC (σ := Nat × Mc) [0, 13, 14] [(0, _), (13, _), (14, _)] [] [] (fun k => [(15, iv (k.1 : Int))]) (fun k => [(0, some (mO ts bd pts 1 2 k.2)), (1, some (aH fD k.2.slots)), (2, some (aH cI k.2.read))]) (fun k => k.1 ≤ ts.length ∧ eI ts (ts.length - k.1) k.1 k.2 = eI ts ts.length 0 s ∧ OkM k.2.cells ∧ k.2.slots.length = ts.length) (fun k => ts.length - k.1) (0, s) ⟨Nat.zero_le _, rfl, hm, hsl⟩ rfl rfl (by repeat' (first|exact trivial|refine And.intro rfl ?_)) (by repeat' (first|exact trivial|refine And.intro (.inr rfl) ?_)) ?_
 rintro ⟨v, q⟩ ⟨hv, hf, hmq, hlq⟩
 dsimp only at hv hf hmq hlq ⊢
 by_cases hvn : v < ts.length
 ·have hfr := xV ts bd pts q v hmq hlq hvn
  repeat' (first|(apply aM;first|((apply Ad (ts := ts) (bd := bd) (pts := pts) (s := q) (v := v));(case ha0|ha1|hH0|hH1|hH2|hdd => rfl);(case hmc => exact hfr);(case hM|hN => rfl))|(apply aE;rfl;rfl)|(first|(apply cX;(case hx|hH => rfl);(case hf|hg|hα => infer_instance);(case hk => omega);(case hc|hN => rfl))|(apply aL;rfl;rfl;rfl;rfl))|(apply aD;rfl;rfl;rfl)|(first|(apply a6;rfl;rfl;rfl;(assumption))|(apply bD;rfl;rfl;rfl;(assumption))|(apply bO;(case hj|hb|hN => rfl);all_goals (intro hg;have hq := hg;(try simp only [cF] at hq);(try (exfalso;omega)))))|(first|(apply bU;rfl;rfl;omega;rfl)|(apply aR;rfl;rfl;rfl;rfl))|(apply aC;rfl;rfl)|(first|(apply bR;rfl;(assumption);rfl;rfl)|(apply bF;rfl;(assumption);rfl;rfl))|(first|(apply a7;(case hx|hi => rfl);(case hm => (assumption));(case hml => (rfl));(case hα | hf|hg => infer_instance);(case hN => rfl))|(apply cL;rfl;rfl;(assumption);rfl))|(apply aF;kernel_rfl)|(apply bV;rfl;(exact (rfl:_=some [_, _, _, _]));(exact (rfl:_=[_, _, _, _]));rfl)|(apply cC;rfl;rfl)|(apply bW;rfl;rfl;rfl)|(apply aW;rfl;rfl;rfl;rfl;rfl;(rw [aT]; simp only [gX] <;> omega);(exact Cq (by (omega)))))|(apply aN;first|apply aI|apply aB|(apply bZ;rfl;(rfl))|(apply aO;rfl;all_goals intro hc;have hq:=hc;(try simp only [cF] at hq);try exfalso;omega)|apply aK|apply aS|apply bI|apply aQ)|with_reducible apply aA|with_reducible apply bK|with_reducible apply bJ|with_reducible apply aX|with_reducible apply cT|with_reducible apply bH)
  ·(apply dW (v + 1, q); focus (refine Le.ren [] rfl (by decide) ?_ ?_ <;> repeat' (first | exact trivial | refine And.intro ⟨_, rfl, ?_⟩ ?_ | refine And.intro ⟨_, _, rfl, rfl, ?_⟩ ?_ | exact Or.inr rfl | refine Or.inl ⟨?_, (by first | rfl | exact aZ _ _ | exact Pur.pf)⟩ | refine Or.inr (All2.cons ?_ ?_) | refine All2.cons ?_ ?_ | exact All2.nil | rfl)))
   ·refine ⟨by omega, ?_, hmq, hlq⟩
    dsimp only
    rw [← hf, show ts.length - v = (ts.length - (v + 1)) + 1 by omega, Fg (fun h => by
     have h2 : q.slots[v]!.set = false := by assumption
     rw [h2] at h;exact absurd h.2 (by decide))]
   ·dsimp only;omega
  ·have hk : ¬ dB q.cells q.slots[v]!.ptr true = 0 := fun h => by
    have h2 : ¬ qW (dB q.cells q.slots[v]!.ptr true) = -1 := by assumption
    rw [h] at h2;exact h2 rfl
   have hq2 : eI ts ts.length 0 s = (⟨q.slots, jW q.cells q.slots[v]!.ptr, q.read⟩, lM (dB q.cells q.slots[v]!.ptr true)) := by
    rw [← hf, show ts.length - v = (ts.length - (v + 1)) + 1 by omega, JS ⟨by assumption, by assumption⟩ hk]
   rw [hq2]
   (refine aP rfl ?_; refine bY () trivial ?_ ⟨.inr (Eq.trans (b := some _) rfl ?_), ⟨.inr (Eq.trans (b := some _) rfl ?_), ⟨.inr (Eq.trans (b := some _) rfl ?_), trivial⟩⟩⟩)
   ·show iv (qW _) = iv (lM _)
    unfold qW;rw [if_neg hk]
   ·rfl
   ·rfl
   ·rfl
  ·have hk : dB q.cells q.slots[v]!.ptr true = 0 := by
    have h2 : qW (dB q.cells q.slots[v]!.ptr true) = -1 := by assumption
    unfold qW at h2
    by_cases h : dB q.cells q.slots[v]!.ptr true = 0
    ·exact h
    ·rw [if_neg h] at h2;unfold lM at h2;split at h2 <;> cases h2
   have hls : (q.slots.set v jX).length = q.slots.length := List.length_set
   (apply dW (v + 1, ⟨q.slots.set v jX, jW q.cells q.slots[v]!.ptr, q.read⟩);focus (refine Le.ren [] rfl (by decide) ?_ ?_ <;> repeat' (first|exact trivial|refine And.intro ⟨_, rfl, ?_⟩ ?_|refine And.intro ⟨_, _, rfl, rfl, ?_⟩ ?_|exact Or.inr rfl|refine Or.inl ⟨?_, (by first|rfl|exact aZ _ _|exact Pur.pf)⟩|refine Or.inr (All2.cons ?_ ?_)|refine All2.cons ?_ ?_|exact All2.nil|rfl)))
   ·refine ⟨by dsimp only; omega, ?_, hmq.fr _, by show (q.slots.set v jX).length = _; rw [List.length_set]; exact hlq⟩
    dsimp only
    rw [← hf, show ts.length - v = (ts.length - (v + 1)) + 1 by omega, JR ⟨by assumption, by assumption⟩ hk]
   ·dsimp only;omega
  ·(apply dW (v + 1, q); focus (refine Le.ren [] rfl (by decide) ?_ ?_ <;> repeat' (first | exact trivial | refine And.intro ⟨_, rfl, ?_⟩ ?_ | refine And.intro ⟨_, _, rfl, rfl, ?_⟩ ?_ | exact Or.inr rfl | refine Or.inl ⟨?_, (by first | rfl | exact aZ _ _ | exact Pur.pf)⟩ | refine Or.inr (All2.cons ?_ ?_) | refine All2.cons ?_ ?_ | exact All2.nil | rfl)))
   ·refine ⟨by omega, ?_, hmq, hlq⟩
    dsimp only
    rw [← hf, show ts.length - v = (ts.length - (v + 1)) + 1 by omega, Fg (fun h => by
     have h2 : ¬ ts[v]! = 2 := by assumption
     exact h2 h.1)]
   ·dsimp only;omega
 ·have hve : v = ts.length := by omega
  have hq2 : eI ts ts.length 0 s = (q, 0) := by rw [← hf, hve, Nat.sub_self]; rfl
  repeat' (first|(apply aM;first|(apply aR;rfl;rfl;rfl;rfl)|(apply aC;rfl;rfl)|(apply aF;kernel_rfl))|(apply aN;first|apply aI|apply aB|(apply aO;rfl;all_goals intro hc;have hq:=hc;(try simp only [cF] at hq);try exfalso;omega)|apply bI|apply aQ)|with_reducible apply aA|with_reducible apply bJ|with_reducible apply bH)
  rw [hq2]
  (refine aP rfl ?_; refine bY () trivial ?_ ⟨.inr (Eq.trans (b := some _) rfl ?_), ⟨.inr (Eq.trans (b := some _) rfl ?_), ⟨.inr (Eq.trans (b := some _) rfl ?_), trivial⟩⟩⟩)
  ·rfl
  ·rfl
  ·rfl
  ·rfl
def eY (ts : List Int) (s : Mc) (x : Pnt) : Mc × Int := if dH ts s x = true then (s, 2) else dR ts s x
theorem uZ {ts : List Int} {s : Mc} {x : Pnt} (h : dH ts s x = true) : eY ts s x = (s, 2) := if_pos h
theorem qN {ts : List Int} {s : Mc} {x : Pnt} (h : dH ts s x = false) : eY ts s x = dR ts s x := if_neg (by rw [h]; decide)
theorem iE {ts : List Int} {x : Pnt} {v : Int} (h : v ∈ cO (wS ts x [1, 2, 3])) : 0 ≤ v ∧ v < ts.length := by
 obtain ⟨v', h3, h4, rfl⟩ := dQ.1 h
 rw [dN, Bool.and_eq_true, decide_eq_true_eq] at h4
 omega
theorem dT {ts : List Int} {s : Mc} {x : Pnt} (htl : ts.length ≤ 6) : dH ts s x = true ↔ ∃ v ∈ cO (wS ts x [1, 2, 3]), s.slots[v.toNat]!.set = false := by
 constructor
 ·intro h
  obtain ⟨v, hv, hne, hs⟩ := EO h
  refine ⟨(v : Int), dQ.2 ⟨v, by omega, ?_, rfl⟩, hs⟩
  have hb := oW ts x v
  rw [dN, decide_eq_true hv, Bool.true_and, decide_eq_true_eq]
  simp only [List.mem_cons, List.not_mem_nil, or_false]; omega
 ·rintro ⟨v, hv, hs⟩
  obtain ⟨v', h3, h4, rfl⟩ := dQ.1 hv
  rw [dN, Bool.and_eq_true, decide_eq_true_eq, decide_eq_true_eq] at h4
  unfold dH
  refine List.any_eq_true.2 ⟨v', List.mem_range.2 h4.1, ?_⟩
  rw [Bool.and_eq_true, decide_eq_true_eq]
  refine ⟨fun e => ?_, by rw [show s.slots[v']!.set = false from hs]; rfl⟩
  have h5 := h4.2
  simp only [List.mem_cons, List.not_mem_nil, or_false] at h5;omega
theorem Kd {ts : List Int} {bd : List AL.Stmt} {pts : List Pnt} {s : Mc} {x : Pnt} {N : Nat} {Q : Exit → AS → Prop} {all : Array Oper} {rest : List Oper} {tsl : List (Nat × AV)} {hsl : List (Nat × Option (List AV))} {nidl : Nat} {z0 : Lo} {md : Md} {d : Nat} {ty : TypeId} {pos : String} {af : Array Edge} {tys : Array TypeId} {x0 x1 : Operand} {i0 i1 i2 : Nat} (ha0 : ev (lk tsl) x0 = some (.optr i0 0)) (ha1 : ev (lk tsl) x1 = some (iG x)) (hH0 : cJ hsl i0 = some (mO ts bd pts i1 i2 s)) (hH1 : cJ hsl i1 = some (aH fD s.slots)) (hH2 : cJ hsl i2 = some (aH cI s.read)) (hdd : Go.AL.distinct [i0, i1, i2] = true) (hmc : MC Tryz.prog 120 [.optr 0 0, iG x] [(0, some (mO ts bd pts 1 2 s)), (1, some (aH fD s.slots)), (2, some (aH cI s.read))] 3 (fun _ : Unit => True) (fun _ => iv (eY ts s x).2) (fun _ => [(0, some (mO ts bd pts 1 2 (eY ts s x).1)), (1, some (aH fD (eY ts s x).1.slots)), (2, some (aH cI (eY ts s x).1.read))])) (hM : Nat.ble (nidl + 0) fG = true) (hN : Nat.blt d N = true) {md' : Md} [hmd : MdA md (hG [x0, x1] ++ [.inr i0, .inr i1, .inr i2]) (List.map Sum.inr (List.map Prod.fst ([(i0, some (mO ts bd pts i1 i2 (eY ts s x).1)), (i1, some (aH fD (eY ts s x).1.slots)), (i2, some (aH cI (eY ts s x).1.read))] : List (Nat × Option (List AV)))) ++ [.inl d]) md'] (kk : RW Tryz.prog N all Q md' rest ⟨(d, iv (eY ts s x).2) :: tsl, jF hsl [(i0, some (mO ts bd pts i1 i2 (eY ts s x).1)), (i1, some (aH fD (eY ts s x).1.slots)), (i2, some (aH cI (eY ts s x).1.read))], nidl + 0, z0⟩) : RW Tryz.prog N all Q md (⟨some d, .call ⟨.value (.func 120), #[x0, x1], tys⟩, ty, pos, af, none⟩ :: rest) ⟨tsl, hsl, nidl, z0⟩ := by
 refine cM [i0, i1, i2] 3 [(i0, some (mO ts bd pts i1 i2 (eY ts s x).1)), (i1, some (aH fD (eY ts s x).1.slots)), (i2, some (aH cI (eY ts s x).1.read))] hmc (avs := [.optr i0 0, iG x]) ?_ hdd ?_ rfl ?_ (by simpa using hM) ?_ ?_ ?_ hN (md' := md') (hmd := hmd) kk
 ·show evL (lk tsl) [x0, x1] = _
  simp only [evL, ha0, ha1]
 ·exact ⟨⟨_, _, rfl, hH0, by (repeat' (first|exact RnL.purI inferInstance|exact RnV.purI inferInstance|exact RnV.own rfl|refine RnL.cons ?_ ?_))⟩, ⟨⟨_, _, rfl, hH1, by (repeat' (exact RnL.purI inferInstance))⟩, ⟨⟨_, _, rfl, hH2, by (repeat' (exact RnL.purI inferInstance))⟩, trivial⟩⟩⟩
 ·(repeat' (first|exact RnL.purI inferInstance|exact RnV.optr rfl|refine RnL.cons ?_ ?_))
 ·(repeat' (exact RnV.purI inferInstance))
 ·simp [eA]
 ·(repeat' (first|exact trivial|(refine And.intro ⟨0, _, rfl, rfl, ?_⟩ ?_)|(refine And.intro ⟨1, _, rfl, rfl, ?_⟩ ?_)|(refine And.intro ⟨2, _, rfl, rfl, ?_⟩ ?_)|exact RnL.purI inferInstance|exact RnV.purI inferInstance|exact RnV.own rfl|refine RnL.cons ?_ ?_))
theorem kX {ts : List Int} {bd : List AL.Stmt} {pts : List Pnt} {s : Mc} {v : Int} {y : Sl} {N : Nat} {Q : Exit → AS → Prop} {all : Array Oper} {rest : List Oper} {tsl : List (Nat × AV)} {hsl : List (Nat × Option (List AV))} {nidl : Nat} {z0 : Lo} {md : Md} {d : Nat} {ty : TypeId} {pos : String} {af : Array Edge} {tys : Array TypeId} {x0 x1 x2 : Operand} {i0 i1 i2 : Nat} (ha0 : ev (lk tsl) x0 = some (.optr i0 0)) (ha1 : ev (lk tsl) x1 = some (iv v)) (ha2 : ev (lk tsl) x2 = some (Ml y)) (hH0 : cJ hsl i0 = some (mO ts bd pts i1 i2 s)) (hH1 : cJ hsl i1 = some (aH fD s.slots)) (hH2 : cJ hsl i2 = some (aH cI s.read)) (hdd : Go.AL.distinct [i0, i1, i2] = true) (hmc : MC Tryz.prog 152 [.optr 0 0, iv v, Ml y] [(0, some (mO ts bd pts 1 2 s)), (1, some (aH fD s.slots)), (2, some (aH cI s.read))] 3 (fun _ : Unit => True) (fun _ => iv (dY ts s v.toNat y).2) (fun _ => [(0, some (mO ts bd pts 1 2 (dY ts s v.toNat y).1)), (1, some (aH fD (dY ts s v.toNat y).1.slots)), (2, some (aH cI (dY ts s v.toNat y).1.read))])) (hM : Nat.ble (nidl + 0) fG = true) (hN : Nat.blt d N = true) {md' : Md} [hmd : MdA md (hG [x0, x1, x2] ++ [.inr i0, .inr i1, .inr i2]) (List.map Sum.inr (List.map Prod.fst ([(i0, some (mO ts bd pts i1 i2 (dY ts s v.toNat y).1)), (i1, some (aH fD (dY ts s v.toNat y).1.slots)), (i2, some (aH cI (dY ts s v.toNat y).1.read))] : List (Nat × Option (List AV)))) ++ [.inl d]) md'] (kk : RW Tryz.prog N all Q md' rest ⟨(d, iv (dY ts s v.toNat y).2) :: tsl, jF hsl [(i0, some (mO ts bd pts i1 i2 (dY ts s v.toNat y).1)), (i1, some (aH fD (dY ts s v.toNat y).1.slots)), (i2, some (aH cI (dY ts s v.toNat y).1.read))], nidl + 0, z0⟩) : RW Tryz.prog N all Q md (⟨some d, .call ⟨.value (.func 152), #[x0, x1, x2], tys⟩, ty, pos, af, none⟩ :: rest) ⟨tsl, hsl, nidl, z0⟩ := by
 refine cM [i0, i1, i2] 3 [(i0, some (mO ts bd pts i1 i2 (dY ts s v.toNat y).1)), (i1, some (aH fD (dY ts s v.toNat y).1.slots)), (i2, some (aH cI (dY ts s v.toNat y).1.read))] hmc (avs := [.optr i0 0, iv v, Ml y]) ?_ hdd ?_ rfl ?_ (by simpa using hM) ?_ ?_ ?_ hN (md' := md') (hmd := hmd) kk
 ·show evL (lk tsl) [x0, x1, x2] = _
  simp only [evL, ha0, ha1, ha2]
 ·exact ⟨⟨_, _, rfl, hH0, by (repeat' (first|exact RnL.purI inferInstance|exact RnV.purI inferInstance|exact RnV.own rfl|refine RnL.cons ?_ ?_))⟩, ⟨⟨_, _, rfl, hH1, by (repeat' (exact RnL.purI inferInstance))⟩, ⟨⟨_, _, rfl, hH2, by (repeat' (exact RnL.purI inferInstance))⟩, trivial⟩⟩⟩
 ·(repeat' (first|exact RnL.purI inferInstance|exact RnV.optr rfl|refine RnL.cons ?_ ?_))
 ·(repeat' (exact RnV.purI inferInstance))
 ·simp [eA]
 ·(repeat' (first|exact trivial|(refine And.intro ⟨0, _, rfl, rfl, ?_⟩ ?_)|(refine And.intro ⟨1, _, rfl, rfl, ?_⟩ ?_)|(refine And.intro ⟨2, _, rfl, rfl, ?_⟩ ?_)|exact RnL.purI inferInstance|exact RnV.purI inferInstance|exact RnV.own rfl|refine RnL.cons ?_ ?_))
theorem mU (ts : List Int) (bd : List AL.Stmt) (pts : List Pnt) (s : Mc) (v : Int) (y : Sl) (hm : OkM s.cells) (hsl : s.slots.length = ts.length) (hv : 0 ≤ v ∧ v < ts.length) : MC Tryz.prog 152 [.optr 0 0, iv v, Ml y] [(0, some (mO ts bd pts 1 2 s)), (1, some (aH fD s.slots)), (2, some (aH cI s.read))] 3 (fun _ : Unit => True) (fun _ => iv (dY ts s v.toNat y).2) (fun _ => [(0, some (mO ts bd pts 1 2 (dY ts s v.toNat y).1)), (1, some (aH fD (dY ts s v.toNat y).1.slots)), (2, some (aH cI (dY ts s v.toNat y).1.read))]) := by
 have h := KQ ts bd pts s v.toNat y hm hsl (by omega)
 rw [Int.toNat_of_nonneg hv.1] at h
 exact h
theorem EA {ts : List Int} {bd : List AL.Stmt} {pts : List Pnt} {s : Mc} {v : Int} {N : Nat} {Q : Exit → AS → Prop} {all : Array Oper} {rest : List Oper} {tsl : List (Nat × AV)} {hsl : List (Nat × Option (List AV))} {nidl : Nat} {z0 : Lo} {md : Md} {d : Nat} {ty : TypeId} {pos : String} {af : Array Edge} {tys : Array TypeId} {x0 x1 : Operand} {i0 i1 i2 : Nat} (ha0 : ev (lk tsl) x0 = some (.optr i0 0)) (ha1 : ev (lk tsl) x1 = some (iv v)) (hH0 : cJ hsl i0 = some (mO ts bd pts i1 i2 s)) (hH1 : cJ hsl i1 = some (aH fD s.slots)) (hH2 : cJ hsl i2 = some (aH cI s.read)) (hdd : Go.AL.distinct [i0, i1, i2] = true) (hmc : MC Tryz.prog 159 [.optr 0 0, iv v] [(0, some (mO ts bd pts 1 2 s)), (1, some (aH fD s.slots)), (2, some (aH cI s.read))] 3 (fun _ : Unit => True) (fun _ => iv (qW (dB s.cells s.slots[v.toNat]!.ptr true))) (fun _ => [(0, some ([aG ts bd pts, .own 1 0 ts.length 4, sl eG (jW s.cells s.slots[v.toNat]!.ptr), .own 2 0 s.read.length 1])), (1, some (aH fD s.slots)), (2, some (aH cI s.read))])) (hM : Nat.ble (nidl + 0) fG = true) (hN : Nat.blt d N = true) {md' : Md} [hmd : MdA md (hG [x0, x1] ++ [.inr i0, .inr i1, .inr i2]) (List.map Sum.inr (List.map Prod.fst ([(i0, some ([aG ts bd pts, .own i1 0 ts.length 4, sl eG (jW s.cells s.slots[v.toNat]!.ptr), .own i2 0 s.read.length 1])), (i1, some (aH fD s.slots)), (i2, some (aH cI s.read))] : List (Nat × Option (List AV)))) ++ [.inl d]) md'] (kk : RW Tryz.prog N all Q md' rest ⟨(d, iv (qW (dB s.cells s.slots[v.toNat]!.ptr true))) :: tsl, jF hsl [(i0, some ([aG ts bd pts, .own i1 0 ts.length 4, sl eG (jW s.cells s.slots[v.toNat]!.ptr), .own i2 0 s.read.length 1])), (i1, some (aH fD s.slots)), (i2, some (aH cI s.read))], nidl + 0, z0⟩) : RW Tryz.prog N all Q md (⟨some d, .call ⟨.value (.func 159), #[x0, x1], tys⟩, ty, pos, af, none⟩ :: rest) ⟨tsl, hsl, nidl, z0⟩ := by
 refine cM [i0, i1, i2] 3 [(i0, some ([aG ts bd pts, .own i1 0 ts.length 4, sl eG (jW s.cells s.slots[v.toNat]!.ptr), .own i2 0 s.read.length 1])), (i1, some (aH fD s.slots)), (i2, some (aH cI s.read))] hmc (avs := [.optr i0 0, iv v]) ?_ hdd ?_ rfl ?_ (by simpa using hM) ?_ ?_ ?_ hN (md' := md') (hmd := hmd) kk
 ·show evL (lk tsl) [x0, x1] = _
  simp only [evL, ha0, ha1]
 ·exact ⟨⟨_, _, rfl, hH0, by (repeat' (first|exact RnL.purI inferInstance|exact RnV.purI inferInstance|exact RnV.own rfl|refine RnL.cons ?_ ?_))⟩, ⟨⟨_, _, rfl, hH1, by (repeat' (exact RnL.purI inferInstance))⟩, ⟨⟨_, _, rfl, hH2, by (repeat' (exact RnL.purI inferInstance))⟩, trivial⟩⟩⟩
 ·(repeat' (first|exact RnL.purI inferInstance|exact RnV.optr rfl|refine RnL.cons ?_ ?_))
 ·(repeat' (exact RnV.purI inferInstance))
 ·simp [eA]
 ·(repeat' (first|exact trivial|(refine And.intro ⟨0, _, rfl, rfl, ?_⟩ ?_)|(refine And.intro ⟨1, _, rfl, rfl, ?_⟩ ?_)|(refine And.intro ⟨2, _, rfl, rfl, ?_⟩ ?_)|exact RnL.purI inferInstance|exact RnV.purI inferInstance|exact RnV.own rfl|refine RnL.cons ?_ ?_))
theorem FA (ts : List Int) (bd : List AL.Stmt) (pts : List Pnt) (s : Mc) (v : Int) (hm : OkM s.cells) (hsl : s.slots.length = ts.length) (hv : 0 ≤ v ∧ v < ts.length) : MC Tryz.prog 159 [.optr 0 0, iv v] [(0, some (mO ts bd pts 1 2 s)), (1, some (aH fD s.slots)), (2, some (aH cI s.read))] 3 (fun _ : Unit => True) (fun _ => iv (qW (dB s.cells s.slots[v.toNat]!.ptr true))) (fun _ => [(0, some ([aG ts bd pts, .own 1 0 ts.length 4, sl eG (jW s.cells s.slots[v.toNat]!.ptr), .own 2 0 s.read.length 1])), (1, some (aH fD s.slots)), (2, some (aH cI s.read))]) := by
 have h := xV ts bd pts s v.toNat hm hsl (by omega)
 rw [Int.toNat_of_nonneg hv.1] at h
 exact h
theorem L6 (ts : List Int) (bd : List AL.Stmt) (pts : List Pnt) (s : Mc) (x : Pnt) (htl : ts.length ≤ 6) (hm : OkM s.cells) (hsl : s.slots.length = ts.length) (ho : x.op = 1) (hx : 0 ≤ x.x ∧ x.x < ts.length) : MC Tryz.prog 120 [.optr 0 0, iG x] [(0, some (mO ts bd pts 1 2 s)), (1, some (aH fD s.slots)), (2, some (aH cI s.read))] 3 (fun _ : Unit => True) (fun _ => iv (eY ts s x).2) (fun _ => [(0, some (mO ts bd pts 1 2 (eY ts s x).1)), (1, some (aH fD (eY ts s x).1.slots)), (2, some (aH cI (eY ts s x).1.read))]) := by
 have hus := iR ts bd pts x htl
 have hsm : Sm (wS ts x [1, 2, 3]) := dK (by omega)
 obtain ⟨L, hL⟩ : ∃ L, L = cO (wS ts x [1, 2, 3]) := ⟨_, rfl⟩
 have hLl : L.length ≤ 62 := by rw [hL]; exact eC _
 have hmem : ∀ k, k < L.length → 0 ≤ L[k]! ∧ L[k]! < s.slots.length := fun k hk => by
  rw [hsl]; exact iE (by rw [← hL]; exact cA _ _ hk)
 (refine cD Tryz.func120 rfl (by simp [Tryz.ntmps120]) ?_; rw [Tryz.ntmps120])
 repeat' (first|(apply aM;first|((with_reducible apply aJ (k := 151));(case ha => rfl);(case h => exact hus);(case hp => (exact Pur.pf));(case hN => rfl))|(apply aE;rfl;rfl)|(first|(apply aL;rfl;rfl;rfl;rfl)|(apply aY;rfl;rfl;(exact (rfl:_=[_, _, _, _, _]));rfl;rfl;rfl))|(apply aD;rfl;rfl;rfl)|(apply aC;rfl;rfl)|((with_reducible apply aJ (k := 100));(case ha => rfl);(case h => (apply hO <;> (assumption)));(case hp => (rfl));(case hN => rfl))|(apply a8;rfl;rfl;rfl)|(apply aF;kernel_rfl)|(apply bW;rfl;rfl;rfl)|(apply b0;rfl;rfl;rfl;rfl))|(apply aN;first|apply aI|apply aB|(apply b8;kernel_rfl)|apply aK)|with_reducible apply aA)
 rw [← hL]
 refine bC (σ := Nat) [0, 3, 26, 27] [(0, _), (3, _), (26, _), (27, _)] [0, 1, 2, 3] [(0, some _), (1, some _), (2, some _), (3, some _)] (fun k => [(28, iv (k : Int))]) (fun k => []) (fun k => k ≤ L.length ∧ ∀ j, j < k → s.slots[(L[j]!).toNat]!.set = true) (fun k => L.length - k) (0) ⟨Nat.zero_le _, fun j h => absurd h (by omega)⟩ rfl rfl (by repeat' (first|exact trivial|refine And.intro rfl ?_)) (by repeat' (exact trivial)) ?_
 rintro k ⟨hk, hall⟩
 by_cases hkn : k < L.length
 ·have hmk := hmem k hkn
  repeat' (first|(apply aM;first|(apply aE;rfl;rfl)|(first|(apply cX;(case hx|hH => rfl);(case hf|hg|hα => infer_instance);(case hk => omega);(case hc|hN => rfl))|(apply aL;rfl;rfl;rfl;rfl))|(apply aD;rfl;rfl;rfl)|(first|(apply bU;rfl;rfl;omega;rfl)|(apply aR;rfl;rfl;rfl;rfl))|(apply aC;rfl;rfl)|(first|(apply a7;(case hx|hi => rfl);(case hm => (assumption));(case hml => (rfl));(case hα | hf|hg => infer_instance);(case hN => rfl))|(apply cP;rfl;rfl;(omega);rfl))|(apply aF;kernel_rfl)|(apply cC;rfl;rfl)|(apply bW;rfl;rfl;rfl))|(apply aN;first|apply aI|apply aB|(apply aO;rfl;all_goals intro hc;have hq:=hc;(try simp only [cF] at hq);try exfalso;omega)|apply aK|apply aS|apply aQ)|with_reducible apply aA|with_reducible apply bK|with_reducible apply aX|with_reducible apply cT)
  ·have hu : dH ts s x = true := (dT htl).2 ⟨L[k]!, by rw [← hL]; exact cA _ _ hkn, by assumption⟩
   rw [uZ hu]
   (refine aP rfl ?_; refine bY () trivial ?_ ⟨.inr (Eq.trans (b := some _) rfl ?_), ⟨.inr (Eq.trans (b := some _) rfl ?_), ⟨.inr (Eq.trans (b := some _) rfl ?_), trivial⟩⟩⟩)
   ·rfl
   ·rfl
   ·rfl
   ·rfl
  ·(apply dW (k + 1); focus (refine Le.ren [(3, 3)] rfl (by decide) ?_ ?_ <;> repeat' (first | exact trivial | refine And.intro ⟨_, rfl, ?_⟩ ?_ | refine And.intro ⟨_, _, rfl, rfl, ?_⟩ ?_ | exact Or.inr rfl | refine Or.inl ⟨?_, (by first | rfl | exact aZ _ _ | exact Pur.pf)⟩ | refine Or.inr (All2.cons ?_ ?_) | refine All2.cons ?_ ?_ | exact All2.nil | rfl)))
   ·refine ⟨by omega, fun j hj => ?_⟩
    rcases Nat.lt_or_ge j k with h|h
    ·exact hall j h
    ·rw [show j = k by omega]; assumption
   ·omega
 ·have hu : dH ts s x = false := by
   cases q : dH ts s x with
   | false => rfl
   | true =>
    obtain ⟨v, hv, hs⟩ := (dT htl).1 q
    rw [← hL] at hv
    obtain ⟨j, hj, e⟩ := List.getElem_of_mem hv
    have h1 := hall j (by omega)
    rw [cK _ _ hj, e, hs] at h1;cases h1
  rw [qN hu]
  have hd : dR ts s x = dY ts s x.x.toNat ⟨true, x.n, ⟨0, 0⟩⟩ := by unfold dR;rw [if_pos ho]
  rw [hd]
  have hp := mU ts bd pts s x.x ⟨true, x.n, ⟨0, 0⟩⟩ hm hsl hx
  repeat' (first|(apply aM;first|((apply kX (ts := ts) (bd := bd) (pts := pts) (s := s) (v := x.x) (y := ⟨true, x.n, ⟨0, 0⟩⟩));(case ha0|ha1|ha2|hH0|hH1|hH2|hdd => rfl);(case hmc => exact hp);(case hM|hN => rfl))|(apply aE;rfl;rfl)|(apply aL;rfl;rfl;rfl;rfl)|(apply aD;rfl;rfl;rfl)|(apply aR;rfl;rfl;rfl;rfl)|(apply aC;rfl;rfl)|(apply aF;kernel_rfl)|(apply bV;rfl;(exact (rfl:_=some [_, _, _, _]));(exact (rfl:_=[_, _, _, _]));rfl))|(apply aN;first|apply aI|apply aB|(apply aO;rfl;all_goals intro hc;have hq:=hc;(try simp only [cF] at hq);try exfalso;omega)|apply aK|apply bI|apply aQ)|with_reducible apply aA|with_reducible apply bK|with_reducible apply bJ|with_reducible apply cT|with_reducible apply bH)
  (refine aP rfl ?_; refine bY () trivial ?_ ⟨.inr (Eq.trans (b := some _) rfl ?_), ⟨.inr (Eq.trans (b := some _) rfl ?_), ⟨.inr (Eq.trans (b := some _) rfl ?_), trivial⟩⟩⟩)
  ·rfl
  ·rfl
  ·rfl
  ·rfl
theorem L9 (ts : List Int) (bd : List AL.Stmt) (pts : List Pnt) (s : Mc) (x : Pnt) (htl : ts.length ≤ 6) (hm : OkM s.cells) (hsl : s.slots.length = ts.length) (ho : x.op = 2) (hn : 0 ≤ x.n ∧ x.n ≤ 9) (hx : 0 ≤ x.x ∧ x.x < ts.length) : MC Tryz.prog 120 [.optr 0 0, iG x] [(0, some (mO ts bd pts 1 2 s)), (1, some (aH fD s.slots)), (2, some (aH cI s.read))] 3 (fun _ : Unit => True) (fun _ => iv (eY ts s x).2) (fun _ => [(0, some (mO ts bd pts 1 2 (eY ts s x).1)), (1, some (aH fD (eY ts s x).1.slots)), (2, some (aH cI (eY ts s x).1.read))]) := by
 have hus := iR ts bd pts x htl
 have hsm : Sm (wS ts x [1, 2, 3]) := dK (by omega)
 obtain ⟨L, hL⟩ : ∃ L, L = cO (wS ts x [1, 2, 3]) := ⟨_, rfl⟩
 have hLl : L.length ≤ 62 := by rw [hL]; exact eC _
 have hmem : ∀ k, k < L.length → 0 ≤ L[k]! ∧ L[k]! < s.slots.length := fun k hk => by
  rw [hsl]; exact iE (by rw [← hL]; exact cA _ _ hk)
 (refine cD Tryz.func120 rfl (by simp [Tryz.ntmps120]) ?_; rw [Tryz.ntmps120])
 repeat' (first|(apply aM;first|((with_reducible apply aJ (k := 151));(case ha => rfl);(case h => exact hus);(case hp => (exact Pur.pf));(case hN => rfl))|(apply aE;rfl;rfl)|(first|(apply aL;rfl;rfl;rfl;rfl)|(apply aY;rfl;rfl;(exact (rfl:_=[_, _, _, _, _]));rfl;rfl;rfl))|(apply aD;rfl;rfl;rfl)|(apply aC;rfl;rfl)|((with_reducible apply aJ (k := 100));(case ha => rfl);(case h => (apply hO <;> (assumption)));(case hp => (rfl));(case hN => rfl))|(apply a8;rfl;rfl;rfl)|(apply aF;kernel_rfl)|(apply bW;rfl;rfl;rfl)|(apply b0;rfl;rfl;rfl;rfl))|(apply aN;first|apply aI|apply aB|(apply b8;kernel_rfl)|apply aK)|with_reducible apply aA)
 rw [← hL]
 refine bC (σ := Nat) [0, 3, 26, 27] [(0, _), (3, _), (26, _), (27, _)] [0, 1, 2, 3] [(0, some _), (1, some _), (2, some _), (3, some _)] (fun k => [(28, iv (k : Int))]) (fun k => []) (fun k => k ≤ L.length ∧ ∀ j, j < k → s.slots[(L[j]!).toNat]!.set = true) (fun k => L.length - k) (0) ⟨Nat.zero_le _, fun j h => absurd h (by omega)⟩ rfl rfl (by repeat' (first|exact trivial|refine And.intro rfl ?_)) (by repeat' (exact trivial)) ?_
 rintro k ⟨hk, hall⟩
 by_cases hkn : k < L.length
 ·have hmk := hmem k hkn
  repeat' (first|(apply aM;first|(apply aE;rfl;rfl)|(first|(apply cX;(case hx|hH => rfl);(case hf|hg|hα => infer_instance);(case hk => omega);(case hc|hN => rfl))|(apply aL;rfl;rfl;rfl;rfl))|(apply aD;rfl;rfl;rfl)|(first|(apply bU;rfl;rfl;omega;rfl)|(apply aR;rfl;rfl;rfl;rfl))|(apply aC;rfl;rfl)|(first|(apply a7;(case hx|hi => rfl);(case hm => (assumption));(case hml => (rfl));(case hα | hf|hg => infer_instance);(case hN => rfl))|(apply cP;rfl;rfl;(omega);rfl))|(apply aF;kernel_rfl)|(apply cC;rfl;rfl)|(apply bW;rfl;rfl;rfl))|(apply aN;first|apply aI|apply aB|(apply aO;rfl;all_goals intro hc;have hq:=hc;(try simp only [cF] at hq);try exfalso;omega)|apply aK|apply aS|apply aQ)|with_reducible apply aA|with_reducible apply bK|with_reducible apply aX|with_reducible apply cT)
  ·have hu : dH ts s x = true := (dT htl).2 ⟨L[k]!, by rw [← hL]; exact cA _ _ hkn, by assumption⟩
   rw [uZ hu]
   (refine aP rfl ?_; refine bY () trivial ?_ ⟨.inr (Eq.trans (b := some _) rfl ?_), ⟨.inr (Eq.trans (b := some _) rfl ?_), ⟨.inr (Eq.trans (b := some _) rfl ?_), trivial⟩⟩⟩)
   ·rfl
   ·rfl
   ·rfl
   ·rfl
  ·(apply dW (k + 1); focus (refine Le.ren [(3, 3)] rfl (by decide) ?_ ?_ <;> repeat' (first | exact trivial | refine And.intro ⟨_, rfl, ?_⟩ ?_ | refine And.intro ⟨_, _, rfl, rfl, ?_⟩ ?_ | exact Or.inr rfl | refine Or.inl ⟨?_, (by first | rfl | exact aZ _ _ | exact Pur.pf)⟩ | refine Or.inr (All2.cons ?_ ?_) | refine All2.cons ?_ ?_ | exact All2.nil | rfl)))
   ·refine ⟨by omega, fun j hj => ?_⟩
    rcases Nat.lt_or_ge j k with h|h
    ·exact hall j h
    ·rw [show j = k by omega]; assumption
   ·omega
 ·have hu : dH ts s x = false := by
   cases q : dH ts s x with
   | false => rfl
   | true =>
    obtain ⟨v, hv, hs⟩ := (dT htl).1 q
    rw [← hL] at hv
    obtain ⟨j, hj, e⟩ := List.getElem_of_mem hv
    have h1 := hall j (by omega)
    rw [cK _ _ hj, e, hs] at h1;cases h1
  rw [qN hu]
  have hml := hm.l
  have hnc := BZ s.cells hm x.n
  by_cases h2 : s.cells.length = 200
  ·rw [if_neg (by omega)] at hnc
   have hd : dR ts s x = (s, 1) := by unfold dR;rw [if_neg (show ¬ x.op = 1 by omega), if_pos ho, if_pos h2]
   rw [hd]
   repeat' (first|(apply aM;first|((with_reducible apply aJ (k := 153));(case ha => rfl);(case h => exact hnc);(case hp => (exact Pur.pf));(case hN => rfl))|(apply aE;rfl;rfl)|(apply aL;rfl;rfl;rfl;rfl)|(apply aD;rfl;rfl;rfl)|(apply aR;rfl;rfl;rfl;rfl)|(apply aC;rfl;rfl)|(apply aF;kernel_rfl)|(apply cC;rfl;rfl)|(apply bW;rfl;rfl;rfl)|(apply bE;rfl;rfl)|(apply cB;rfl;rfl;rfl)|(apply aW;rfl;rfl;rfl;rfl;rfl;(decide);(exact (rfl:_=[_, _]))))|(apply aN;first|apply aI|apply aB|(apply b8;kernel_rfl)|(apply bZ;rfl;(rfl))|(apply aO;rfl;all_goals intro hc;have hq:=hc;(try simp only [cF] at hq);try exfalso;omega)|apply aK|apply bI|apply aQ)|with_reducible apply aA|with_reducible apply bK|with_reducible apply bJ|with_reducible apply cT|with_reducible apply bH)
   (refine aP rfl ?_; refine bY () trivial ?_ ⟨.inr (Eq.trans (b := some _) rfl ?_), ⟨.inr (Eq.trans (b := some _) rfl ?_), ⟨.inr (Eq.trans (b := some _) rfl ?_), trivial⟩⟩⟩)
   ·rfl
   ·rfl
   ·rfl
   ·rfl
  ·rw [if_pos (by omega)] at hnc
   have hp := mU ts bd pts ⟨s.slots, s.cells ++ [tZ x.n], s.read⟩ x.x ⟨true, 0, ⟨s.cells.length, 0⟩⟩ (hm.nw hn (by omega)) hsl hx
   have hd : dR ts s x = dY ts ⟨s.slots, s.cells ++ [tZ x.n], s.read⟩ x.x.toNat ⟨true, 0, ⟨s.cells.length, 0⟩⟩ := by unfold dR;rw [if_neg (show ¬ x.op = 1 by omega), if_pos ho, if_neg h2]
   rw [hd]
   repeat' (first|(apply aM;first|((with_reducible apply aJ (k := 153));(case ha => rfl);(case h => exact hnc);(case hp => (exact Pur.pf));(case hN => rfl))|((apply kX (ts := ts) (bd := bd) (pts := pts) (s := ⟨s.slots, s.cells ++ [tZ x.n], s.read⟩) (v := x.x) (y := ⟨true, 0, ⟨s.cells.length, 0⟩⟩));(case ha0|ha1|ha2|hH0|hH1|hH2|hdd => rfl);(case hmc => exact hp);(case hM|hN => rfl))|(apply aE;rfl;rfl)|(first|(apply aL;rfl;rfl;rfl;rfl)|(apply aY;rfl;rfl;(exact (rfl:_=[_, _]));rfl;rfl;rfl))|(apply aD;rfl;rfl;rfl)|(apply aR;rfl;rfl;rfl;rfl)|(apply aC;rfl;rfl)|(apply aF;kernel_rfl)|(apply bV;rfl;(exact (rfl:_=some [_, _, _, _]));(exact (rfl:_=[_, _, _, _]));rfl)|(apply cC;rfl;rfl)|(apply bW;rfl;rfl;rfl)|(apply bE;rfl;rfl)|(apply cB;rfl;rfl;rfl)|(apply aW;rfl;rfl;rfl;rfl;rfl;(case hl => (simp;done));(first|exact (rfl:_=[_, _])|exact (rfl:_=[_, _, _, _]))))|(apply aN;first|apply aI|apply aB|(apply b8;kernel_rfl)|(apply cS;rfl;(rfl))|(apply aO;rfl;all_goals intro hc;have hq:=hc;(try simp only [cF] at hq);try exfalso;omega)|apply aK|apply aS|apply bI|apply aQ)|with_reducible apply aA|with_reducible apply bK|with_reducible apply bJ|with_reducible apply cT|with_reducible apply bH)
   (refine aP rfl ?_; refine bY () trivial ?_ ⟨.inr (Eq.trans (b := some _) rfl ?_), ⟨.inr (Eq.trans (b := some _) rfl ?_), ⟨.inr (Eq.trans (b := some _) rfl ?_), trivial⟩⟩⟩)
   ·rfl
   ·rfl
   ·rfl
   ·rfl
theorem LV (ts : List Int) (bd : List AL.Stmt) (pts : List Pnt) (s : Mc) (x : Pnt) (htl : ts.length ≤ 6) (hm : OkM s.cells) (hsl : s.slots.length = ts.length) (ho : x.op = 3) (hx : 0 ≤ x.x ∧ x.x < ts.length) (hy : 0 ≤ x.y ∧ x.y < ts.length) : MC Tryz.prog 120 [.optr 0 0, iG x] [(0, some (mO ts bd pts 1 2 s)), (1, some (aH fD s.slots)), (2, some (aH cI s.read))] 3 (fun _ : Unit => True) (fun _ => iv (eY ts s x).2) (fun _ => [(0, some (mO ts bd pts 1 2 (eY ts s x).1)), (1, some (aH fD (eY ts s x).1.slots)), (2, some (aH cI (eY ts s x).1.read))]) := by
 have hus := iR ts bd pts x htl
 have hsm : Sm (wS ts x [1, 2, 3]) := dK (by omega)
 obtain ⟨L, hL⟩ : ∃ L, L = cO (wS ts x [1, 2, 3]) := ⟨_, rfl⟩
 have hLl : L.length ≤ 62 := by rw [hL]; exact eC _
 have hmem : ∀ k, k < L.length → 0 ≤ L[k]! ∧ L[k]! < s.slots.length := fun k hk => by
  rw [hsl]; exact iE (by rw [← hL]; exact cA _ _ hk)
 (refine cD Tryz.func120 rfl (by simp [Tryz.ntmps120]) ?_; rw [Tryz.ntmps120])
 repeat' (first|(apply aM;first|((with_reducible apply aJ (k := 151));(case ha => rfl);(case h => exact hus);(case hp => (exact Pur.pf));(case hN => rfl))|(apply aE;rfl;rfl)|(first|(apply aL;rfl;rfl;rfl;rfl)|(apply aY;rfl;rfl;(exact (rfl:_=[_, _, _, _, _]));rfl;rfl;rfl))|(apply aD;rfl;rfl;rfl)|(apply aC;rfl;rfl)|((with_reducible apply aJ (k := 100));(case ha => rfl);(case h => (apply hO <;> (assumption)));(case hp => (rfl));(case hN => rfl))|(apply a8;rfl;rfl;rfl)|(apply aF;kernel_rfl)|(apply bW;rfl;rfl;rfl)|(apply b0;rfl;rfl;rfl;rfl))|(apply aN;first|apply aI|apply aB|(apply b8;kernel_rfl)|apply aK)|with_reducible apply aA)
 rw [← hL]
 refine bC (σ := Nat) [0, 3, 26, 27] [(0, _), (3, _), (26, _), (27, _)] [0, 1, 2, 3] [(0, some _), (1, some _), (2, some _), (3, some _)] (fun k => [(28, iv (k : Int))]) (fun k => []) (fun k => k ≤ L.length ∧ ∀ j, j < k → s.slots[(L[j]!).toNat]!.set = true) (fun k => L.length - k) (0) ⟨Nat.zero_le _, fun j h => absurd h (by omega)⟩ rfl rfl (by repeat' (first|exact trivial|refine And.intro rfl ?_)) (by repeat' (exact trivial)) ?_
 rintro k ⟨hk, hall⟩
 by_cases hkn : k < L.length
 ·have hmk := hmem k hkn
  repeat' (first|(apply aM;first|(apply aE;rfl;rfl)|(first|(apply cX;(case hx|hH => rfl);(case hf|hg|hα => infer_instance);(case hk => omega);(case hc|hN => rfl))|(apply aL;rfl;rfl;rfl;rfl))|(apply aD;rfl;rfl;rfl)|(first|(apply bU;rfl;rfl;omega;rfl)|(apply aR;rfl;rfl;rfl;rfl))|(apply aC;rfl;rfl)|(first|(apply a7;(case hx|hi => rfl);(case hm => (assumption));(case hml => (rfl));(case hα | hf|hg => infer_instance);(case hN => rfl))|(apply cP;rfl;rfl;(omega);rfl))|(apply aF;kernel_rfl)|(apply cC;rfl;rfl)|(apply bW;rfl;rfl;rfl))|(apply aN;first|apply aI|apply aB|(apply aO;rfl;all_goals intro hc;have hq:=hc;(try simp only [cF] at hq);try exfalso;omega)|apply aK|apply aS|apply aQ)|with_reducible apply aA|with_reducible apply bK|with_reducible apply aX|with_reducible apply cT)
  ·have hu : dH ts s x = true := (dT htl).2 ⟨L[k]!, by rw [← hL]; exact cA _ _ hkn, by assumption⟩
   rw [uZ hu]
   (refine aP rfl ?_; refine bY () trivial ?_ ⟨.inr (Eq.trans (b := some _) rfl ?_), ⟨.inr (Eq.trans (b := some _) rfl ?_), ⟨.inr (Eq.trans (b := some _) rfl ?_), trivial⟩⟩⟩)
   ·rfl
   ·rfl
   ·rfl
   ·rfl
  ·(apply dW (k + 1); focus (refine Le.ren [(3, 3)] rfl (by decide) ?_ ?_ <;> repeat' (first | exact trivial | refine And.intro ⟨_, rfl, ?_⟩ ?_ | refine And.intro ⟨_, _, rfl, rfl, ?_⟩ ?_ | exact Or.inr rfl | refine Or.inl ⟨?_, (by first | rfl | exact aZ _ _ | exact Pur.pf)⟩ | refine Or.inr (All2.cons ?_ ?_) | refine All2.cons ?_ ?_ | exact All2.nil | rfl)))
   ·refine ⟨by omega, fun j hj => ?_⟩
    rcases Nat.lt_or_ge j k with h|h
    ·exact hall j h
    ·rw [show j = k by omega]; assumption
   ·omega
 ·have hu : dH ts s x = false := by
   cases q : dH ts s x with
   | false => rfl
   | true =>
    obtain ⟨v, hv, hs⟩ := (dT htl).1 q
    rw [← hL] at hv
    obtain ⟨j, hj, e⟩ := List.getElem_of_mem hv
    have h1 := hall j (by omega)
    rw [cK _ _ hj, e, hs] at h1;cases h1
  rw [qN hu]
  have hd : dR ts s x = dY ts (if D0 ts[x.y.toNat]! = true then ⟨s.slots.set x.y.toNat jX, s.cells, s.read⟩ else s) x.x.toNat s.slots[x.y.toNat]! := by unfold dR;rw [if_neg (show ¬ x.op = 1 by omega), if_neg (show ¬ x.op = 2 by omega), if_pos ho]
  rw [hd]
  have htk := x7 ts bd pts x.y hy
  by_cases hk : D0 ts[x.y.toNat]! = true
  ·rw [hk] at htk
   rw [if_pos hk]
   have hp := mU ts bd pts ⟨s.slots.set x.y.toNat jX, s.cells, s.read⟩ x.x s.slots[x.y.toNat]! hm (by show (s.slots.set _ _).length = _; rw [List.length_set]; exact hsl) hx
   repeat' (first|(apply aM;first|((with_reducible apply aJ (k := 154));(case ha => rfl);(case h => exact htk);(case hp => (exact Pur.pf));(case hN => rfl))|((apply kX (ts := ts) (bd := bd) (pts := pts) (s := ⟨s.slots.set x.y.toNat jX, s.cells, s.read⟩) (v := x.x) (y := s.slots[x.y.toNat]!));(case ha0|ha1|ha2|hH0|hH1|hH2|hdd => rfl);(case hmc => exact hp);(case hM|hN => rfl))|(apply aE;rfl;rfl)|(first|(apply fZ;(case hx|hH => rfl);(case hf|hg|hα => infer_instance);(case hk => omega);(case h0|hN => rfl))|(apply aL;rfl;rfl;rfl;rfl)|(apply aY;rfl;rfl;(exact (rfl:_=[_, _, _, _]));rfl;rfl;rfl))|(apply aD;rfl;rfl;rfl)|(apply aR;rfl;rfl;rfl;rfl)|(apply aC;rfl;rfl)|(apply cP;rfl;rfl;(assumption);rfl)|(apply aF;kernel_rfl)|(apply bV;rfl;(exact (rfl:_=some [_, _, _, _]));(exact (rfl:_=[_, _, _, _]));rfl)|(apply bW;rfl;rfl;rfl)|(apply bE;rfl;rfl)|(apply aW;rfl;rfl;rfl;rfl;rfl;(case hl => (first|(rw [aT]; simp only [gX] <;> omega)|(simp;done)));(first|exact Cq (by (omega))|exact (rfl:_=[_, _, _, _]))))|(apply aN;first|apply aI|apply aB|(apply b8;kernel_rfl)|(apply bZ;rfl;(rfl))|(apply aO;rfl;all_goals intro hc;have hq:=hc;(try simp only [cF] at hq);try exfalso;omega)|apply aK|apply bI|apply aQ)|with_reducible apply aA|with_reducible apply bK|with_reducible apply bJ|with_reducible apply cT|with_reducible apply bH)
   (refine aP rfl ?_; refine bY () trivial ?_ ⟨.inr (Eq.trans (b := some _) rfl ?_), ⟨.inr (Eq.trans (b := some _) rfl ?_), ⟨.inr (Eq.trans (b := some _) rfl ?_), trivial⟩⟩⟩)
   ·rfl
   ·rfl
   ·rfl
   ·rfl
  ·have hk2 : D0 ts[x.y.toNat]! = false := by simpa using hk
   rw [hk2] at htk
   rw [if_neg hk]
   have hp := mU ts bd pts s x.x s.slots[x.y.toNat]! hm hsl hx
   repeat' (first|(apply aM;first|((with_reducible apply aJ (k := 154));(case ha => rfl);(case h => exact htk);(case hp => (exact Pur.pf));(case hN => rfl))|((apply kX (ts := ts) (bd := bd) (pts := pts) (s := s) (v := x.x) (y := s.slots[x.y.toNat]!));(case ha0|ha1|ha2|hH0|hH1|hH2|hdd => rfl);(case hmc => exact hp);(case hM|hN => rfl))|(apply aE;rfl;rfl)|(first|(apply fZ;(case hx|hH => rfl);(case hf|hg|hα => infer_instance);(case hk => omega);(case h0|hN => rfl))|(apply aL;rfl;rfl;rfl;rfl)|(apply aY;rfl;rfl;(exact (rfl:_=[_, _, _, _]));rfl;rfl;rfl))|(apply aD;rfl;rfl;rfl)|(apply aR;rfl;rfl;rfl;rfl)|(apply aC;rfl;rfl)|(apply cP;rfl;rfl;(assumption);rfl)|(apply aF;kernel_rfl)|(apply bW;rfl;rfl;rfl)|(apply bE;rfl;rfl)|(apply aW;rfl;rfl;rfl;rfl;rfl;(case hl => (simp;done));(exact (rfl:_=[_, _, _, _]))))|(apply aN;first|apply aI|apply aB|(apply b8;kernel_rfl)|(apply cS;rfl;(rfl))|(apply aO;rfl;all_goals intro hc;have hq:=hc;(try simp only [cF] at hq);try exfalso;omega)|apply aK|apply aS|apply bI|apply aQ)|with_reducible apply aA|with_reducible apply bK|with_reducible apply bJ|with_reducible apply cT|with_reducible apply bH)
   (refine aP rfl ?_; refine bY () trivial ?_ ⟨.inr (Eq.trans (b := some _) rfl ?_), ⟨.inr (Eq.trans (b := some _) rfl ?_), ⟨.inr (Eq.trans (b := some _) rfl ?_), trivial⟩⟩⟩)
   ·rfl
   ·rfl
   ·rfl
   ·rfl
theorem JM (ts : List Int) (bd : List AL.Stmt) (pts : List Pnt) (s : Mc) (x : Pnt) (htl : ts.length ≤ 6) (hm : OkM s.cells) (hsl : s.slots.length = ts.length) (ho : x.op = 4 ∨ x.op = 5) (hx : 0 ≤ x.x ∧ x.x < ts.length) (hy : 0 ≤ x.y ∧ x.y < ts.length) : MC Tryz.prog 120 [.optr 0 0, iG x] [(0, some (mO ts bd pts 1 2 s)), (1, some (aH fD s.slots)), (2, some (aH cI s.read))] 3 (fun _ : Unit => True) (fun _ => iv (eY ts s x).2) (fun _ => [(0, some (mO ts bd pts 1 2 (eY ts s x).1)), (1, some (aH fD (eY ts s x).1.slots)), (2, some (aH cI (eY ts s x).1.read))]) := by
 have hus := iR ts bd pts x htl
 have hsm : Sm (wS ts x [1, 2, 3]) := dK (by omega)
 obtain ⟨L, hL⟩ : ∃ L, L = cO (wS ts x [1, 2, 3]) := ⟨_, rfl⟩
 have hLl : L.length ≤ 62 := by rw [hL]; exact eC _
 have hmem : ∀ k, k < L.length → 0 ≤ L[k]! ∧ L[k]! < s.slots.length := fun k hk => by
  rw [hsl]; exact iE (by rw [← hL]; exact cA _ _ hk)
 (refine cD Tryz.func120 rfl (by simp [Tryz.ntmps120]) ?_; rw [Tryz.ntmps120])
 repeat' (first|(apply aM;first|((with_reducible apply aJ (k := 151));(case ha => rfl);(case h => exact hus);(case hp => (exact Pur.pf));(case hN => rfl))|(apply aE;rfl;rfl)|(first|(apply aL;rfl;rfl;rfl;rfl)|(apply aY;rfl;rfl;(exact (rfl:_=[_, _, _, _, _]));rfl;rfl;rfl))|(apply aD;rfl;rfl;rfl)|(apply aC;rfl;rfl)|((with_reducible apply aJ (k := 100));(case ha => rfl);(case h => (apply hO <;> (assumption)));(case hp => (rfl));(case hN => rfl))|(apply a8;rfl;rfl;rfl)|(apply aF;kernel_rfl)|(apply bW;rfl;rfl;rfl)|(apply b0;rfl;rfl;rfl;rfl))|(apply aN;first|apply aI|apply aB|(apply b8;kernel_rfl)|apply aK)|with_reducible apply aA)
 rw [← hL]
 refine bC (σ := Nat) [0, 3, 26, 27] [(0, _), (3, _), (26, _), (27, _)] [0, 1, 2, 3] [(0, some _), (1, some _), (2, some _), (3, some _)] (fun k => [(28, iv (k : Int))]) (fun k => []) (fun k => k ≤ L.length ∧ ∀ j, j < k → s.slots[(L[j]!).toNat]!.set = true) (fun k => L.length - k) (0) ⟨Nat.zero_le _, fun j h => absurd h (by omega)⟩ rfl rfl (by repeat' (first|exact trivial|refine And.intro rfl ?_)) (by repeat' (exact trivial)) ?_
 rintro k ⟨hk, hall⟩
 by_cases hkn : k < L.length
 ·have hmk := hmem k hkn
  repeat' (first|(apply aM;first|(apply aE;rfl;rfl)|(first|(apply cX;(case hx|hH => rfl);(case hf|hg|hα => infer_instance);(case hk => omega);(case hc|hN => rfl))|(apply aL;rfl;rfl;rfl;rfl))|(apply aD;rfl;rfl;rfl)|(first|(apply bU;rfl;rfl;omega;rfl)|(apply aR;rfl;rfl;rfl;rfl))|(apply aC;rfl;rfl)|(first|(apply a7;(case hx|hi => rfl);(case hm => (assumption));(case hml => (rfl));(case hα | hf|hg => infer_instance);(case hN => rfl))|(apply cP;rfl;rfl;(omega);rfl))|(apply aF;kernel_rfl)|(apply cC;rfl;rfl)|(apply bW;rfl;rfl;rfl))|(apply aN;first|apply aI|apply aB|(apply aO;rfl;all_goals intro hc;have hq:=hc;(try simp only [cF] at hq);try exfalso;omega)|apply aK|apply aS|apply aQ)|with_reducible apply aA|with_reducible apply bK|with_reducible apply aX|with_reducible apply cT)
  ·have hu : dH ts s x = true := (dT htl).2 ⟨L[k]!, by rw [← hL]; exact cA _ _ hkn, by assumption⟩
   rw [uZ hu]
   (refine aP rfl ?_; refine bY () trivial ?_ ⟨.inr (Eq.trans (b := some _) rfl ?_), ⟨.inr (Eq.trans (b := some _) rfl ?_), ⟨.inr (Eq.trans (b := some _) rfl ?_), trivial⟩⟩⟩)
   ·rfl
   ·rfl
   ·rfl
   ·rfl
  ·(apply dW (k + 1); focus (refine Le.ren [(3, 3)] rfl (by decide) ?_ ?_ <;> repeat' (first | exact trivial | refine And.intro ⟨_, rfl, ?_⟩ ?_ | refine And.intro ⟨_, _, rfl, rfl, ?_⟩ ?_ | exact Or.inr rfl | refine Or.inl ⟨?_, (by first | rfl | exact aZ _ _ | exact Pur.pf)⟩ | refine Or.inr (All2.cons ?_ ?_) | refine All2.cons ?_ ?_ | exact All2.nil | rfl)))
   ·refine ⟨by omega, fun j hj => ?_⟩
    rcases Nat.lt_or_ge j k with h|h
    ·exact hall j h
    ·rw [show j = k by omega]; assumption
   ·omega
 ·have hu : dH ts s x = false := by
   cases q : dH ts s x with
   | false => rfl
   | true =>
    obtain ⟨v, hv, hs⟩ := (dT htl).1 q
    rw [← hL] at hv
    obtain ⟨j, hj, e⟩ := List.getElem_of_mem hv
    have h1 := hall j (by omega)
    rw [cK _ _ hj, e, hs] at h1;cases h1
  rw [qN hu]
  have hle := HN s.cells hm s.slots[x.y.toNat]!.ptr (decide (x.op = 5))
  by_cases hk : uP s.cells s.slots[x.y.toNat]!.ptr (decide (x.op = 5)) = 0
  ·have hp := mU ts bd pts ⟨s.slots, o7 s.cells s.slots[x.y.toNat]!.ptr (decide (x.op = 5)), s.read⟩ x.x ⟨true, 0, CL s.cells s.slots[x.y.toNat]!.ptr (decide (x.op = 5))⟩ (hm.ln _ _) hsl hx
   have hd : dR ts s x = dY ts ⟨s.slots, o7 s.cells s.slots[x.y.toNat]!.ptr (decide (x.op = 5)), s.read⟩ x.x.toNat ⟨true, 0, CL s.cells s.slots[x.y.toNat]!.ptr (decide (x.op = 5))⟩ := by unfold dR;rw [if_neg (show ¬ x.op = 1 by omega), if_neg (show ¬ x.op = 2 by omega), if_neg (show ¬ x.op = 3 by omega), if_pos ho, if_pos hk]
   rw [hd]
   rw [hk] at hle
   repeat' (first|(apply aM;first|(apply jG;(case hx|hH => rfl);(case hf|hg|hα => infer_instance);(case hk => omega);(case hj => decide);(case hc => exact (rfl:_=[_, _]));(case h0|hN => rfl))|((with_reducible apply aJ (k := 155));(case ha => rfl);(case h => exact hle);(case hp => (exact Pur.pf));(case hN => rfl))|((apply kX (ts := ts) (bd := bd) (pts := pts) (s := ⟨s.slots, o7 s.cells s.slots[x.y.toNat]!.ptr (decide (x.op = 5)), s.read⟩) (v := x.x) (y := ⟨true, 0, CL s.cells s.slots[x.y.toNat]!.ptr (decide (x.op = 5))⟩));(case ha0|ha1|ha2|hH0|hH1|hH2|hdd => rfl);(case hmc => exact hp);(case hM|hN => rfl))|(apply aE;rfl;rfl)|(first|(apply aL;rfl;rfl;rfl;rfl)|(apply aY;rfl;rfl;(exact (rfl:_=[_, _]));rfl;rfl;rfl))|(apply aD;rfl;rfl;rfl)|(apply aR;rfl;rfl;rfl;rfl)|(apply aC;rfl;rfl)|(apply cP;rfl;rfl;(assumption);rfl)|(apply aF;kernel_rfl)|(apply bV;rfl;(exact (rfl:_=some [_, _, _, _]));(exact (rfl:_=[_, _, _, _]));rfl)|(apply bW;rfl;rfl;rfl)|(apply bE;rfl;rfl)|(apply cB;rfl;rfl;rfl)|(apply aW;rfl;rfl;rfl;rfl;rfl;(case hl => (simp;done));(first|exact (rfl:_=[_, _])|exact (rfl:_=[_, _, _, _]))))|(apply aN;first|apply aI|apply aB|(apply b8;kernel_rfl)|(apply bZ;rfl;(assumption))|(apply cS;rfl;(rfl))|(apply aO;rfl;all_goals intro hc;have hq:=hc;(try simp only [cF] at hq);try exfalso;omega)|apply aK|apply aS|apply bI|apply aQ)|with_reducible apply aA|with_reducible apply bK|with_reducible apply bJ|with_reducible apply cT|with_reducible apply bH)
   all_goals (
    (refine aP rfl ?_; refine bY () trivial ?_ ⟨.inr (Eq.trans (b := some _) rfl ?_), ⟨.inr (Eq.trans (b := some _) rfl ?_), ⟨.inr (Eq.trans (b := some _) rfl ?_), trivial⟩⟩⟩)
    ·rfl
    ·rfl
    ·rfl
    ·rfl)
  ·have hd : dR ts s x = (s, lM (uP s.cells s.slots[x.y.toNat]!.ptr (decide (x.op = 5)))) := by unfold dR; rw [if_neg (show ¬ x.op = 1 by omega), if_neg (show ¬ x.op = 2 by omega), if_neg (show ¬ x.op = 3 by omega), if_pos ho, if_neg hk]
   rw [hd]
   repeat' (first|(apply aM;first|(apply jG;(case hx|hH => rfl);(case hf|hg|hα => infer_instance);(case hk => omega);(case hj => decide);(case hc => exact (rfl:_=[_, _]));(case h0|hN => rfl))|((with_reducible apply aJ (k := 155));(case ha => rfl);(case h => exact hle);(case hp => (exact Pur.pf));(case hN => rfl))|(apply aE;rfl;rfl)|(apply aL;rfl;rfl;rfl;rfl)|(apply aD;rfl;rfl;rfl)|(apply aR;rfl;rfl;rfl;rfl)|(apply aC;rfl;rfl)|(apply cP;rfl;rfl;(assumption);rfl)|((with_reducible apply aJ (k := 156));(case ha => rfl);(case h => (apply rI <;> (fail)));(case hp => (rfl));(case hN => rfl))|(apply aF;kernel_rfl)|(apply bW;rfl;rfl;rfl)|(apply bE;rfl;rfl)|(apply cB;rfl;rfl;rfl)|(apply aW;rfl;rfl;rfl;rfl;rfl;(case hl => (simp;done));(exact (rfl:_=[_, _]))))|(apply aN;first|apply aI|apply aB|(apply b8;kernel_rfl)|(apply bZ;rfl;(assumption))|(apply aO;rfl;all_goals intro hc;have hq:=hc;(try simp only [cF] at hq);try exfalso;omega)|apply aK|apply aS|apply bI|apply aQ)|with_reducible apply aA|with_reducible apply bK|with_reducible apply bJ|with_reducible apply cT|with_reducible apply bH)
   all_goals (
    (refine aP rfl ?_; refine bY () trivial ?_ ⟨.inr (Eq.trans (b := some _) rfl ?_), ⟨.inr (Eq.trans (b := some _) rfl ?_), ⟨.inr (Eq.trans (b := some _) rfl ?_), trivial⟩⟩⟩)
    ·rfl
    ·rfl
    ·rfl
    ·rfl)
end Go.Proofs.YtjcpngimjdckmaaGreat
